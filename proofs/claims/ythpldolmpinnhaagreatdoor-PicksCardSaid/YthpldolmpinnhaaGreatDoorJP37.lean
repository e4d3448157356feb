import Derived.Test.YthpldolmpinnhaaGreatDoorJP36
import Derived.Maps.Own
import Derived.Maps.Views
set_option maxHeartbeats 64000000
open Go.Lib renaming hid→z7,idxFromS→yv
open Go.ByteArray renaming toList_eq→z8
open Nat renaming le_refl→zy,le_trans→zj,zero_add→yy,zero_le→yg,lt_of_lt_of_le→yY
open List renaming getD_eq_getElem?_getD→zx,length_cons→zf,all_eq_true→zZ,mem_append→zU,getElem?_append_right→zJ,getElem?_append_left→zD,all_cons→zL,drop_of_length_le→zM,headD_cons→zN,cons_append→zS,length→zW,eq_nil_of_length_eq_zero→za,tail_append_of_ne_nil→zi,getElem_append_right→zl,drop_eq_getElem_cons→zm,mem_cons→zo,getElem_append_left→zr,getElem?_eq_getElem→zt,getElem?_eq_none→yx,take_succ_cons→yf,takeWhile_cons→yd,getElem?_drop→yZ,isEmpty_cons→yX,take_length→yV,not_mem_nil→yU,getElem_mem→yK,mem_filter→yJ,map_append→yG,length_map→yF,find?_cons→yD,tail_cons→yC,drop_drop→yE
open Bool renaming and_eq_true→zv,not_eq_true'→zE,or_eq_true→zc,true_and→zw
open Go.RowKit.Below renaming refl→zu,setCell→zH,alloc→zP
open Go.World renaming block_lt_of_cell?→zk
open Go.IntKind renaming wrap_i64→zg,i64→zG
open And renaming intro→zY
open UInt8 renaming ofNat→zX,toNat_ofNat'→yj
open ByteArray renaming data_append→zV,ext→zO
open Go.WideMaps renaming keyOf_string_mk→zQ
open Int renaming tmod_eq_emod_of_nonneg→zF
open Go.Maps renaming string_keyed→zR,atKey_put_other→yq
open Option renaming isSome_iff_exists→ze
open Go.Op renaming equalIn→zn,bytesLess→yu
open Go.Lib.laidMet renaming reads→zh
open Option.some renaming inj→yz
open List.cons renaming injEq→yk
open Go.DataW renaming trod→yb
open Go.Proofs.Tryz
namespace Go.Proofs.YthpldolmpinnhaaGreatDoor
open Go Go.RowKit
set_option maxRecDepth 10000
abbrev Th:=Wd×List UInt8
def fx(w:World)(v:Value)(rs:List Th):Prop :=
 ∃ a cap,v = .slice a rs.length cap/\∀ j (h:j<rs.length),∃ g o,a=some ⟨g,o,none⟩/\w.cell? ⟨g,o+j*2,none⟩=some (xf rs[j].1)/\w.cell? ⟨g,o+j*2+1,none⟩=some (xf rs[j].2)
theorem fx.below{w w':World}{v:Value}{rs:List Th}(h:fx w v rs)(hb:Below w.heap.size w w'):fx w' v rs:=by
 obtain⟨a,cap,hv,h⟩:=h;refine⟨a,cap,hv,fun j hj=>?_⟩;obtain⟨g,o,e1,e2,e3⟩:=h j hj;exact⟨g,o,e1,(hb.cell (zk w _ e2)).trans e2,(hb.cell (zk w _ e3)).trans e3⟩
def Ft(n:Wd):Int:=Lib.idxOfS Xb ⟨n.toArray⟩
def Zn:List Th->List Wd->List (Nat×qe)->Option (List (Nat×qe))
 | [],_,acc=>some acc
 |(n,c)::t,seen,acc=>match Bz c with
  | none=>none
  | some T=>if Ft n<0\/n∈seen then none else Zn t (n::seen) (acc++[((Ft n).toNat,T)])
def Xh(rs:List Th):Option (List (Nat×qe)):=Zn rs [[111,116,104,101,114]] []
theorem lg:ZN prog 135 216 (.agg #[.int .i64 0,.nilFunc]) 2 16 :=
 ⟨underlying135,info_parts (by kernel_rfl),rfl,by decide,by decide⟩
def Zo(lo:Nat)(w:World)(sv:Value)(S:List (Nat×qe)):Prop :=
 ∃ vs:List Value,w.ownsRow lo 216 2 sv S.length vs /\
  ∀ j (h:j<S.length),∃ u l h',vs[j*2]? = some (.int .i64 S[j].1)/\vs[j*2+1]? = some u/\lo<=l/\h'<=w.heap.size/\(∀ g,sv.ownBlock=some g->g<l\/h'<=g)/\kK l h' w u S[j].2
theorem Zo.nil(lo:Nat)(w:World):Zo lo w (.slice none 0 0) []:=⟨[],World.ownsRow_nil _ _ _ _,fun j h=>absurd h (Nat.not_lt_zero j)⟩
theorem Zo.form{lo:Nat}{w:World}{sv:Value}{S:List (Nat×qe)}(h:Zo lo w sv S):∃ a cap,sv = .slice a S.length cap:=by
 obtain⟨vs,ho,_⟩:=h;exact xY ho
theorem Zo.lt{lo:Nat}{w:World}{sv:Value}{S:List (Nat×qe)}(h:Zo lo w sv S):∀ g,sv.ownBlock=some g->lo<=g/\g<w.heap.size:=by
 obtain⟨vs,ho,_⟩:=h;exact ho.lt
theorem Zo.but{lo b:Nat}{w w':World}{sv:Value}{S:List (Nat×qe)}(h:Zo lo w sv S)(hb:xl b w w')(xw:sv.ownBlock≠some b)
  (hl:b<lo\/w.heap.size<=b):Zo lo w' sv S:=by
 obtain⟨vs,ho,ht⟩:=h;refine⟨vs,ho.kept (row:=some b) ⟨hb.os,hb.tape,hb.output,hb.size,fun i hi hn=>hb.block i hi (fun e=>hn (by rw[e]))⟩ (.inr xw),fun j hj=>?_⟩;obtain⟨u,l,h',e1,e2,e3,e4,e5,e6⟩:=ht j hj;refine⟨u,l,h',e1,e2,e3,zj e4 hb.size,e5,e6.keep ⟨zj e4 hb.size,fun k k1 k2=>hb.block k (by omega) (by omega)⟩ (zy _) (zy _)⟩
theorem Zo.below{lo:Nat}{w w':World}{sv:Value}{S:List (Nat×qe)}(h:Zo lo w sv S)(hb:Below w.heap.size w w'):Zo lo w' sv S :=
 h.but (xl.of (p:=w.heap.size) hb) (fun e=>by have:=(h.lt _ e).2;omega) (.inr (zy _))
theorem Ba{k:TypeId}{R:Value->Option (DataW Unit×List MemPlace)}{b n:Nat}{D:DataW Unit}{w w':World}(h:w.ownsMap prog k R b n D)(hb:Below w.heap.size w w'):w'.ownsMap prog k R b n D :=
 h.kept (row:=none) ⟨hb.os,hb.tape,hb.output,hb.size,fun i hi _=>hb.block i hi⟩ (by simp)
theorem ld(fn:Fn)(first cap:Array Value)(w:World):(binOp .eql 214 (.func fn first cap) .nilFunc).run prog w = .ok (.bool false) w:=by
 have h:∀ d:Nat,(zn (d+1) 214 (.func fn first cap) .nilFunc).run prog w = .ok false w:=fun d=>by
  simp[zn,run_underlying underlying214]
 simp only[binOp];simp[Op.equal,Op.maxDepth,h 9999]
theorem Le(w:World):(binOp .eql 214 .nilFunc .nilFunc).run prog w = .ok (.bool true) w:=by
 have h:∀ d:Nat,(zn (d+1) 214 .nilFunc .nilFunc).run prog w = .ok true w:=fun d=>by
  simp[zn,run_underlying underlying214]
 simp only[binOp];simp[Op.equal,Op.maxDepth,h 9999]
theorem Zo.more{lo l0 h0:Nat}{w w1 w':World}{sv Qg:Value}{S:List (Nat×qe)}{q:Nat×qe}{vs:List Value}{u:Value}
  (ht:∀ j (h:j<S.length),∃ u l h',vs[j*2]? = some (.int .i64 S[j].1)/\vs[j*2+1]? = some u/\lo<=l/\h'<=w.heap.size/\(∀ g,sv.ownBlock=some g->g<l\/h'<=g)/\kK l h' w u S[j].2) (DX:vs.length=S.length*2)
  (hT:kK l0 h0 w u q.2) (sr:lo<=l0) (Mx:h0<=w.heap.size) (WH:∀ g,sv.ownBlock=some g->g<l0\/h0<=g)
  (hb:Below w.heap.size w w1) (um:w1.grownBy w' sv.ownBlock) (UX:Qg.ownBlock=sv.ownBlock\/Qg.ownBlock=some w1.heap.size) (ho:w'.ownsRow lo 216 2 Qg (S.length+1) (vs++[.int .i64 q.1,u])) :
  Zo lo w' Qg (S++[q]):=by
 have Kc:∀ l h',h'<=w.heap.size->(∀ g,sv.ownBlock=some g->g<l\/h'<=g)->vK l h' w w':=by
  intro l h' hh hg;refine⟨zj hh (zj hb.size um.size),fun k k1 k2=>?_⟩;rw[um.block k (by have:=hb.size;omega) (fun e=>by rcases hg k e.symm with q|q<;>omega)];exact hb.block k (by omega)
 have iF:∀ l h',h'<=w.heap.size->(∀ g,sv.ownBlock=some g->g<l\/h'<=g)->∀ g,Qg.ownBlock=some g->g<l\/h'<=g:=by
  intro l h' hh hg g e;rcases UX with q|q
  ·exact hg g (q▸e)
  ·rw[q] at e
   cases e;exact .inr (zj hh hb.size)
 refine⟨vs++[.int .i64 q.1,u],by simpa using ho,fun j hj=>?_⟩;by_cases K3:j<S.length
 ·obtain⟨x,l,h',e1,e2,e3,e4,e5,e6⟩:=ht j K3;refine⟨x,l,h',?_,?_,e3,zj e4 (zj hb.size um.size),iF l h' e4 e5,?_⟩
  ·rw[zD (by omega),zr K3];exact e1
  ·rw[zD (by omega)];exact e2
  ·rw[zr K3];exact e6.keep (Kc l h' e4 e5) (zy _) (zy _)
 ·have e:j=S.length:=by simp at hj;omega
  subst e;refine⟨u,l0,h0,?_,?_,sr,zj Mx (zj hb.size um.size),iF l0 h0 Mx WH,?_⟩
  ·rw[zJ (by omega),DX,zl (by omega)];simp
  ·rw[zJ (by omega),DX];simp
  ·rw[zl (by omega)];simpa using hT.keep (Kc l0 h0 Mx WH) (zy _) (zy _)
theorem Zo.set{lo cap:Nat}{w:World}{a:Option Addr}{S:List (Nat×qe)}(h:Zo lo w (.slice a S.length cap) S):EF lo w.heap.size w a S:=by
 obtain⟨vs,ho,ht⟩:=h;intro j hj;obtain⟨u,l,h',e1,e2,e3,e4,e5,e6⟩:=ht j hj;obtain⟨g,uy,hv,hg,dy,hc⟩:=vQ ho (by omega)
 cases hv;refine⟨g,0,u,rfl,?_,?_,hg,dy,e6.keep (vg e4) e3 e4⟩
 ·rw[yy,hc (j*2) (by omega)];exact e1
 ·rw[yy,hc (j*2+1) (by omega)];exact e2
def yev(r:Option (List (Nat×qe)))(w:World)(e:Ending)(w':World):Prop :=
 (match r with|none=>e = .returned (.tuple #[.slice none 0 0,.bool false])|some S=>∃ a c,e = .returned (.tuple #[.slice a S.length c,.bool true])/\EF w.heap.size w'.heap.size w' a S)/\Below w.heap.size w w'
def RQ(D:DataW Unit)(seen:List Wd):Prop:=Maps.IsMap D/\∀ n:Wd,∃ c:Int,D.atKey (.string n) (.lit (.int .i64 0)) = .lit (.int .i64 c)/\(0<c ↔ n∈seen)/\0<=c/\c<=seen.length
def rR(rs:List Th)(r:Option (List (Nat×qe)))(mb:Nat)(w:World)(sv:Value)(k:Nat)(wr:World):Prop :=
 ∃ (S:List (Nat×qe)) (seen:List Wd) (D:DataW Unit),Zo (mb+1) wr sv S/\wr.ownsMap prog 9 (plainElem prog 3) mb (k+1) D/\RQ D seen/\seen.length<=k+1/\Below w.heap.size w wr/\w.heap.size<=mb /\
  S.length<=k/\Zn (rs.drop k) seen S=r
theorem OR:RQ ((DataW.map []:DataW Unit).put (.string [111,116,104,101,114]) (.lit (.int .i64 1))) [[111,116,104,101,114]]:=by
 refine⟨⟨_,rfl⟩,fun n=>?_⟩;by_cases h:n=[111,116,104,101,114]
 ·subst h;exact⟨1,by kernel_rfl,by simp,by decide,by simp⟩
 ·refine⟨0,?_,by simp[h],by decide,by simp⟩;rw[yq (by simpa using h)];rfl
theorem Tw{D:DataW Unit}{seen:List Wd}{n:Wd}(h:RQ D seen){c:Int}(hc:D.atKey (.string n) (.lit (.int .i64 0)) = .lit (.int .i64 c)):RQ (D.put (.string n) (.lit (.int .i64 (c+1)))) (n::seen):=by
 obtain⟨⟨es,rfl⟩,h2⟩:=h;refine⟨⟨_,rfl⟩,fun m=>?_⟩;by_cases hm:m=n
 ·subst hm;obtain⟨c',e1,e2,e3,e4⟩:=h2 m;rw[hc] at e1
  cases e1;exact⟨c+1,Maps.atKey_put_same ⟨_,rfl⟩ (by trivial) _ _,by simp;omega,by omega,by simp;omega⟩
 ·obtain⟨c',e1,e2,e3,e4⟩:=h2 m;refine⟨c',?_,by simp[hm,e2],e3,by simp;omega⟩;rw[yq (by simpa using hm)];exact e1
theorem OS(rs:List Th)(v:Value)(w:World)(hv:fx w v rs)(hl:rs.length<=1000000)(hz:∀ q∈rs,q.1.length<=1000000/\q.2.length<=1000000)(hT:Tt w)(hN:qP w) :
  Calls prog 59 #[v] w (yev (Xh rs) w):=by
 obtain⟨a,cap,rfl,vU⟩:=hv;obtain⟨r,hr⟩:∃ r,Xh rs=r:=⟨_,rfl⟩;rw[hr];have HR:=z7 hr;have HC:=z7 vU;have HZ:=z7 hz;have HT:=z7 hT;have HN:=z7 hN;have M4:=@run_makeMap prog;clear hr vU hz hT hN;go_enter func59,ntmps59;go_wp2;obtain⟨w1,vH,VH,um⟩:=(World.ownsMap_made (H:=Unit) w prog 9 (plainElem prog 3)).update (zR underlying9) underlying185 (by unfold maxLen;omega) (zQ (s:=⟨#[111,116,104,101,114]⟩) underlying9 (by decide)) (plainElem_int underlying3 (q := .i64) (a:=1) (by decide));rw[vH];simp only[Result.andThen];have hb:Below w.heap.size w w1:=((zu _ _).alloc (zy _) _).grown um (by simp) (fun j hj=>by cases hj;exact zy _);have Vb:=z7 VH;clear vH VH um;obtain⟨mb,EM⟩:∃ mb,mb=w.heap.size:=⟨_,rfl⟩;rw[←EM] at Vb;go_wp2;rw[←EM];have NY:=z7 EM;clear EM;go_loopw [2,13] (fun sv i wr=>∃ k:Nat,k<=rs.length/\i = .int .i64 k/\rR rs r mb w sv k wr) (fun _ i _=>rs.length - (intOf i).toNat)
 case atStart=>exact⟨0,yg _,rfl,[],[[111,116,104,101,114]],_,Zo.nil _ _,Vb.out,OR,by simp,hb,by have:=NY.out;omega,by simp,HR.out⟩
 case round =>
  obtain⟨k,hk,rfl,S,seen,D,vL,zr6,wM,dm,qI,zr7,hSk,jR⟩:=hrel;have qB:=z7 vL;have zr8:=z7 zr6;have wN:=z7 wM;have bu:=z7 jR;obtain⟨sa,sc,rfl⟩:=vL.form;clear vL zr6 wM jR hb;by_cases xC:k<rs.length
  ·obtain⟨g,o,rfl,c1,c2⟩:=HC.out k xC;have d1:=(qI.cell (zk w _ c1)).trans c1;have d2:=(qI.cell (zk w _ c2)).trans c2;clear c1 c2;go_wp2_with fail;have hzk:=HZ.out rs[k] (yK xC);obtain⟨nm,Mg⟩:∃ nm,rs[k].1=nm:=⟨_,rfl⟩;obtain⟨wh,hwh⟩:∃ wh,rs[k].2=wh:=⟨_,rfl⟩;rw[Mg,hwh] at hzk;rw[Mg] at d1 ⊢;rw[hwh] at d2 ⊢;have F:∃ W,W=wr.alloc (.cells #[xf nm,xf wh] 71)/\Below wr.heap.size wr W/\W.cell? ⟨wr.heap.size,0,none⟩=some (xf nm)/\W.cell? ⟨wr.heap.size,1,none⟩=some (xf wh):=⟨_,rfl,(zu _ _).alloc (zy _) _,xq _ _ _ _ _,xq _ _ _ _ _⟩;obtain⟨W,hW,gP,b0,b1⟩:=F;rw[←hW];have kM:Zn (rs.drop k) seen S=match Bz wh with
     | none=>none
     | some T=>if Ft nm<0\/nm∈seen then none else Zn (rs.drop (k+1)) (nm::seen) (S++[((Ft nm).toNat,T)]):=by
    rw[zm xC];have hp:rs[k]=(nm,wh):=by rw[←Mg,←hwh]
    rw[hp,Zn]
   rw[bu.out] at kM;have jN:=z7 kM;have Mt:Below w.heap.size w W:=qI.trans (gP.mono qI.size);obtain⟨B,hB⟩:∃ B,B=wr.heap.size:=⟨_,rfl⟩;rw[←hB] at b0 b1 ⊢;have tL:=z7 hB;clear hW kM Mg hwh d1 d2 hB;have jh:W.drew.cell? ⟨B,0,none⟩=some (xf nm):=b0;refine rt (fun W':World=>W'.cell? ⟨B,0,none⟩=some (xf nm)) [0,1,2] 2 jh ?_;(iterate 3 ((first|refine ty ?_|refine tn ?_);try simp only[pl]))
   refine xk ?_;refine xg 3 (by kernel_rfl) rfl (fun K hK=>?_);go_simp;have XG:qP W.drew:=HN.out.below (show Below w.heap.size w W.drew from Mt.drew);refine(Tryz.slices_Index_string 0 0 6 6 Xb ⟨nm.toArray⟩ _ (by decide) (by decide) (fun j hj=>by rw[yy];exact XG j hj)).mono ?_;rintro e w' ⟨rfl,rfl⟩;refine hK.out _ _ jh (fun _=>?_);clear hK K;refine xE [4] 0 rfl (by intro _ _ d _ _ h;cases d<;>exact h) (by kernel_rfl) (by kernel_rfl) jh ?_;(iterate 1 ((first|refine ty ?_|refine tn ?_);try simp only[pl]))
   refine xk ?_;refine wpAnyH_done (by kernel_rfl) ?_ _;have Sk:Lib.idxOfS (Xb.take 6) ⟨nm.toArray⟩=Ft nm:=rfl;rw[Sk];obtain⟨ix,zr9⟩:∃ ix,Ft nm=ix:=⟨_,rfl⟩;rw[zr9] at jN ⊢;have hcnd:=DW ⟨wh.toArray⟩ W.drew (by rw[size_mk];omega) (HT.out.below Mt.drew);rw[toList_mk] at hcnd;have yeu:=z7 hcnd;have b1d:W.drew.cell? ⟨B,1,none⟩=some (xf wh):=b1;clear Sk zr9 hcnd XG;go_wp2_with fail;refine yeu.out.mono ?_;rintro e w3 ⟨hq,uP⟩;have lb:Below W.heap.size W w3:=(zu _ W).drew.trans uP;have X1:Below w.heap.size w w3:=Mt.trans (lb.mono Mt.size);have hB:B<W.heap.size:=zk W _ b0;have e0:=(lb.cell (p:=⟨B,0,none⟩) hB).trans b0;have LD:=z7 ((qB.out.below gP).below lb);have lZ:=z7 (Ba (Ba zr8.out gP) lb);obtain⟨c,Hj,UX,JO⟩:=lZ.out.lookup_int (zR underlying9) underlying185 underlying3 (q := .i64) (by first|rfl|simp[go_sem]) (key:=xf nm) (zQ (s:=⟨nm.toArray⟩) underlying9 (by rw[size_mk];unfold maxLen;omega));rw[toList_mk] at UX;obtain⟨c',uT,qU,M6,KE⟩:=wN.out.2 nm;rw[uT] at UX
   cases UX;have hef:=ld;have fP:=Le
   cases hc:Bz wh with
   | none =>
    rw[hc] at hq;obtain rfl:=hq;have wO:r=none:=by rw[jN.out,hc]
    have aX:=z7 wO;clear hc wO qU uT;by_cases h1:ix<0
    ·have g1:decide (ix<0)=true:=decide_eq_true h1;go_wp2;go_ret2
     refine⟨?_,X1⟩;rw[aX.out];rfl
    ·have g1:decide (ix<0)=false:=decide_eq_false h1;by_cases h2:0<c
     ·have g2:decide (0<c)=true:=decide_eq_true h2;go_wp2;go_ret2
      refine⟨?_,X1⟩;rw[aX.out];rfl
     ·have g2:decide (0<c)=false:=decide_eq_false h2;go_wp2;go_ret2
      refine⟨?_,X1⟩;rw[aX.out];rfl
   | some T =>
    rw[hc] at hq;obtain⟨tv,rfl,Wb⟩:=hq;have vR:=jN.out;rw[hc] at vR;dsimp only at vR;have zg9:=z7 vR;have HFT:=z7 Wb;obtain⟨kf,bX,rfl,_⟩:=Wb;clear hc vR;by_cases h1:ix<0
    ·have g1:decide (ix<0)=true:=decide_eq_true h1;have wO:r=none:=by rw[zg9.out,if_pos (.inl h1)]
     have aX:=z7 wO;clear wO qU uT;go_wp2;go_ret2
     refine⟨?_,X1⟩;rw[aX.out];rfl
    ·have g1:decide (ix<0)=false:=decide_eq_false h1;by_cases h2:0<c
     ·have g2:decide (0<c)=true:=decide_eq_true h2;have wO:r=none:=by rw[zg9.out,if_pos (.inr (qU.1 h2))]
      have aX:=z7 wO;clear wO qU uT;go_wp2;go_ret2
      refine⟨?_,X1⟩;rw[aX.out];rfl
     ·obtain rfl:c=0:=by omega
      have hns:¬nm∈seen:=fun hm=>h2 (qU.2 hm)
      have hrc:Zn (rs.drop (k+1)) (nm::seen) (S++[(ix.toNat,T)])=r:=by rw[zg9.out,if_neg (fun q=>q.elim h1 hns)]
      have Ew:=z7 hrc;have gM:=z7 uT;obtain⟨iN,hiN⟩:∃ iN:Nat,ix=(iN:Int):=⟨ix.toNat,by omega⟩;subst hiN;rw[Int.toNat_natCast] at Ew;obtain⟨w4,xgj,lY,jk⟩:=lZ.out.update (zR underlying9) underlying185 (by unfold maxLen;omega) (key:=xf nm) (zQ (s:=⟨nm.toArray⟩) underlying9 (by rw[size_mk];unfold maxLen;omega)) (plainElem_int underlying3 (q := .i64) (a:=1) (by decide));rw[toList_mk] at lY;have dh:xl mb w3 w4:=⟨jk.os,jk.tape,jk.output,jk.size,fun i hi hn=>jk.block i hi (fun e=>hn (by cases e;rfl))⟩;have xgg:=lZ.out.lt;have LJ:Zo (mb+1) w4 (.slice sa S.length sc) S:=LD.out.but dh (fun e=>by have:=(LD.out.lt _ e).1;omega) (.inl (Nat.lt_succ_self _));have XZ:Below w.heap.size w w4:=X1.grown jk X1.size (fun q hq=>by cases hq;exact zr7);have hmW:mb<wr.heap.size:=zr8.out.lt;have zrz:kK W.drew.heap.size w3.heap.size w4 (.func (.func kf) #[] bX) T:=HFT.out.keep ⟨jk.size,fun j j1 j2=>jk.block j j2 (fun e=>by cases e;have:=gP.size;change W.heap.size<=mb at j1;omega)⟩ (zy _) (zy _);have yeq:=z7 zrz;have zry:=z7 lY;obtain⟨vs,UG,BS⟩:=LJ;have Dq:=z7 UG;have D2:=z7 BS;have e04:w4.cell? ⟨B,0,none⟩=some (xf nm):=dh.cell e0 (by show B≠mb;have:=tL.out;omega);clear uT qU hrc zrz lY UG BS hns h1 h2;go_wp2_with (at_builtin;refine Ye lg rfl _ _ rfl (mb+1) _ S.length vs rfl (Dq.out.alloc _) ⟨w4.heap.size,0,none⟩ 1 1 [.int .i64 iN,.func (.func kf) #[] bX] rfl rfl ?k1 ?k2 ?k3 ?k4 ?_)
      case k1 =>
       intro j u hu;rw[ua];match j,hu with
       | 0,hu=>simp at hu;subst hu;exact xq _ _ _ _ _
       | 1,hu=>simp at hu;subst hu;exact xq _ _ _ _ _
      case k2 =>
       intro u hu;simp at hu;rcases hu with rfl|rfl<;>rfl
      case k3=>omega
      case k4=>have:=jk.size;have:=gP.size;have:=lb.size;simp;omega
      intro Qg w5 jc qt FO;have ZE:Below w4.heap.size w4 (w4.alloc (.cells #[.int .i64 iN,.func (.func kf) #[] bX] 216)):=(zu _ _).alloc (zy _) _;have Xm:Zo (mb+1) w5 Qg (S++[(iN,T)]) :=
       Zo.more D2.out (by have:=Dq.out.1;omega) yeq.out (by have:=gP.size;show mb+1<=W.heap.size;omega) jk.size (fun q hq => .inl (by have:=(qB.out.lt q hq).2;have:=gP.size;show q<W.heap.size;omega)) ZE qt (by simpa using FO) jc
      have wP:=(zry.out.alloc (.cells #[.int .i64 iN,.func (.func kf) #[] bX] 216)).kept qt (fun e=>by have:=(qB.out.lt mb e.symm).1;omega);have UP:Below w.heap.size w w5:=(XZ.alloc XZ.size _).grown qt (by have:=XZ.size;simp;omega) (fun q hq=>by have:=(qB.out.lt q hq).1;omega);obtain⟨a5,c5,rfl⟩:=xY jc;have FT:=z7 Xm;have zrx:=z7 wP;clear Xm wP jc qt FO ZE;go_wp2;go_roundw
      case rel=>exact⟨k+1,by omega,by go_num,S++[(iN,T)],nm::seen,_,by simpa using FT.out,zrx.out,Tw wN.out gM.out,by simp;omega,UP,zr7,by simp;omega,Ew.out⟩
      case measure=>simp[intOf];omega
  ·obtain rfl:k=rs.length:=by omega
   have jR:=bu.out;rw[zM (zy _)] at jR;have hr:r=some S:=by rw[←jR,Zn]
   have gI:=z7 hr;clear jR hr;go_wp2;go_ret2
   refine⟨?_,qI⟩;rw[gI.out];exact⟨sa,sc,rfl,qB.out.set.keep (vg (zy _)) (by omega) (zy _)⟩
def Li:List Th:=[([111,110,101],[105,32,61,32,49,32,97,110,100,32,118,32,61,32,48])]
def Ll:List Th:=[([111,110,101],[110,32,37,32,49,48,32,61,32,49,32,97,110,100,32,110,32,37,32,49,48,48,32,33,61,32,49,49]),([116,119,111],[110,32,37,32,49,48,32,61,32,50,32,97,110,100,32,110,32,37,32,49,48,48,32,33,61,32,49,50]),([102,101,119],[110,32,37,32,49,48,32,61,32,51,32,97,110,100,32,110,32,37,32,49,48,48,32,33,61,32,49,51])]
theorem Lm(w:World):Calls prog 15 #[] w fun e w'=>(∃ c o,e = .returned (IL c o 45 46 44 3 0 ⟨#[]⟩)/\fx w' c Li/\fx w' o Ll)/\Below w.heap.size w w':=by
 go_enter func15,ntmps15;go_wp2;refine bodyPost_ret (v:=IL (.slice (some ⟨w.heap.size+1,0,none⟩) 1 1) (.slice (some ⟨w.heap.size+1+1+1,0,none⟩) 3 3) 45 46 44 3 0 ⟨#[]⟩) ?_ rfl ⟨⟨_,_,rfl,⟨_,_,rfl,fun j hj=>⟨_,_,rfl,?_,?_⟩⟩,⟨_,_,rfl,fun j hj=>⟨_,_,rfl,?_,?_⟩⟩⟩,?_⟩
 ·simp[results,results15,go_sem]
 ·obtain rfl:j=0:=by have:j<1:=hj;omega
  go_simp;rfl
 ·obtain rfl:j=0:=by have:j<1:=hj;omega
  go_simp;rfl
 ·have:j<3:=hj;match j,this with
  | 0,_=>(go_simp;rfl)
  | 1,_=>(go_simp;rfl)
  | 2,_=>(go_simp;rfl)
 ·have:j<3:=hj;match j,this with
  | 0,_=>(go_simp;rfl)
  | 1,_=>(go_simp;rfl)
  | 2,_=>(go_simp;rfl)
 ·(repeat(first|(with_reducible exact zu _ _)|(with_reducible refine zP ?_ ?_ _;rotate_left;focus(first|(simp;done)|(simp;omega)))|(with_reducible refine zH ?_ ?_ _;rotate_left;focus(first|(simp;done)|(simp;omega)))))
def zgz(S:List (Nat×qe))(W:World)(u:Value):Prop:=∃ a c hi,u = .slice a S.length c/\EF 0 hi W a S/\hi<=W.heap.size
theorem Vk(rs:List Th)(S:List (Nat×qe))(v:Value)(w:World)(hv:fx w v rs)(hl:rs.length<=1000000)(hz:∀ q∈rs,q.1.length<=1000000/\q.2.length<=1000000)(hT:Tt w)(hN:qP w)(hS:Xh rs=some S) :
  jz w v true (zgz S):=by
 intro W hW;refine(OS rs v W (hv.below hW) hl hz (hT.below hW) (hN.below hW)).mono ?_;rintro e w1 ⟨hq,hb⟩;rw[hS] at hq;obtain⟨a,c,he,hr⟩:=hq;refine⟨⟨_,_,_,he,fun W2 hA=>⟨a,c,w1.heap.size,rfl,?_,hA.1⟩⟩,hb⟩;exact hr.keep (lo':=0) (hi':=w1.heap.size) ⟨hA.1,fun k h1 h2=>hA.2 k (.inr ⟨h1,h2⟩)⟩ (yg _) (zy _)
theorem fx.slice{w:World}{v:Value}{rs:List Th}(h:fx w v rs):∃ a n k,v = .slice a n k:=by
 obtain⟨a,cap,hv,-⟩:=h;exact⟨a,_,cap,hv⟩
theorem Vj:(∀ q∈Li,q.1.length<=1000000/\q.2.length<=1000000)/\∀ q∈Ll,q.1.length<=1000000/\q.2.length<=1000000:=by decide
def Bc:List (Nat×qe):=(Xh Li).getD []
def Be:List (Nat×qe):=(Xh Ll).getD []
theorem Yd:Xh Li=some Bc/\Xh Ll=some Be:=by
 have h:(Xh Li).isSome=true/\(Xh Ll).isSome=true:=by constructor<;>kernel_rfl
 constructor
 ·obtain⟨S,hS⟩:=ze.1 h.1;unfold Bc;rw[hS];rfl
 ·obtain⟨S,hS⟩:=ze.1 h.2;unfold Be;rw[hS];rfl
theorem lX(x:ByteArray):∀ (zs:List ByteArray) (i:Nat),yv zs x i<(i+zs.length:Nat)
 | [],i=>by simp[yv];omega
 | z::zs,i=>by
  rw[yv];split
  ·simp;omega
  ·have:=lX x zs (i+1);simp only[zf];omega
theorem lV(n:Wd):Ft n<6:=by
 have h:=lX ⟨n.toArray⟩ Xb 0;have e:Xb.length=6:=by decide
 rw[e] at h;exact h
theorem Bi:∀ (rs:List Th) (seen:List Wd) (acc S:List (Nat×qe)),Zn rs seen acc=some S->(∀ q∈acc,q.1<6)->S.length=acc.length+rs.length/\∀ q∈S,q.1<6
 | [],_,acc,S,h,ha=>by cases h;exact⟨by simp,ha⟩
 |(n,c)::t,seen,acc,S,h,ha=>by
  rw[Zn] at h;split at h
  ·cases h
  ·split at h
   ·cases h
   ·next hn =>
    have:=Bi t _ _ S h fun q hq=>by
     rcases zU.1 hq with hq|hq
     ·exact ha q hq
     ·have:=lV n;simp at hq;subst hq;simp only;omega
    refine⟨?_,this.2⟩;rw[this.1];simp;omega
theorem Wz{rs:List Th}{S:List (Nat×qe)}(h:Xh rs=some S):S.length=rs.length/\∀ q∈S,q.1<6:=by
 have:=Bi rs _ [] S h (by simp);simpa using this
theorem lU{rs:List Th}{S:List (Nat×qe)}(h:Xh rs=some S)(d:Dg):rN S d<6:=by
 have hS:=(Wz h).2;unfold rN;split
 ·next q hq=>exact hS q (List.mem_of_find?_eq_some hq)
 ·decide
structure OT(w:World):Prop where
 rt:Tt w
 names:qP w
 err:Kj w
theorem OT.below{w w':World}(h:OT w)(hb:Below w.heap.size w w'):OT w':=⟨h.rt.below hb,h.names.below hb,h.err.below hb⟩
structure Yh(w:World)(c o:Value):Prop where
 c:fx w c Li
 o:fx w o Ll
theorem Yh.below{w w':World}{c o:Value}(h:Yh w c o)(hb:Below w.heap.size w w'):Yh w' c o:=⟨h.c.below hb,h.o.below hb⟩
abbrev lQ(c o:Value):Value:=IL c o 45 46 44 3 0 ⟨#[]⟩
def zgy:qq Unit:=zr5 45 46 44 3 3 (xO (Za [])) Bc Be
theorem Bl:vA true true 45 46 44 ((3:Nat):Int) ((0:Nat):Int) []=true:=by simp[vA,qT,jd]
theorem rS{P q g mb:Nat}{f:Fo}{vC vI:Value}{rs:List (Value×Value)}{cv ov:Value}{w:World}(h:BX P q g mb f vC vI rs 45 46 44 3 0 [] cv ov w)(hc:zgz Bc w cv)(ho:zgz Be w ov):zj1 w g zgy:=by
 have hd:∀ x∈xO (Za []),WE x:=fun x hx=>Uq _ _ (zy _) x hx
 obtain⟨a,c,hi,rfl,s1,b1⟩:=hc;obtain⟨a',c',hi',rfl,s2,b2⟩:=ho;have k1:vK 0 hi w w:=⟨b1,fun _ _ _=>rfl⟩;have k2:vK 0 hi' w w:=⟨b2,fun _ _ _=>rfl⟩;refine zg5 (lo:=0) (hi:=w.heap.size) (fi:=3) (ne:=3) h.loc h.gl ⟨by decide,by decide,by decide,hd⟩ (by decide) (by decide) (by decide) h.g0 h.g1 ⟨by decide +kernel,by decide +kernel⟩ (s1.keep k1 (zy _) b1) (s2.keep k2 (zy _) b2) (zy _) (fun n hn=>?_) (fun b d=>?_)
 ·have h1:=hn.F9;have h2:=hn.JY;exact OO _ _ _ _ _ _ _ _ _ (by simp[xW];omega) (by omega)
 ·cases b
  ·exact lU Yd.1 d
  ·exact lU Yd.2 d
def yek(r:Except (Nat×Nat) Fo)(w:World)(e:Ending)(w':World):Prop :=
 Below w.heap.size w w'/\match r with
  | .error (n,a)=>e = .returned (.tuple #[.pointer none,.int .i64 (n:Nat),.int .i64 (a:Nat)])
  | .ok f=>∃ P q g mb vC vI rs,e = .returned (.tuple #[.pointer (some ⟨P,0,none⟩),.int .i64 0,.int .i64 0])/\Kw P q g mb f vC vI rs zgy w'
theorem lJ{p:Wd}{w:World}{c o:Value}(hp:p.length<=1000000)(hE:Ya w)(hR:Tt w)(hA:Yh w c o) :
  Calls prog 20 #[xf p,lQ c o] w (yek (gG p) w):=by
 refine(Ci ⟨p.toArray⟩ c o true true 45 46 44 3 0 ⟨#[]⟩ _ _ w (by rw[size_mk];exact hp) (by decide) (by decide) (by decide) (Vk Li Bc c w hA.c (by decide) Vj.1 hR hE.names Yd.1) (Vk Ll Be o w hA.o (by decide) Vj.2 hR hE.names Yd.2) ⟨hA.c.slice,hA.o.slice⟩ hE).mono ?_;rintro e w1 ⟨xH,vP⟩;rw[if_neg (by rw[Bl];decide),show(⟨p.toArray⟩:ByteArray).data.toList=p from rfl] at vP;refine⟨xH,?_⟩
 cases hr:gG p with
 | error x=>obtain⟨n,a⟩:=x;rw[hr] at vP;exact vP
 | ok f =>
  rw[hr] at vP;obtain⟨P,q,g,mb,vC,vI,rs,cv,ov,rfl,hph,Ql,ju⟩:=vP;obtain⟨r1,r2⟩:=Ko hr;obtain⟨v1,v2,v3,v4,v5⟩:=lj r1 r2;exact⟨P,q,g,mb,vC,vI,rs,rfl,hph.p0,hph.p1,hph.prog,rS hph (Ql w1 (zu _ _)) (ju w1 (zu _ _)),v1,v2,v3,v4,v5⟩
theorem Ln{p:Wd}{w:World}{c o:Value}(hp:p.length<=1000000)(hE:Ya w)(hR:Tt w)(hA:Yh w c o){l:List Wd}{a:Option Addr}{n cc:Nat}(ht:dO w a l)(hn:l.length=n)(hl:∀ t∈l,t.length<=1000000)(qX:n<=1000000) :
  Calls prog 12 #[xf p,lQ c o,.slice a n cc] w fun e w'=>(match gG p with
   | .error _=>e = .returned (.tuple #[xf [],.bool false])
   | .ok f=>∃ s k,e = .returned (.tuple #[xf s,.bool (decide (k=0))])/\Lg zgy f (qK l (0,fun _=>none)).1 (qK l (0,fun _=>none)).2 s k)/\Below w.heap.size w w':=by
 obtain⟨r,hr⟩:∃ r,gG p=r:=⟨_,rfl⟩;have HC:=z7 (fun (W:World) (hb:Below w.heap.size w W)=>lJ hp (hE.below hb) (hR.below hb) (hA.below hb));rw[hr] at HC ⊢;have HT:=z7 hE.tabs.err;have HA:=z7 (zY ht (zY hn (zY hl qX)));have HCO:=z7 (zY hA.c.slice hA.o.slice);clear hE hR hA hp hr ht hn hl qX;go_enter func12,ntmps12;go_wp2_with fail;refine vz ?_;intro W hW;have hb:Below w.heap.size w W:=by rw[hW];exact(zu _ _).alloc (zy _) _
 clear hW;refine(HC.out W hb).mono ?_;rintro e w1 ⟨xH,vP⟩;have uf:Below w.heap.size w w1:=hb.trans (xH.mono hb.size)
 cases r with
 | error x =>
  obtain⟨n,a⟩:=x;obtain rfl:=vP;have HB:=z7 uf;clear hb xH uf HC;go_wp2;go_ret2
  exact⟨rfl,HB.out⟩
 | ok f =>
  obtain⟨P,q,g,mb,vC,vI,rs,rfl,hM⟩:=vP;have HF:=z7 (Lf (c:=cc) hM (HT.out.below uf) (HA.out.1.fr (FH uf)) HA.out.2.1 HA.out.2.2.1 HA.out.2.2.2);have HB:=z7 uf;clear hb xH uf hM HC;go_wp2_with fail;refine HF.out.mono ?_;rintro e w2 ⟨⟨s,k,rfl,hs⟩,vF⟩;have HS:=z7 hs;have Qt:=z7 (HB.out.trans ((Uf vF).mono HB.out.size));clear HF hs vF;by_cases hk:k=0
  ·subst hk;go_wp2;go_ret2
   exact⟨⟨s,0,rfl,HS.out⟩,Qt.out⟩
  ·have P5:((k:Int)=0)=False:=by simp;omega
   go_wp2;go_ret2
   exact⟨⟨s,k,by simp[hk],HS.out⟩,Qt.out⟩
structure ZM(w:World):Prop where
 cmp:Ya w
 rt:Tt w
theorem ZM.below{w w':World}(h:ZM w)(hb:Below w.heap.size w w'):ZM w':=⟨h.cmp.below hb,h.rt.below hb⟩
theorem OW{s:Wd}{w:World}{c o:Value}(hs:s.length<=1000000)(hE:ZM w)(hA:Yh w c o) :
  Calls prog 16 #[xf s,lQ c o] w fun e w'=>e = .returned (.tuple #[xf (VA true s 45 46 44 3 0 []),.int .i64 (XR true s)])/\Below w.heap.size w w':=by
 have h:=Ia ⟨s.toArray⟩ c o true true 45 46 44 3 0 ⟨#[]⟩ _ _ w (by rw[size_mk];exact hs) (by decide) (by decide) (by decide) (Vk Li Bc c w hA.c (by decide) Vj.1 hE.rt hE.cmp.names Yd.1) (Vk Ll Be o w hA.o (by decide) Vj.2 hE.rt hE.cmp.names Yd.2) ⟨hA.c.slice,hA.o.slice⟩ hE.cmp.tabs;rw[show(⟨#[]⟩:ByteArray).data.toList=[] from rfl,Bl] at h;exact h
end Go.Proofs.YthpldolmpinnhaaGreatDoor
namespace Go.Proofs.YthpldolmpinnhaaGreatDoor
open Go.ChangeShapes Go.WideShapes Go.ChangeAt Go.RowKit Go.Lib
set_option maxRecDepth 10000
theorem mem_range:("strconv.ErrRange",Rows.laid_strconv_ErrRange)∈F8:=yJ.2 ⟨.tail _ (.tail _ (.tail _ (.tail _ (.tail _ (.head _))))),by kernel_rfl⟩
theorem OA:("strconv.ErrSyntax",Rows.laid_strconv_ErrSyntax)∈F8:=yJ.2 ⟨.tail _ (.tail _ (.tail _ (.tail _ (.tail _ (.tail _ (.head _)))))),by kernel_rfl⟩
theorem zgx:prog.globalNamed "strconv.ErrRange" = some 8:=by kernel_rfl
theorem rT:(prog.globals[8]?).map (·.type)=some 73:=by kernel_rfl
theorem rW:prog.globalNamed "strconv.ErrSyntax" = some 7:=by kernel_rfl
theorem lG:(prog.globals[7]?).map (·.type)=some 73:=by kernel_rfl
theorem lF{H:Type}{enc:TypeId×Value->H}{P:Program}{w:World}{base:Nat}{sp:Nat->Bool}{held:Bool}{fuel:Nat}{t:TypeId}{cs:List Value}{n:String}{d:DataW H}{p:List MemPlace}(ht:∃ ms,P.underlying t=some (.interface ms))
  (h:yb enc P w base sp held fuel t cs=some (.iface n d,p)):∃ u v,cs=[.iface u v]:=by
 cases fuel with
 | zero=>simp[yb] at h
 | succ k =>
  unfold yb at h;obtain⟨ms,ht⟩:=ht;rw[ht] at h;split at h<;>simp_all
theorem Fh{W:World}{n:String}{g:Nat}{nm:String}{d:DataW Unit}(hg:prog.globalNamed n=some g)(hT:(prog.globals[g]?).map (·.type)=some 73)(h:VarReads prog W n (.iface nm d)) :
  ∃ t v,W.cell? ⟨g,0,none⟩=some (.iface t v):=by
 obtain⟨g',t,cs,fuel,p,hg',M3,DN,hd⟩:=h;obtain rfl:=yz (hg.symm.trans hg');obtain rfl:=yz (hT.symm.trans M3);obtain⟨u,v,dT⟩:=lF ⟨_,underlying73⟩ hd;refine⟨u,v,?_⟩;rw[World.var?_cell hg DN 0,←Array.getElem?_toList,dT];rfl
theorem zrv{W:World}(h:laidMetH prog listed W):Tt W :=
 ⟨Fh rW lG (zh (bB h).1 OA),Fh zgx rT (zh (bB h).1 mem_range)⟩
theorem re{W:World}(h:laidMetH prog listed W):ZM W:=⟨zk2 h,zrv h⟩
end Go.Proofs.YthpldolmpinnhaaGreatDoor
namespace Go.Proofs.YthpldolmpinnhaaGreatDoor
open Go Go.RowKit
set_option maxRecDepth 10000
theorem Oa{rs r:List Int}{i:Nat}{x:Int}(h:rs.drop i=x::r):xX rs i=x:=by
 have:rs[i]? = some x:=by
  have h2:(rs.drop i)[0]? = some x:=by rw[h];rfl
  rw[yZ] at h2;exact h2
 unfold xX;rw[zx,this];rfl
theorem yej{rs:List Int}{i:Nat}(h:rs.drop i=[]):xX rs i = -1:=by
 have:rs.length<=i:=List.drop_eq_nil_iff.1 h;unfold xX;rw[zx,yx this];rfl
theorem Lo{rs r:List Int}{i:Nat}{x:Int}(h:rs.drop i=x::r):rs.drop (i+1)=r:=by
 rw[←yE,h];rfl
theorem ri{rs r:List Int}{i:Nat}(a:List Int)(h:rs.drop i=a++r):rs.drop (i+a.length)=r:=by
 rw[←yE,h];simp
theorem zru{rs l:List Int}{i:Nat}(h:rs.drop i=l)(k:Nat):xX rs (i+k)=l.getD k (-1):=by
 unfold xX;rw[zx,zx,←h,yZ]
theorem Oc{rs:List Int}{i:Nat}(S r:List Int)(h:rs.drop i=S++r)(hS:S.all ZP=true)(hr:ZP (r.headD (-1))=false):xP rs i=i+S.length:=by
 unfold xP;rw[h];congr 1;clear h;induction S with
 | nil =>
  cases r with
  | nil=>rfl
  | cons x r=>rw[zN] at hr;rw[List.nil_append,yd,hr];rfl
 | cons x S ih =>
  rw[zL,zv] at hS;rw[zS,yd,hS.1];simp only[if_true,zf];rw[ih hS.2]
theorem RJ{F:Int->Nat->Bool}{rs:List Int}{i n:Nat}(hF:∀ k,k<n->F (xX rs (i+k)) k=true)(he:F (xX rs (i+n)) n=false):∀ f k,k<=n->n<f+k->Xd F rs i f k=n
 | 0,k,h1,h2=>by omega
 | f+1,k,h1,h2=>by
  rw[Xd];by_cases hk:k=n
  ·subst hk;rw[if_neg (by rw[he];decide)]
  ·rw[if_pos (hF k (by omega)),RJ hF he f (k+1) (by omega) (by omega)]
theorem wR{F:Int->Nat->Bool}{rs:List Int}{i:Nat}(N r:List Int)(h:rs.drop i=N++r)(hF:∀ k,k<N.length->F (N.getD k (-1)) k=true)(he:F (r.headD (-1)) N.length=false):runN F rs i=N.length:=by
 have hl:N.length<=rs.length:=by
  have:=congrArg zW h;rw[List.length_drop,List.length_append] at this;omega
 refine RJ (fun k hk=>?_) ?_ _ 0 (yg _) (by omega)
 ·rw[zru h,zx,zD hk,←zx];exact hF k hk
 ·rw[zru h,zx,zJ (zy _),Nat.sub_self]
  cases r<;>simpa using he
theorem RG{rs:List Int}{i:Nat}(N r:List Int)(h:rs.drop i=N++r):qi rs i N.length=N.flatMap enc:=by
 unfold qi;rw[h];simp
def Oe(N:List Int)(c:Int):Bool := !N.isEmpty && ((List.range N.length).all fun k=>Zt (N.getD k (-1)) k) && !Zt c N.length
theorem zgv{rs:List Int}{i:Nat}(N r:List Int)(h:rs.drop i=N++r)(hk:Oe N (r.headD (-1))=true):jS rs i = .ok (N.flatMap enc,i+N.length):=by
 unfold Oe at hk;simp only[zv,zE,zZ,List.mem_range] at hk;have hn:qo rs i=N.length:=wR N r h (fun k P5=>hk.1.2 k P5) hk.2;unfold jS;rw[hn,if_neg (by cases N<;>simp at hk ⊢),RG N r h]
theorem Oi{rs:List Int}{i n:Nat}(N:List Int)(W:Wd){r:List Int}(h:rs.drop i=N++r)(hk:Oe N (r.headD (-1))=true)(hW:N.flatMap enc=W)(hn:i+N.length=n):jS rs i = .ok (W,n):=by
 rw[zgv N r h hk,hW,hn]
def QE(D:List Int)(c:Int):Bool := !D.isEmpty && decide (D.length<=9) && D.all uY && (decide (D.length=1) || D.headD 0 !=48) && !uY c
theorem rp{rs:List Int}{i:Nat}(D r:List Int)(h:rs.drop i=D++r)(hk:QE D (r.headD (-1))=true):kz rs i = .ok (D.flatMap enc,i+D.length):=by
 unfold QE at hk;simp only[zv,zE,zZ,decide_eq_true_eq,zc] at hk;obtain⟨⟨⟨⟨h1,h2⟩,h3⟩,h4⟩,h5⟩:=hk;have hh:xX rs i=D.headD 0:=by
  cases D with
  | nil=>simp at h1
  | cons x D=>exact Oa h
 have hn:qv rs i=D.length:=by
  refine wR D r h (fun k P5=>?_) (by unfold fG;rw[h5];simp);have hm:uY (D.getD k (-1))=true:=by
   rw[zx,zt P5];exact h3 _ (yK P5)
  unfold fG;rw[hm,hh];rcases h4 with h4|h4
  ·have:k=0:=by omega
   subst this;simp
  ·rw[h4];simp;omega
 unfold kz;rw[hn,if_neg (by cases D<;>simp at h1 ⊢),RG D r h]
theorem Ol{rs r:List Int}{i:Nat}{x:Int}(h:rs.drop i=x::r):vS rs x i = .ok ((),i+1):=by
 unfold vS;rw[if_pos (Oa h)]
theorem RF{rs r:List Int}{i:Nat}{x:Int}(h:rs.drop i=x::r)(hx:ZP x=false):xP rs i=i:=Oc [] _ h rfl hx
theorem RD{rs r:List Int}{i:Nat}{x:Int}(h:rs.drop i=32::x::r)(hx:ZP x=false):xP rs i=i+1:=Oc [32] _ h (by decide) hx
theorem wW{rs r:List Int}{i l j z:Nat}{m:ky}{num:Bool}{k:Wd}{f:Fo}(Uw:UR rs num i = .ok (k,j))(hb:rs.drop (xP rs j)=123::r)(hl:l=xP rs j+1)(hm:m num l = .ok (f,z))(hz:xX rs z=125):ZZ rs (some m) num i = .ok (.uq k i f .nil,xP rs (z+1)):=by
 subst hl;unfold ZZ;rw[Uw,then_ok,Ol hb,then_ok];show(m num (xP rs j+1)).then _=_;rw[hm,then_ok];unfold vS;rw[if_pos hz];rfl
theorem lD{rs:List Int}{i n:Nat}{m:Option ky}{num:Bool}{acc:Fo}(h:xX rs i=125)(ha:acc.len≠0):kQ rs m num (n+1) acc i = .ok (acc,i):=by
 rw[kQ,if_pos ⟨h,ha⟩]
theorem Lp{rs:List Int}{i j n:Nat}{m:Option ky}{num:Bool}{acc f:Fo}(h:xX rs i≠125)(hf:ZZ rs m num i = .ok (f,j)):kQ rs m num (n+1) acc i=kQ rs m num n (acc.app f) j:=by
 rw[kQ,if_neg (by intro q;exact h q.1),hf,then_ok]
theorem go_end{rs:List Int}{i n:Nat}{m:Option ky}{num:Bool}{acc:Fo}(h:xX rs i = -1\/xX rs i=125):uF rs m num (n+1) acc i = .ok (acc,i):=by
 rw[uF,if_pos h]
theorem go_arg{rs r:List Int}{i j n:Nat}{m:Option ky}{num:Bool}{acc f:Fo}(h:rs.drop i=123::r)(hf:ZY rs m i = .ok (f,j)):uF rs m num (n+1) acc i=uF rs m num n (acc.app f) j:=by
 rw[uF,if_neg (by rw[Oa h];decide),if_pos (Oa h),hf,then_ok]
theorem go_let{rs r:List Int}{i n:Nat}{m:Option ky}{num:Bool}{acc:Fo}{x:Int}(h:rs.drop i=x::r)(hx:kF x=true):uF rs m num (n+1) acc i=uF rs m num n (acc.xR (enc x)) (i+1):=by
 have e:=Oa h;have q:x≠-1/\x≠125/\x≠123/\x≠35/\x≠39:=by
  refine⟨?_,?_,?_,?_,?_⟩<;>(intro q;subst q;revert hx;decide)
 obtain⟨q1,q2,q3,q4,q5⟩:=q;rw[uF,if_neg (by rw[e];omega),if_neg (by rw[e];omega),if_neg (by rw[e];omega)];unfold kN;rw[if_pos (by rw[e];exact q5),e]
theorem lC{rs r:List Int}{i l q:Nat}{o:Wd}{m:Option ky}{bs:Fo}(h:rs.drop i=[123,110,44,32,112,108,117,114,97,108,44,32]++r)(hr:ZP (r.headD (-1))=false)(ho:Qr rs 1 (i+12) = .ok (o,l))(hb:kQ rs m true (rs.length+1) .nil l = .ok (bs,q))(hq:xX rs q=125) :
  ZY rs m i = .ok (.br [110] i 1 o q bs .nil,q+1):=by
 have h1:=Lo h;have h2:=Lo h1;have h3:=Lo h2;have h4:=Lo h3;have dV:rs.drop (i+4+6)=44::32::r:=ri [112,108,117,114,97,108] h4;have Qm:=Lo dV;have UL:=Lo Qm;unfold ZY;rw[Ol h,then_ok,RF h1 (by decide),Oi [110] [110] h1 (by rfl) (by decide) (n:=i+2) rfl,then_ok,show xP rs (i+2)=i+2 from RF h2 (by decide),if_neg (by rw[show xX rs (i+2)=44 from Oa h2];decide),show xP rs (i+2+1)=i+4 from RD h3 (by decide),Oi [112,108,117,114,97,108] H9 h4 (by rfl) (by decide) (n:=i+10) rfl,then_ok];rw[if_neg (by decide),show VE H9=some 1 by decide];show(vS rs 44 (xP rs (i+10))).then _=_;rw[show xP rs (i+10)=i+10 from RF dV (by decide),show vS rs 44 (i+10) = .ok ((),i+10+1) from Ol dV,then_ok,show xP rs (i+10+1)=i+12 from Oc [32] r Qm (by decide) hr,ho,then_ok];show(kQ rs m true (rs.length+1) .nil l).then _=_;rw[hb,then_ok];unfold vS;rw[if_pos hq,then_ok]
theorem zgu:∀ d:Fin 10,(⟨#[48,49,50,51,52,53,54,55,56,57]⟩:ByteArray).extract d.val (d.val+1)=⟨[qk d.val].toArray⟩:=by decide
theorem Lr:∀ (n:Nat) (w:World),n<=1000000000000->Calls prog 14 #[.int .i64 (n:Nat)] w fun e w'=>e = .returned (xf (xK n))/\w=w':=by
 intro n;induction n using Nat.strongRecOn with
 | ind n ih =>
  intro w hn;have HI:=z7 ih;obtain⟨d,hd⟩:∃ d,n % 10=d:=⟨_,rfl⟩;have yeg:d<10:=by omega
  have hr:Int.tmod (n:Int) 10=(d:Int):=by rw[zF (by omega)];omega
  have hx:=zgu ⟨d,yeg⟩;have hw:zG.wrap ((d:Int)+1)=(d:Int)+1:=by rw[zg];omega
  have g0:¬(n:Int)<0:=by omega
  have HD:=z7 hd;clear ih hd;by_cases h:n<10
  ·have g1:(n:Int)<10:=by omega
   go_enter func14,ntmps14;go_wp2;go_ret;have e:d=n:=by have:=HD.out;omega
   exact⟨by rw[uk h,e];rfl,rfl⟩
  ·have g1:¬(n:Int)<10:=by omega
   have hq:Int.tdiv (n:Int) 10=((n / 10:Nat):Int):=by rw[Int.tdiv_eq_ediv_of_nonneg (by omega)];omega
   obtain⟨m,hm⟩:∃ m,n / 10=m:=⟨_,rfl⟩;rw[hm] at hq;have HC:=z7 (HI.out m (by omega) w (by omega));have nE:(⟨(xK m).toArray⟩:ByteArray)++(⟨#[qk d]⟩:ByteArray)=⟨(xK m++[qk d]).toArray⟩:=by
    apply zO;simp[zV]
   have HX:=z7 (show xK n=xK m++[qk d] by rw[jg h,hm,HD.out]);have hlen:¬9223372036854775807<(xK m).length+1:=by have:=ZU m;omega
   have hwm:zG.wrap (m:Int)=(m:Int):=by rw[zg];omega
   clear hm;go_enter func14,ntmps14;go_wp2_with fail;refine HC.out.mono ?_;rintro e w' ⟨rfl,rfl⟩;go_wp2;go_ret;exact⟨by rw[HX.out];rfl,rfl⟩
def Om(v:Int):Wd:=if v<0 then 45::xK v.natAbs else xK v.natAbs
theorem lH(v:Int)(w:World)(h1 : -1000000000000<=v)(h2:v<=1000000000000):Calls prog 14 #[.int .i64 v] w fun e w'=>e = .returned (xf (Om v))/\w=w':=by
 by_cases h:v<0
 ·obtain⟨n,rfl⟩:∃ n:Nat,v = -(n:Int):=⟨v.natAbs,by omega⟩;have HC:=z7 (Lr n w (by omega));have hw:zG.wrap (n:Int)=(n:Int):=by rw[zg];omega
  have nE:(⟨#[45]⟩:ByteArray)++(⟨(xK n).toArray⟩:ByteArray)=⟨(45::xK n).toArray⟩:=by
   apply zO;simp[zV]
  have hlen:¬9223372036854775807<1+(xK n).length:=by have:=ZU n;omega
  have Ys:¬9223372036854775807<(xK n).length+1:=by have:=ZU n;omega
  have HX:=z7 (show Om (-(n:Int))=45::xK n by unfold Om;rw[if_pos h];simp);have g0 : -(n:Int)<0:=h;clear h1 h2;go_enter func14,ntmps14;go_wp2_with fail;refine HC.out.mono ?_;rintro e w' ⟨rfl,rfl⟩;go_wp2;go_ret;exact⟨by rw[HX.out];rfl,rfl⟩
 ·obtain⟨n,rfl⟩:∃ n:Nat,v=(n:Int):=⟨v.natAbs,by omega⟩;rw[show Om (n:Int)=xK n by unfold Om;rw[if_neg h];simp];exact Lr n w (by omega)
def UZ(c:Int)(n:Nat):Nat:=(if c<0 then -(c+1) else c).toNat % n
theorem Bm(c:Int)(n:Nat)(w:World)(h1 : -9223372036854775808<=c)(h2:c<=9223372036854775807)(hn:0<n)(dE:n<=4000000000):Calls prog 13 #[.int .i64 c,.int .i64 (n:Nat)] w fun e w'=>e = .returned (.int .i64 (UZ c n:Nat))/\w=w':=by
 have n0:((n:Int)=0)=False:=by simp;omega
 by_cases h:c<0
 ·have hw:zG.wrap (c+1)=c+1:=by rw[zg];omega
  have D7:zG.wrap (-(c+1)) = -(c+1):=by rw[zg];omega
  have hr:Int.tmod (-(c+1)) (n:Int)=(UZ c n:Nat):=by
   unfold UZ;rw[if_pos h,zF (by omega)];have : -(c+1)=((-(c+1)).toNat:Int):=by omega
   rw[this];simp
  clear h1 h2;go_enter func13,ntmps13;go_wp2;go_ret;exact⟨rfl,rfl⟩
 ·have hr:Int.tmod c (n:Int)=(UZ c n:Nat):=by
   unfold UZ;rw[if_neg h,zF (by omega)];have:c=(c.toNat:Int):=by omega
   rw[this];simp
  clear h1 h2;go_enter func13,ntmps13;go_wp2;go_ret;exact⟨rfl,rfl⟩
theorem RB{l:Wd}(h:l.all xQ=true):∀ c∈l,c.toNat<=127:=fun c hc=>by
 have:=qa (zZ.1 h c hc);omega
theorem rr{c:UInt8}(h:xQ c=true):uY (zI c)=true:=by
 have:=qa h;unfold uY zI;simp;omega
theorem lL(n:Nat):(xK n).length=1\/(xK n).headD 48≠48:=by
 by_cases h:n<10
 ·left;rw[uk h];rfl
 ·right;induction n using Nat.strongRecOn with
  | _ n ih =>
   rw[jg h];obtain⟨c,t,hc⟩:∃ c t,xK (n / 10)=c::t:=by
    cases hd:xK (n / 10) with
    | nil=>exact absurd hd (jl _)
    | cons c t=>exact⟨c,t,rfl⟩
   rw[hc,zS,zN];by_cases h2:n / 10<10
   ·rw[uk h2] at hc
    cases hc;intro q;have:=congrArg UInt8.toNat q;unfold qk at this;rw[yj] at this;simp at this;omega
   ·have:=ih (n / 10) (by omega) h2;rw[hc] at this;simpa using this
theorem Wy{n:Nat}(h:n<1000000000){c:Int}(hc:uY c=false):QE ((xK n).map zI) c=true:=by
 have h1:=jl n;have h2:=uV 8 n h;have h3:=dG n;have h4:=lL n;obtain⟨d,t,hd⟩:∃ d t,xK n=d::t:=by
  cases hd:xK n with
  | nil=>exact absurd hd h1
  | cons d t=>exact⟨d,t,rfl⟩
 rw[hd] at h2 h3 h4 ⊢;have h5:((d::t).map zI).all uY=true:=by
  rw[zZ];intro x hx;obtain⟨y,hy,rfl⟩:=List.mem_map.1 hx;exact rr (zZ.1 h3 y hy)
 unfold QE;rw[h5,hc];simp only[List.map_cons,yX,zf,yF,zN,Bool.not_false,Bool.and_true,zw,zv,zc,decide_eq_true_eq];simp only[zf] at h2 h4;refine⟨by omega,?_⟩;rcases h4 with h4|h4
 ·exact .inl h4
 ·right;rw[zN] at h4;exact bne_iff_ne.2 (ydg (d:=48) h4)
theorem zgq{t:Wd}(h:vr t=true):Zi (qK [[110],[110],t] (0,fun _=>none)).2 (qK [[110],[110],t] (0,fun _=>none)).1:=by
 refine⟨by show(if ((fun _=>none:Wd->Option (Wd×Bool)) [110]).isSome=true then 0 else 0+1)<=16;decide,fun m x hx=>?_⟩;have q9:(if [110]=m then some (t,([110]:Wd)==[110]) else none)=some x:=hx;split at q9
 ·next e =>
  cases q9;subst e;exact⟨by decide,by unfold jY;simpa using h⟩
 ·cases q9
theorem zgk{E:qq Unit}{f:Fo}{t o s:Wd}{k:Nat}(h:vr t=true)(hs:qx (JK E (qK [[110],[110],t] (0,fun _=>none)).2) f [] (false,([],[])) [] () = .ok (o,()))
  (hq:Lg E f (qK [[110],[110],t] (0,fun _=>none)).1 (qK [[110],[110],t] (0,fun _=>none)).2 s k):s=o/\k=0:=by
 rcases hq with⟨-,h2⟩|⟨h2,-⟩
 ·rw[hs] at h2;exact h2
 ·exact absurd (zgq h) h2
theorem RE{rs r:List Int}{i n:Nat}{m:Option ky}{num:Bool}{x:Int}(h:rs.drop i=x::125::r)(hx:kF x=true)(hn:1<n):uF rs m num n .nil i = .ok (.text (enc x) .nil,i+1):=by
 obtain⟨k,rfl⟩:∃ k,n=k+2:=⟨n - 2,by omega⟩;rw[go_let h hx,go_end (.inr (Oa (Lo h)))];rfl
theorem Ls(D:List Int)(hD:QE D 32=true):∃ a c,fF ([123,110,44,32,112,108,117,114,97,108,44,32,61]++(D++[32,123,65,125,32,111,116,104,101,114,32,123,66,125,125])) 5 false 0 =
  .ok (.br [110] 0 1 [48] c (.uq (61::D.flatMap enc) 12 (.text [65] .nil) (.uq [111,116,104,101,114] a (.text [66] .nil) .nil)) .nil,28+D.length):=by
 obtain⟨rs,bF⟩:∃ rs,[123,110,44,32,112,108,117,114,97,108,44,32,61]++(D++[32,123,65,125,32,111,116,104,101,114,32,123,66,125,125])=rs:=⟨_,rfl⟩;rw[bF];have hlen:rs.length=28+D.length:=by rw[←bF];simp;omega
 have h0:rs.drop 0=[123,110,44,32,112,108,117,114,97,108,44,32]++(61::(D++[32,123,65,125,32,111,116,104,101,114,32,123,66,125,125])):=by rw[List.drop_zero,←bF];rfl
 have UL:rs.drop 12=61::(D++[32,123,65,125,32,111,116,104,101,114,32,123,66,125,125]):=ri _ h0;have WY:rs.drop 13=D++[32,123,65,125,32,111,116,104,101,114,32,123,66,125,125]:=Lo UL;have hA:=ri _ WY;obtain⟨A,eA⟩:∃ A,13+D.length=A:=⟨_,rfl⟩;rw[eA] at hA;have b1:=Lo hA;have b2:=Lo b1;have b3:=Lo b2;have b4:=Lo b3;have b5:=Lo b4;have c0:rs.drop (A+5+5)=[32,123,66,125,125]:=ri [111,116,104,101,114] b5;have c1:=Lo c0;have c2:=Lo c1;have c3:=Lo c2;have c4:=Lo c3;have yef:Qr rs 1 12 = .ok ([48],12):=by
  unfold Qr;rw[if_neg (by unfold Dv;rw[UL];simp[C7])]
 have V6:fF rs 4 true (A+1+1) = .ok (.text [65] .nil,A+1+1+1):=RE b2 (by decide) (by omega);have jH:fF rs 4 true (A+5+5+1+1) = .ok (.text [66] .nil,A+5+5+1+1+1):=RE c2 (by decide) (by omega);have k1:xP rs A=A+1:=RD hA (by decide);have k2:xP rs (A+5+5)=A+5+5+1:=RD c0 (by decide);have zrq:ZZ rs (some (fF rs 4)) true 12 = .ok (.uq (61::D.flatMap enc) 12 (.text [65] .nil) .nil,A+5):=by
  have:=wW (m:=fF rs 4) (num:=true) (k:=61::D.flatMap enc) (f := .text [65] .nil) (i:=12) (j:=A) (l:=A+1+1) (z:=A+1+1+1) (r:=65::125::[32,111,116,104,101,114,32,123,66,125,125]) (by
   unfold UR;rw[if_pos ⟨rfl,Oa UL⟩,show kz rs (12+1) = .ok (D.flatMap enc,A) by rw[rp D _ WY hD,eA],then_ok]) (by rw[k1];exact b1) (by rw[k1]) V6 (Oa b3)
  rw[this,show xP rs (A+1+1+1+1)=A+5 from RD b4 (by decide)]
 have zrk:ZZ rs (some (fF rs 4)) true (A+5) = .ok (.uq [111,116,104,101,114] (A+5) (.text [66] .nil) .nil,A+14):=by
  have:=wW (m:=fF rs 4) (num:=true) (k:=[111,116,104,101,114]) (f := .text [66] .nil) (i:=A+5) (j:=A+5+5) (l:=A+5+5+1+1) (z:=A+5+5+1+1+1) (r:=66::125::[125]) (by
   unfold UR;rw[if_neg (by rw[show xX rs (A+5)=111 from Oa b5];decide),Oi [111,116,104,101,114] [111,116,104,101,114] b5 (by decide) (by decide) rfl,then_ok,if_neg (by decide)];rfl) (by rw[k2];exact c1) (by rw[k2]) jH (Oa c3)
  rw[this,show xP rs (A+5+5+1+1+1+1)=A+14 from RF c4 (by decide)]
 have nD:ZY rs (some (fF rs 4)) 0 = .ok (.br [110] 0 1 [48] (A+14) (.uq (61::D.flatMap enc) 12 (.text [65] .nil) (.uq [111,116,104,101,114] (A+5) (.text [66] .nil) .nil)) .nil,A+15):=by
  refine lC h0 (by rfl) yef ?_ (Oa c4);rw[hlen,show 28+D.length+1=(26+D.length)+1+1+1 by omega,Lp (by rw[Oa UL];decide) zrq,Lp (by rw[show xX rs (A+5)=111 from Oa b5];decide) zrk];exact lD (Oa c4) (by simp[Fo.app,Fo.len])
 refine⟨A+5,A+14,?_⟩;show uF rs (some (fF rs 4)) false (rs.length+1) .nil 0=_;rw[hlen,show 28+D.length+1=(27+D.length)+1+1 by omega,go_arg h0 nD,go_end (.inl (yej (zM (by omega))))];rw[show A+15=28+D.length by omega];rfl
def Wx(d:Wd):Wd:=[123,110,44,32,112,108,117,114,97,108,44,32,61]++d++[32,123,65,125,32,111,116,104,101,114,32,123,66,125,125]
def pkF(d:Wd)(a c:Nat):Fo := .br [110] 0 1 [48] c (.uq (61::d) 12 (.text [65] .nil) (.uq [111,116,104,101,114] a (.text [66] .nil) .nil)) .nil
theorem zgj(o:Wd)(a c:Nat):X3 (pkF o a c)=none:=by rfl
theorem Wv{m:Nat}(h:m<1000000000):∃ a c,gG (Wx (xK m)) = .ok (pkF (xK m) a c):=by
 have hd:=dG m;have hl:=uV 8 m h;have hA:∀ c∈Wx (xK m),c.toNat<=127:=by
  intro c hc;unfold Wx at hc;rcases zU.1 hc with hc|hc
  ·rcases zU.1 hc with hc|hc
   ·exact(by decide:∀ c∈([123,110,44,32,112,108,117,114,97,108,44,32,61]:Wd),c.toNat<=127) c hc
   ·exact RB hd c hc
  ·exact(by decide:∀ c∈([32,123,65,125,32,111,116,104,101,114,32,123,66,125,125]:Wd),c.toNat<=127) c hc
 obtain⟨h1,h2⟩:=Vu _ hA;obtain⟨a,c,hp⟩:=Ls ((xK m).map zI) (Wy h (by decide));have hlen:(Wx (xK m)).length=28+(xK m).length:=by unfold Wx;simp;omega
 refine⟨a,c,?_⟩;have hr:xO (Wx (xK m))=[123,110,44,32,112,108,117,114,97,108,44,32,61]++((xK m).map zI++[32,123,65,125,32,111,116,104,101,114,32,123,66,125,125]):=by
  rw[h1];unfold Wx;rw[yG,yG,List.append_assoc];rfl
 have Xx:ZR (xO (Wx (xK m))) = .ok (pkF (xK m) a c,28+(xK m).length):=by
  unfold ZR;rw[hr,hp,then_ok,cO _ (RB hd),yF,if_pos (qw (by simp;omega))];rfl
 unfold gG uW;rw[if_neg (by omega),if_neg (by omega),Xx];dsimp only;rw[zgj]
theorem Bn:∀ l:Wd,yu l l=false
 | []=>by simp[yu]
 | c::t=>by rw[yu,Bn t];simp
theorem lM(a b:Wd):cmpL a b=0 ↔ a=b:=by
 unfold cmpL;constructor
 ·intro h;split at h
  ·cases h
  ·split at h
   ·assumption
   ·cases h
 ·rintro rfl;rw[if_neg (by rw[Bn];simp),if_pos rfl]
theorem lN(n:vv)(v:Nat):qE n v=true ↔ n.1=false/\n.2.1=xK v/\SD n.2.2=false:=by
 unfold qE Q7;rw[zv,zE,decide_eq_true_eq,←lM];refine and_congr_right fun _=>?_
 split
 ·next h=>exact⟨fun q=>(by cases q),fun q=>(by omega)⟩
 ·split
  ·next h=>exact⟨fun q=>(by cases q),fun q=>by rcases h with h|h;(· omega);(· rw[q.2] at h;cases h)⟩
  ·next h1 h2 =>
   refine⟨fun _=>⟨by omega,?_⟩,fun _=>rfl⟩
   cases hb:SD n.2.2 with
   | false=>rfl
   | true=>exact absurd (.inr hb) h2
def bV(r:Wd):Bool:=r.isEmpty ||(r.head? == some 46 && (decide (1<r.length) && r.tail.all (· == 48)))
def dz(s v:Wd):Bool:=decide (s.take v.length=v) && bV (s.drop v.length)
theorem On{c:UInt8}(h:xQ c=true):c≠46/\c≠45:=⟨fun e=>by subst e;revert h;decide,fun e=>by subst e;revert h;decide⟩
theorem UY:∀ (v w T:Wd),v.all xQ=true->w.all xQ=true->(T=[]\/T.head? = some 46)->(dz (w++T) v=true ↔ v=w/\bV T=true)
 | [],[],T,_,_,_=>by simp[dz]
 | [],c::w,T,_,hw,_=>by
  rw[zL,zv] at hw;have:=(On hw.1).1;simp[dz,bV,this]
 | d::v,[],T,hv,_,hT=>by
  rw[zL,zv] at hv;have:=(On hv.1).1
  cases T with
  | nil=>simp[dz]
  | cons x T =>
   obtain rfl:x=46:=by simpa using hT
   simp[dz,this.symm]
 | d::v,c::w,T,hv,hw,hT=>by
  rw[zL,zv] at hv hw;have:=UY v w T hv.2 hw.2 hT;unfold dz at this ⊢;simp only[zS,zf,yf,List.drop_succ_cons,yk,zv,decide_eq_true_eq] at this ⊢;constructor
  ·rintro⟨⟨rfl,h2⟩,h3⟩;have:=this.1 ⟨h2,h3⟩;exact⟨⟨rfl,this.1⟩,this.2⟩
  ·rintro⟨⟨rfl,rfl⟩,h3⟩;have:=this.2 ⟨rfl,h3⟩;exact⟨⟨rfl,this.1⟩,this.2⟩
theorem lS{s:Wd}(h:vr s=true):(vN s).all xQ=true/\(dN s=true->(vW s).all xQ=true/\vW s≠[]):=by
 simp only[vr,Q8,zv,zc,decide_eq_true_eq,ux,zE] at h;refine⟨h.1.1.1.1.1,fun hp=>?_⟩;rcases h.1.1.1.2 with q|q
 ·rw[hp] at q;cases q
 ·exact⟨q.1,fun e=>by rw[e] at q;cases q.2⟩
theorem Wu{s:Wd}(h:vr s=true)(m:Nat):dz s (xK m)=qE (numOf s) m:=by
 obtain⟨h1,h2⟩:=lS h;have hv:=dG m;rw[Bool.eq_iff_iff,lN];by_cases Fg:fI s=true
 ·have e:s.head? = some 45:=by simpa[fI] using Fg
  obtain⟨t,rfl⟩:∃ t,s=45::t:=by
   cases s with
   | nil=>simp at e
   | cons c t=>simp at e;exact⟨t,by rw[e]⟩
  constructor
  ·intro q;exfalso;obtain⟨d,u,hd⟩:∃ d u,xK m=d::u:=by
    cases hd:xK m with
    | nil=>exact absurd hd (jl m)
    | cons d u=>exact⟨d,u,rfl⟩
   rw[hd] at q hv;rw[zL,zv] at hv;unfold dz at q;simp only[zf,yf,yk,zv,decide_eq_true_eq] at q;exact(On hv.1).2 q.1.1.symm
  ·rintro⟨q,-⟩;exact absurd (show fI (45::t)=false from q) (by rw[Fg];decide)
 ·have Fg:fI s=false:=by simpa using Fg
  have ha:VV s=s:=by
   unfold VV;rw[if_neg];intro e;unfold fI at Fg;rw[e] at Fg
   cases Fg
  by_cases hp:dN s=true
  ·obtain⟨h3,h4⟩:=h2 hp;have hi:s.idxOf 46<s.length:=by
    have:=hp;unfold dN at this;rw[ha] at this;simpa using this
   have hs:s=vN s++46::vW s:=by
    unfold vN vW;rw[ha];have hg:s[s.idxOf 46]=46:=List.getElem_idxOf hi;conv=>lhs;rw[←List.take_append_drop (s.idxOf 46) s,zm hi,hg]
   have hW:=UY (xK m) (vN s) (46::vW s) hv h1 (.inr rfl);rw[←hs] at hW;rw[hW];have hN:bV (46::vW s)=true ↔ SD (vW s)=false:=by
    unfold bV SD;have:0<(vW s).length:=List.length_pos_iff.2 h4;have e1:decide (1<(46::vW s).length)=true:=by simp;omega
    rw[e1];simp only[yX,List.head?_cons,yC,zw,Bool.false_or,beq_self_eq_true];rw[zZ,List.any_eq_false];constructor
    ·intro q x hx;have:=q x hx;simpa using this
    ·intro q x hx;have:=q x hx;simpa using this
   rw[hN];constructor
   ·rintro⟨q1,q2⟩;exact⟨Fg,q1.symm,q2⟩
   ·rintro⟨-,q1,q2⟩;exact⟨q1.symm,q2⟩
  ·have hi:s.idxOf 46=s.length:=by
    have h5:¬s.idxOf 46<s.length:=by
     intro q;apply hp;unfold dN;rw[ha];simpa using q
    have:=List.idxOf_le_length (a:=(46:UInt8)) (l:=s);omega
   have hs:vN s=s:=by unfold vN;rw[ha,hi,yV]
   have hf:vW s=[]:=by unfold vW;rw[ha,hi];exact zM (by omega)
   have hW:=UY (xK m) (vN s) [] hv h1 (.inl rfl);rw[List.append_nil,hs] at hW;rw[hW];show xK m=s/\_ ↔ fI s=false/\vN s=xK m/\SD (vW s)=false;rw[hs,hf];constructor
   ·rintro⟨q1,-⟩;exact⟨Fg,q1.symm,rfl⟩
   ·rintro⟨-,q1,-⟩;exact⟨q1.symm,rfl⟩
theorem zrg{E:qq Unit}{s:Wd}(hs:vr s=true):ZW (JK E (qK [[110],[110],s] (0,fun _=>none)).2) [110] () = .ok (numOf s,()):=by
 have hA:bw (JK E (qK [[110],[110],s] (0,fun _=>none)).2) [110] () = .ok ((s,true),()):=by
  unfold bw;show(if jY s true=true then _ else _)=_;rw[if_pos (by unfold jY;simp[hs])];rfl
 unfold ZW;rw[hA];rfl
theorem zgg{τ:Type}(E:qq τ)(m:Nat)(v z:vv):Ku E 1 [61::xK m,[111,116,104,101,114]] v z=if qE v m=true then 61::xK m else [111,116,104,101,114]:=by
 unfold Ku;rw[yD];have e:(decide ((61::xK m).head? = some 61) && qE v (xL (61::xK m).tail))=qE v m:=by
  rw[yC,Cp];simp
 rw[e];by_cases h:qE v m=true
 ·rw[h];rfl
 ·have h':qE v m=false:=by simpa using h
  rw[h',yD];rw[show(decide (([111,116,104,101,114]:Wd).head? = some 61) && qE v (xL ([111,116,104,101,114]:Wd).tail))=false by simp];dsimp only;rw[List.find?_nil];dsimp only;rw[show(if (false:Bool)=true then 61::xK m else [111,116,104,101,114])=([111,116,104,101,114]:Wd) from rfl];split
  ·next hm =>
   rcases zo.1 hm with hm|hm
   ·exfalso;obtain⟨k,hk⟩:∃ k,E.sort (decide (1=2)) z.2=k:=⟨_,rfl⟩;rw[hk] at hm;have:∀ k,(Un.getD k []).head?≠some 61:=by
     intro k;by_cases h6:k<6
     ·match k,h6 with
      | 0,_=>decide
      | 1,_=>decide
      | 2,_=>decide
      | 3,_=>decide
      | 4,_=>decide
      | 5,_=>decide
     ·rw[zx,yx (by show 6<=k;omega)];decide
    exact this k (by rw[hm];rfl)
   ·simpa using hm
  ·rfl
theorem Wq{E:qq Unit}{s:Wd}{m a c:Nat}(hs:vr s=true) :
  qx (JK E (qK [[110],[110],s] (0,fun _=>none)).2) (pkF (xK m) a c) [] (false,([],[])) [] () = .ok (if qE (numOf s) m=true then [65] else [66],()):=by
 unfold pkF qx;rw[if_neg (by decide),zrg hs];dsimp only;rw[show(Fo.uq (61::xK m) 12 (.text [65] .nil) (.uq [111,116,104,101,114] a (.text [66] .nil) .nil)).keys=[61::xK m,[111,116,104,101,114]] from rfl,zgg];by_cases h:qE (numOf s) m=true
 ·rw[if_pos h,if_pos h];unfold qx;rw[if_pos rfl];unfold qx;unfold qx;rfl
 ·rw[if_neg h,if_neg h];unfold qx;rw[if_neg (by simp)];unfold qx;rw[if_pos rfl];unfold qx;unfold qx;rfl
def rh(k:UInt8):Wd:=[123,120,44,32,115,101,108,101,99,116,44,32,111,116,104,101,114,32,123,66,125,32]++[k]++[32,123,65,125,125]
def slF(k:UInt8):Fo := .br [120] 0 0 [48] 27 (.uq [111,116,104,101,114] 12 (.text [66] .nil) (.uq [k] 22 (.text [65] .nil) .nil)) .nil
theorem sx(i:Nat)(h:i<8):gG (rh (zX (97+i))) = .ok (slF (zX (97+i))):=by
 have hA:∀ c∈rh (zX (97+i)),c.toNat<=127:=by
  intro c hc;unfold rh at hc;rcases zU.1 hc with hc|hc
  ·rcases zU.1 hc with hc|hc
   ·exact(by decide:∀ c∈([123,120,44,32,115,101,108,101,99,116,44,32,111,116,104,101,114,32,123,66,125,32]:Wd),c.toNat<=127) c hc
   ·obtain rfl:c=_:=List.mem_singleton.1 hc;rw[yj];omega
  ·exact(by decide:∀ c∈([32,123,65,125,125]:Wd),c.toNat<=127) c hc
 unfold gG uW;rw[if_neg (by unfold rh;simp),if_neg (by rw[(Vu _ hA).2];simp),(Vu _ hA).1];clear hA;match i,h with
 | 0,_=>(show _=_;kernel_rfl)
 | 1,_=>(show _=_;kernel_rfl)
 | 2,_=>(show _=_;kernel_rfl)
 | 3,_=>(show _=_;kernel_rfl)
 | 4,_=>(show _=_;kernel_rfl)
 | 5,_=>(show _=_;kernel_rfl)
 | 6,_=>(show _=_;kernel_rfl)
 | 7,_=>(show _=_;kernel_rfl)
theorem zrf{E:qq Unit}{s:Wd}(hs:s.length<=60):CM (JK E (qK [[120],[],s] (0,fun _=>none)).2) [120] () = .ok (s,()):=by
 have hA:bw (JK E (qK [[120],[],s] (0,fun _=>none)).2) [120] () = .ok ((s,false),()):=by
  unfold bw;show(if jY s false=true then _ else _)=_;rw[if_pos (by unfold jY;simpa using hs)];rfl
 unfold CM;rw[hA];rfl
theorem su{E:qq Unit}{s:Wd}{k:UInt8}(hs:s.length<=60) :
  qx (JK E (qK [[120],[],s] (0,fun _=>none)).2) (slF k) [] (false,([],[])) [] () = .ok (if s=[k] then [65] else [66],()):=by
 unfold slF qx;rw[if_pos rfl,zrf hs];dsimp only;rw[show(Fo.uq [111,116,104,101,114] 12 (.text [66] .nil) (.uq [k] 22 (.text [65] .nil) .nil)).keys=[[111,116,104,101,114],[k]] from rfl];have hk:Z0 [[111,116,104,101,114],[k]] s=if s=[k] then [k] else [111,116,104,101,114]:=by
  unfold Z0;by_cases h:s=[k]
  ·subst h;simp
  ·rw[if_neg h];split
   ·next hm=>simpa[h] using hm
   ·rfl
 rw[hk];by_cases h:s=[k]
 ·rw[if_pos h,if_pos h];unfold qx;rw[if_neg (by simp)];unfold qx;rw[if_pos rfl];unfold qx;unfold qx;rfl
 ·rw[if_neg h,if_neg h];unfold qx;rw[if_pos rfl];unfold qx;unfold qx;rfl
theorem zgf{t:Wd}(h:t.length<=60):Zi (qK [[120],[],t] (0,fun _=>none)).2 (qK [[120],[],t] (0,fun _=>none)).1:=by
 refine⟨by show(if ((fun _=>none:Wd->Option (Wd×Bool)) [120]).isSome=true then 0 else 0+1)<=16;decide,fun m x hx=>?_⟩;have q9:(if [120]=m then some (t,([]:Wd)==[110]) else none)=some x:=hx;split at q9
 ·next e =>
  cases q9;subst e;exact⟨by decide,by unfold jY;simpa using h⟩
 ·cases q9
theorem Oo(S V:ByteArray)(w:World)(hs:S.size<=1000)(hv:V.size<=1000):Calls prog 17 #[.string S,.string V] w fun e w'=>e = .returned (.bool (dz S.data.toList V.data.toList))/\w=w':=by
 obtain⟨b,hb⟩:∃ b,dz S.data.toList V.data.toList=b:=⟨_,rfl⟩;rw[hb];by_cases h1:S.size<V.size
 ·have HF:=z7 (show false=b by
   rw[←hb];unfold dz;rw[show decide (S.data.toList.take V.data.toList.length=V.data.toList)=false from decide_eq_false fun e=>by have:=congrArg zW e;simp at this;omega];rfl)
  have g1:decide ((S.size:Int)<(V.size:Int))=true:=decide_eq_true (by omega);clear hb;go_enter func17,ntmps17;go_wp2;go_ret;exact⟨by rw[←HF.out];rfl,rfl⟩
 ·have g1:decide ((S.size:Int)<(V.size:Int))=false:=decide_eq_false (by omega);have hA:(S.extract 0 V.size).data.toList=S.data.toList.take V.size:=by simp
  have hR:(S.extract V.size S.size).data.toList=S.data.toList.drop V.size:=by
   simp only[ByteArray.data_extract,Array.toList_extract,List.extract_eq_take_drop];exact List.take_of_length_le (by simp)
  obtain⟨A,eA⟩:∃ A,S.extract 0 V.size=A:=⟨_,rfl⟩;obtain⟨R,eR⟩:∃ R,S.extract V.size S.size=R:=⟨_,rfl⟩;rw[eA] at hA;rw[eR] at hR;have xB:(decide (A.data.toList=V.data.toList) && bV R.data.toList)=b:=by
   rw[←hb,hA,hR];unfold dz;rw[xN]
  have k1:V.size<=S.size:=by omega
  have bF:R.size<=1000:=by rw[←eR];simp;omega
  clear hb h1 hA hR;by_cases h2:A.data.toList=V.data.toList
  ·have q:(A.toList==V.toList)=true:=by rw[z8,z8,h2];simp
   have HT:=z7 (show bV R.data.toList=b by rw[←xB,h2];simp);have H2:=z7 h2;clear xB h2;by_cases h3:R.size=0
   ·have HF:=z7 (show true=b by
     have:R.data.toList=[]:=za (by simpa using h3);rw[←HT.out,this];rfl)
    have q2:R.toList.isEmpty=true:=by rw[z8,List.isEmpty_iff];exact za (by simpa using h3)
    clear h3;go_enter func17,ntmps17;go_wp2;go_ret;exact⟨by rw[←HF.out];rfl,rfl⟩
   ·have q2:R.toList.isEmpty=false:=by
     rw[z8]
     cases hq:R.data.toList with
     | nil=>exact absurd (by have:=congrArg zW hq;simpa using this) h3
     | cons c t=>rfl
    have h3:0<R.size:=by omega
    go_enter func17,ntmps17;go_wp2_with fail;go_loop [5] (fun iv=>∃ i:Nat,iv = .int .i64 (i:Nat)/\1<=i/\i<=R.size/\(R.data.toList.take i).tail.all (· == 48)=true) (fun iv=>R.size - (intOf iv).toNat)
    case atStart=>exact⟨1,rfl,zy _,h3,by
     cases hq:R.data.toList with
     | nil=>rfl
     | cons c t=>rfl⟩
    case round =>
     obtain⟨i,rfl,Vc,hi,uN⟩:=hrel;have Y9:=z7 uN;clear uN;by_cases xC:i<R.size
     ·have k2:(i:Int)<(R.size:Int):=by omega
      have zrd:R.data.toList[i]'(by simpa using xC)=R[i]:=getElem_toList R i xC;have EC:=QR R i xC;have xw:R.data.toList.take i≠[]:=by
       intro e;have:=congrArg zW e;rw[List.length_take,xN,List.length_nil] at this;omega
      obtain⟨c,hc⟩:∃ c,R[i]=c:=⟨_,rfl⟩;rw[hc] at EC;have oY:∀ h,R[i]'h=c:=fun _=>hc
      have n1:((c.toNat:Int)==48)=(c==48):=Ic c 48;have sK:(R.data.toList.take (i+1)).tail.all (· == 48)=(c==48):=by
       rw[EC,zi xw,List.all_append,Y9.out];simp
      by_cases Bj:c=48
      ·have f1:((c.toNat:Int)==48)=true:=by rw[n1,Bj];rfl
       have HN:=z7 (show(R.data.toList.take (i+1)).tail.all (· == 48)=true by rw[sK,Bj];rfl);clear zrd EC xw hc n1 sK Bj;go_wp2;go_round
       case rel=>exact⟨i+1,by go_num,by omega,by omega,HN.out⟩
       case measure=>simp only[intOf];omega
      ·have f1:((c.toNat:Int)==48)=false:=by rw[n1];simpa using Bj
       have HF:=z7 (show false=b by
        rw[←HT.out];have hm:R.data.toList.tail.all (· == 48)=false:=by
         rw[List.all_eq_false];refine⟨c,?_,by simpa using Bj⟩;have:c∈(R.data.toList.take (i+1)).tail:=by rw[EC,zi xw];simp
         rw[←List.drop_one,List.drop_take] at this;rw[←List.drop_one];exact List.mem_of_mem_take this
        have tF:R.data.toList.isEmpty=false:=by rw[←z8];exact q2
        unfold bV;rw[hm,tF];simp)
       clear zrd EC xw hc n1 sK Bj;go_wp2;go_ret;exact⟨by rw[←HF.out];rfl,rfl⟩
     ·obtain rfl:i=R.size:=by omega
      have k2:¬(R.size:Int)<(R.size:Int):=by omega
      have uN:=Y9.out;rw[←xN,yV] at uN;obtain⟨c,hc⟩:∃ c,R[0]=c:=⟨_,rfl⟩;have oY:∀ h,R[0]'h=c:=fun _=>hc
      have n1:((c.toNat:Int)==46)=(c==46):=Ic c 46;have hd:R.data.toList.head? = some c:=by
       rw[List.head?_eq_getElem?,zt (by simpa using h3),getElem_toList R 0 h3,hc]
      have tF:R.data.toList.isEmpty=false:=by rw[←z8];exact q2
      have uP:((c==46) && decide (1<R.size))=b:=by
       rw[←HT.out];unfold bV;rw[uN,tF,hd,xN];simp
      by_cases h46:c=46
      ·have f1:((c.toNat:Int)==46)=true:=by rw[n1,h46];rfl
       have HF:=z7 (show decide ((1:Int)<(R.size:Int))=b by rw[←uP,h46,show((46:UInt8)==46)=true from rfl,zw];exact decide_eq_decide.2 (by omega));clear uN hc n1 hd tF uP h46;go_wp2;go_ret;exact⟨by rw[←HF.out];rfl,rfl⟩
      ·have f1:((c.toNat:Int)==46)=false:=by rw[n1];simpa using h46
       have HF:=z7 (show false=b by rw[←uP,show(c==46)=false by simpa using h46];rfl);clear uN hc n1 hd tF uP h46;go_wp2;go_ret;exact⟨by rw[←HF.out];rfl,rfl⟩
  ·have q:(A.toList==V.toList)=false:=by rw[z8,z8];simpa using h2
   have HF:=z7 (show false=b by rw[←xB,decide_eq_false h2];rfl);have HV:=z7 h2;clear xB h2;go_enter func17,ntmps17;go_wp2;go_ret;exact⟨by rw[←HF.out];rfl,rfl⟩
theorem letters(i:Nat)(h:i<8):(⟨#[97,98,99,100,101,102,103,104]⟩:ByteArray).extract i (i+1)=⟨#[zX (97+i)]⟩:=by
 match i,h with
 | 0,_=>rfl
 | 1,_=>rfl
 | 2,_=>rfl
 | 3,_=>rfl
 | 4,_=>rfl
 | 5,_=>rfl
 | 6,_=>rfl
 | 7,_=>rfl
theorem sq(s:ByteArray):xf s.data.toList = .string s:=by simp[xf]
theorem sk{s:ByteArray}{m:Nat}{w:World}{c o:Value}{a:Option Addr}{cc:Nat}(hm:m<1000000000)(hs:s.size<=60)(hE:ZM w)(hA:Yh w c o)(ht:dO w a [[110],[110],s.data.toList]) :
  Calls prog 12 #[xf (Wx (xK m)),lQ c o,.slice a 3 cc] w fun e w'=>e = .returned (.tuple #[xf (if vr s.data.toList=true then if qE (numOf s.data.toList) m=true then [65] else [66] else []),.bool (vr s.data.toList)])/\Below w.heap.size w w':=by
 obtain⟨p,q,hr⟩:=Wv hm;have hl:=uV 8 m hm;have hlen:(Wx (xK m)).length<=1000000:=by unfold Wx;simp;omega
 refine(Ln hlen hE.cmp hE.rt hA ht (n:=3) rfl (by intro t ht;simp only[zo,yU,or_false] at ht;rcases ht with rfl|rfl|rfl;(· decide);(· decide);(· rw[xN];omega)) (by decide)).mono ?_;rintro e w' ⟨h,hb⟩;rw[hr] at h;obtain⟨t,k,rfl,hq⟩:=h;refine⟨?_,hb⟩;by_cases hn:vr s.data.toList=true
 ·obtain⟨rfl,rfl⟩:=zgk hn (Wq hn) hq;rw[if_pos hn,hn];rfl
 ·have D3:vr s.data.toList=false:=by simpa using hn
  rcases hq with⟨h1,-⟩|⟨-,rfl,rfl⟩
  ·exfalso;have h2:=(h1.2 [110] (s.data.toList,true) rfl).2;unfold jY at h2;rw[if_pos rfl,D3] at h2
   cases h2
  ·rw[if_neg hn,D3];rfl
theorem sj{s:ByteArray}{i:Nat}{w:World}{c o:Value}{a:Option Addr}{cc:Nat}(hi:i<8)(hs:s.size<=60)(hE:ZM w)(hA:Yh w c o)(ht:dO w a [[120],[],s.data.toList]) :
  Calls prog 12 #[xf (rh (zX (97+i))),lQ c o,.slice a 3 cc] w fun e w'=>e = .returned (.tuple #[xf (if s.data.toList=[zX (97+i)] then [65] else [66]),.bool true])/\Below w.heap.size w w':=by
 have hr:=sx i hi;have hlen:(rh (zX (97+i))).length<=1000000:=by unfold rh;simp
 have h60:s.data.toList.length<=60:=by rw[xN];exact hs
 refine(Ln hlen hE.cmp hE.rt hA ht (n:=3) rfl (by intro t ht;simp only[zo,yU,or_false] at ht;rcases ht with rfl|rfl|rfl;(· decide);(· decide);(· rw[xN];omega)) (by decide)).mono ?_;rintro e w' ⟨h,hb⟩;rw[hr] at h;obtain⟨t,k,rfl,hq⟩:=h;refine⟨?_,hb⟩;rcases hq with⟨-,h2⟩|⟨h2,-⟩
 ·rw[su h60] at h2;obtain⟨rfl,rfl⟩:=h2;rfl
 ·exact absurd (zgf h60) h2
theorem Wk(v:Int)(s:ByteArray)(k:Int)(w:World)(hv : -9223372036854775808<=v/\v<=9223372036854775807)(hs:s.size<=9223372036854775807)(hk : -9223372036854775808<=k/\k<=9223372036854775807)(hE:ZM w) :
  Calls prog 5 #[.int .i64 v,.string s,.int .i64 k] w fun e w'=>e = .returned (.bool true)/\Below w.heap.size w w':=by
 by_cases h60:60<s.size
 ·have g1:decide (60<(s.size:Int))=true:=decide_eq_true (by omega);go_enter func5,ntmps5;go_wp2;go_ret;exact⟨rfl,zu _ _⟩
 have zrb:s.size<=60:=by omega
 have g1:decide (60<(s.size:Int))=false:=decide_eq_false (by omega);obtain⟨m,hm⟩:∃ m,UZ v 1000000000=m:=⟨_,rfl⟩;obtain⟨i,hi⟩:∃ i,UZ k 8=i:=⟨_,rfl⟩;have m1:m<1000000000:=by rw[←hm];exact Nat.mod_lt _ (by decide)
 have i1:i<8:=by rw[←hi];exact Nat.mod_lt _ (by decide)
 have HP:=z7 (fun W=>Bm v 1000000000 W hv.1 hv.2 (by decide) (by decide));have HK:=z7 (fun W=>Bm k 8 W hk.1 hk.2 (by decide) (by decide));rw[hm] at HP;rw[hi] at HK;have HD:=z7 (fun W=>lH (m:Int) W (by omega) (by omega));have e1:Om (m:Int)=xK m:=by unfold Om;rw[if_neg (by omega)];rfl
 rw[e1] at HD;have l1:=uV 8 m m1;have hw:zG.wrap ((i:Int)+1)=(i:Int)+1:=by rw[zg];omega
 have hx:=letters i i1;obtain⟨b,Pr⟩:∃ b,vr s.data.toList=b:=⟨_,rfl⟩;obtain⟨q,mz⟩:∃ q,qE (numOf s.data.toList) m=q:=⟨_,rfl⟩;have Xi:=z7 (fun (W:World) (hb:Below w.heap.size w W) c o (hA:Yh W c o)=>OW (s:=s.data.toList) (by rw[xN];omega) (hE.below hb) hA);have RH:=z7 (fun (W:World) (hb:Below w.heap.size w W) c o (hA:Yh W c o) a cc ht=>sk (s:=s) (w:=W) (c:=c) (o:=o) (a:=a) (cc:=cc) m1 zrb (hE.below hb) hA ht);have Va:=z7 (fun (W:World) (hb:Below w.heap.size w W) c o (hA:Yh W c o) a cc ht=>sj (s:=s) (w:=W) (c:=c) (o:=o) (a:=a) (cc:=cc) i1 zrb (hE.below hb) hA ht);have HWH:=z7 (fun W=>Oo s ⟨(xK m).toArray⟩ W (by omega) (by rw[size_mk];omega));rw[Pr,mz] at RH;have R0:XR true s.data.toList=if b then 0 else 10:=by unfold XR;rw[←Pr];rfl
 obtain⟨tx,htx⟩:∃ tx,VA true s.data.toList 45 46 44 3 0 []=tx:=⟨_,rfl⟩;obtain⟨cd,zgd⟩:∃ cd:Int,(if b then 0 else 10)=cd:=⟨_,rfl⟩;rw[R0,htx,sq,zgd] at Xi;have tS:=z7 zgd;clear zgd;have bQ:b=true->dz s.data.toList (xK m)=q:=fun h=>by rw[Wu (by rw[Pr];exact h),mz]
 rw[show(⟨(xK m).toArray⟩:ByteArray).data.toList=xK m from rfl] at HWH;obtain⟨x,hxd⟩:∃ x,xK m=x:=⟨_,rfl⟩;rw[hxd] at HD RH HWH l1 bQ;obtain⟨u,hu⟩:∃ u,zX (97+i)=u:=⟨_,rfl⟩;rw[hu] at Va hx;have HL:=z7 (zY hm (zY hi (zY Pr (zY mz (zY htx (zY hxd (zY hu e1)))))));have mV:=z7 bQ;have HE:=z7 hE;clear hm hi Pr mz htx hxd hu R0 e1 bQ h60 hE;have zxy:(⟨#[123,110,44,32,112,108,117,114,97,108,44,32,61]⟩:ByteArray)++⟨x.toArray⟩++⟨#[32,123,65,125,32,111,116,104,101,114,32,123,66,125,125]⟩=⟨(Wx x).toArray⟩:=by
  apply zO;simp[zV,Wx]
 have zxx:(⟨#[123,120,44,32,115,101,108,101,99,116,44,32,111,116,104,101,114,32,123,66,125,32]⟩:ByteArray)++⟨#[u]⟩++⟨#[32,123,65,125,125]⟩=⟨(rh u).toArray⟩:=by
  apply zO;simp[zV,rh]
 have g2:¬9223372036854775807<13+x.length:=by omega
 have g3:¬9223372036854775807<13+x.length+15:=by omega
 go_enter func5,ntmps5;go_wp2_with fail;refine(Lm w).mono ?_;rintro e w1 ⟨⟨c,o,rfl,hc,ho⟩,xH⟩;obtain⟨ca,cn,ck,rfl⟩:=hc.slice;obtain⟨oa,on,ok,rfl⟩:=ho.slice;have HA:=z7 (Yh.mk hc ho);clear hc ho;go_wp2_with fail;refine vz ?_;intro W hW;have gP:Below w1.heap.size w1 W:=by rw[hW];exact(zu _ _).alloc (zy _) _
 have hL:Gt W w1.heap.size (.slice ca cn ck) (.slice oa on ok) 45 46 44 3 0 ⟨#[]⟩:=by
  rw[hW];refine⟨?_,?_,?_,?_,?_,?_,?_,?_⟩<;>exact xq _ _ _ _ _
 have hz:w1.heap.size<W.heap.size:=by rw[hW];simp
 have yz0:=xH.trans (gP.mono xH.size);have HA0:=z7 (HA.out.below gP);obtain⟨B,hB⟩:∃ B,w1.heap.size=B:=⟨_,rfl⟩;rw[hB] at hL hz ⊢;have HB0:=z7 yz0;clear hW gP xH yz0 HA hB;refine(HP.out W).mono ?_;rintro e w2 ⟨rfl,rfl⟩;go_wp2_with fail;refine(HD.out W).mono ?_;rintro e w2 ⟨rfl,rfl⟩;have HLL:=z7 hL;obtain⟨c0,c1,c2,c3,c4,c5,c6,c7⟩:=hL;go_wp2_with fail;refine(Xi.out W HB0.out _ _ HA0.out).mono ?_;rintro e w2 ⟨rfl,xB⟩;have hL2:=HLL.out.below xB hz;have C1:=z7 (HA0.out.below xB);have Qt:=z7 (HB0.out.trans (xB.mono HB0.out.size));have VO:B<w2.heap.size:=yY hz xB.size;clear c0 c1 c2 c3 c4 c5 c6 c7 xB HLL HA0 HB0 hz Xi;have HLL:=z7 hL2;obtain⟨c0,c1,c2,c3,c4,c5,c6,c7⟩:=hL2;go_wp2_with fail;refine vz ?_;intro W3 kJ;have uP:Below w2.heap.size w2 W3:=by
  rw[kJ];(repeat(first|(with_reducible exact zu _ _)|(with_reducible refine zP ?_ ?_ _;rotate_left;focus(first|(simp;done)|(simp;omega)))|(with_reducible refine zH ?_ ?_ _;rotate_left;focus(first|(simp;done)|(simp;omega)))))
 have ht3:dO W3 (some ⟨w2.heap.size,0,none⟩) [[110],[110],s.data.toList]:=fun _=>⟨_,_,rfl,fun j t ht=>by
  rw[kJ];match j with
  | 0=>(simp at ht;subst ht;go_simp)
  | 1=>(simp at ht;subst ht;go_simp)
  | 2=>(simp at ht;subst ht;go_simp)
  | j+3=>simp at ht⟩
 have hL3:=HLL.out.below uP VO;have CJ:B<W3.heap.size:=yY VO uP.size;have WA:=z7 (C1.out.below uP);have Z7:=Qt.out.trans (uP.mono Qt.out.size);have VC:=z7 (RH.out W3 Z7 _ _ WA.out _ 3 ht3);have zgb:=z7 Z7;clear kJ uP ht3 Z7 RH Qt C1 c0 c1 c2 c3 c4 c5 c6 c7 HLL VO;refine VC.out.mono ?_;rintro e w4 ⟨rfl,uQ⟩;have hL4:=hL3.below uQ CJ;have HA4:=z7 (WA.out.below uQ);have MA:=z7 (zgb.out.trans (uQ.mono zgb.out.size));clear uQ VC zgb WA hL3 CJ;have Va:=z7 (fun (W:World) (hb:Below w.heap.size w W) (xB:Below w4.heap.size w4 W) a cc ht=>Va.out W hb _ _ (HA4.out.below xB) a cc ht);obtain⟨c0,c1,c2,c3,c4,c5,c6,c7⟩:=hL4;have di:=z7 Va
 cases b
 ·obtain rfl:cd=10:=tS.out.symm;rw[if_neg (by decide)];go_wp2_with fail;refine(HK.out _).mono ?_;rintro e w5 ⟨rfl,rfl⟩;go_wp2_with fail;refine(HK.out _).mono ?_;rintro e w5 ⟨rfl,rfl⟩;go_wp2_with fail;refine vz ?_;intro W4 V2;have uQ:Below w4.heap.size w4 W4:=by
   rw[V2];(repeat(first|(with_reducible exact zu _ _)|(with_reducible refine zP ?_ ?_ _;rotate_left;focus(first|(simp;done)|(simp;omega)))|(with_reducible refine zH ?_ ?_ _;rotate_left;focus(first|(simp;done)|(simp;omega)))))
  have BS:dO W4 (some ⟨w4.heap.size,0,none⟩) [[120],[],s.data.toList]:=fun _=>⟨_,_,rfl,fun j t ht=>by
   rw[V2];match j with
   | 0=>(simp at ht;subst ht;go_simp)
   | 1=>(simp at ht;subst ht;go_simp)
   | 2=>(simp at ht;subst ht;go_simp)
   | j+3=>simp at ht⟩
  have j5:=MA.out.trans (uQ.mono MA.out.size);have bR:=z7 (Va.out W4 j5 uQ _ 3 BS);have Ue:=z7 j5;clear V2 uQ BS j5 Va MA;refine bR.out.mono ?_;rintro e w6 ⟨rfl,gC⟩;have wa:=z7 (Ue.out.trans (gC.mono Ue.out.size));clear gC bR Ue;by_cases Bo:s.data.toList=[u]
  ·have lW:s.toList=[u]:=(z8 s).trans Bo;rw[if_pos Bo];clear Bo;go_wp2;go_ret;exact⟨by first|rfl|simp,wa.out⟩
  ·have lW:(s.toList==[u])=false:=by rw[z8];simpa using Bo
   rw[if_neg Bo];clear Bo;go_wp2;go_ret;exact⟨by first|rfl|simp,wa.out⟩
 ·obtain rfl:cd=0:=tS.out.symm;rw[if_pos rfl];have hq:=mV.out rfl
  cases q
  ·rw[if_neg (by decide)];go_wp2_with fail;refine(HWH.out _).mono ?_;rintro e w5 ⟨rfl,rfl⟩;rw[hq];go_wp2_with fail;refine(HK.out _).mono ?_;rintro e w5 ⟨rfl,rfl⟩;go_wp2_with fail;refine(HK.out _).mono ?_;rintro e w5 ⟨rfl,rfl⟩;go_wp2_with fail;refine vz ?_;intro W4 V2;have uQ:Below w4.heap.size w4 W4:=by
    rw[V2];(repeat(first|(with_reducible exact zu _ _)|(with_reducible refine zP ?_ ?_ _;rotate_left;focus(first|(simp;done)|(simp;omega)))|(with_reducible refine zH ?_ ?_ _;rotate_left;focus(first|(simp;done)|(simp;omega)))))
   have BS:dO W4 (some ⟨w4.heap.size,0,none⟩) [[120],[],s.data.toList]:=fun _=>⟨_,_,rfl,fun j t ht=>by
    rw[V2];match j with
    | 0=>(simp at ht;subst ht;go_simp)
    | 1=>(simp at ht;subst ht;go_simp)
    | 2=>(simp at ht;subst ht;go_simp)
    | j+3=>simp at ht⟩
   have j5:=MA.out.trans (uQ.mono MA.out.size);have bR:=z7 (Va.out W4 j5 uQ _ 3 BS);have Ue:=z7 j5;clear V2 uQ BS j5 Va MA;refine bR.out.mono ?_;rintro e w6 ⟨rfl,gC⟩;have wa:=z7 (Ue.out.trans (gC.mono Ue.out.size));clear gC bR Ue;by_cases Bo:s.data.toList=[u]
   ·have lW:s.toList=[u]:=(z8 s).trans Bo;rw[if_pos Bo];clear Bo;go_wp2;go_ret;exact⟨by first|rfl|simp,wa.out⟩
   ·have lW:(s.toList==[u])=false:=by rw[z8];simpa using Bo
    rw[if_neg Bo];clear Bo;go_wp2;go_ret;exact⟨by first|rfl|simp,wa.out⟩
  ·rw[if_pos rfl];go_wp2_with fail;refine(HWH.out _).mono ?_;rintro e w5 ⟨rfl,rfl⟩;rw[hq];go_wp2_with fail;refine(HK.out _).mono ?_;rintro e w5 ⟨rfl,rfl⟩;go_wp2_with fail;refine(HK.out _).mono ?_;rintro e w5 ⟨rfl,rfl⟩;go_wp2_with fail;refine vz ?_;intro W4 V2;have uQ:Below w4.heap.size w4 W4:=by
    rw[V2];(repeat(first|(with_reducible exact zu _ _)|(with_reducible refine zP ?_ ?_ _;rotate_left;focus(first|(simp;done)|(simp;omega)))|(with_reducible refine zH ?_ ?_ _;rotate_left;focus(first|(simp;done)|(simp;omega)))))
   have BS:dO W4 (some ⟨w4.heap.size,0,none⟩) [[120],[],s.data.toList]:=fun _=>⟨_,_,rfl,fun j t ht=>by
    rw[V2];match j with
    | 0=>(simp at ht;subst ht;go_simp)
    | 1=>(simp at ht;subst ht;go_simp)
    | 2=>(simp at ht;subst ht;go_simp)
    | j+3=>simp at ht⟩
   have j5:=MA.out.trans (uQ.mono MA.out.size);have bR:=z7 (Va.out W4 j5 uQ _ 3 BS);have Ue:=z7 j5;clear V2 uQ BS j5 Va MA;refine bR.out.mono ?_;rintro e w6 ⟨rfl,gC⟩;have wa:=z7 (Ue.out.trans (gC.mono Ue.out.size));clear gC bR Ue;by_cases Bo:s.data.toList=[u]
   ·have lW:s.toList=[u]:=(z8 s).trans Bo;rw[if_pos Bo];clear Bo;go_wp2;go_ret;exact⟨by first|rfl|simp,wa.out⟩
   ·have lW:(s.toList==[u])=false:=by rw[z8];simpa using Bo
    rw[if_neg Bo];clear Bo;go_wp2;go_ret;exact⟨by first|rfl|simp,wa.out⟩
end Go.Proofs.YthpldolmpinnhaaGreatDoor
