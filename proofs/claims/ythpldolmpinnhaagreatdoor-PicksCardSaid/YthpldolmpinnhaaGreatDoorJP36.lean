import Derived.Test.YthpldolmpinnhaaGreatDoorJP35
import Derived.Laws.EntriesVeiled
import Derived.Deep.LoopGhost
import Derived.WalkMore
import Derived.Defers
import Derived.Recover
set_option maxHeartbeats 64000000
open Go.Lib renaming hid→z7,hasPrefix→zk,trimPrefix→zE,encodeRune→zM
open Nat renaming le_refl→z8,zero_le→zD,le_trans→zn
open Go.RowKit.Below renaming refl→zy,heap_setCell→zU,heap_alloc→zt
open List renaming length_append→zx,isPrefixOf→zj,length_cons→zg,take_succ_eq_append_getElem→zZ,length_nil→zV,mem_of_mem_tail→zQ,mem_cons_of_mem→zF,all_append→zL,length_drop→zO,eq_nil_of_length_eq_zero→zW,takeWhile_cons_of_pos→zc,takeWhile_cons_of_neg→ze,mem_cons→zm,find?_append→zr,mem_append→zh
open Go.Value renaming pointer→zv
open Go.AllReadyH renaming cons→zu,nil→zJ
open Go.World renaming block_lt_of_cell?→zf,setCell→zY,cell?_alloc_lt→zX,frozen?_of_block→zG,cell?_setCell_same→zN,cell?_of_block→zP
open Bool renaming and_eq_true→zH
open Go.Instr renaming index→zR,makeFunc→za
open ByteArray renaming getElem_eq_getElem_data→zS
open Option.some renaming injEq→zi
open Go.Op renaming equalIn→zl
open Go.Obj.cells renaming injEq→zo
open Go.Addr renaming add→zw
open Go.Proofs.Tryz
namespace Go.Proofs.YthpldolmpinnhaaGreatDoor
open Go Go.RowKit
set_option maxRecDepth 10000
theorem iR(t:List Wd):FL [[109,111,100],[37]] t=Ig (t.headD []):=by
 cases t with
 | nil=>rfl
 | cons c u=>simp[FL,Ii,Ig]
theorem Ti(w:World)(m m2:Wd)(g:Nat)(hg:w.cell? ⟨g,0,none⟩=some (xf m))(dy:w.cell? ⟨g,1,none⟩=some (xf m2)):YL w (.slice (some ⟨g,0,none⟩) 2 2) [m,m2] :=
 ⟨some ⟨g,0,none⟩,2,rfl,z8 _,by decide,(fun h=>by cases h),fun j hj=>by
  match j,hj with
  | 0,_=>exact⟨_,rfl,by simpa[zw] using hg⟩
  | 1,_=>exact⟨_,rfl,by simpa[zw] using dy⟩⟩
theorem iT(p:Nat)(ws:List Wd)(W:World)(hp:gH W p ws) :
  Calls prog 175 #[.pointer (some ⟨p,0,none⟩),.slice (some ⟨W.heap.size,0,none⟩) 2 2] (W.alloc (.cells #[xf [109,111,100],xf [37]] 9))
   fun e w'=>e = .returned (.bool (Ig (ws.headD [])))/\gH w' p (if Ig (ws.headD []) then ws.tail else ws)/\xl p W w':=by
 have hb:Below W.heap.size W (W.alloc (.cells #[xf [109,111,100],xf [37]] 9)):=(zy _ _).alloc (z8 _) _;refine(iQ p [[109,111,100],[37]] ws _ _ (hp.below hb) (Ti _ _ _ _ (xq _ _ _ _ _) (xq _ _ _ _ _)) (by simp)).mono ?_;rintro e w' ⟨rfl,h1,h2,_⟩;rw[iR] at h1 ⊢;exact⟨rfl,h1,(xl.of hb).trans h2⟩
theorem EX(p:Nat)(w:World)(hp:gH w p []):Calls prog 145 #[.pointer (some ⟨p,0,none⟩)] w (Yi p (gz []) w):=by
 obtain⟨a,cap,hc,hf,h1,h2,h3⟩:=hp;clear h3;go_enter func145,ntmps145;go_wp2;exact⟨rfl,rfl,xl.refl _ _⟩
theorem iW(fn:Fn)(first cap:Array Value)(w:World):(binOp .eql 309 (.func fn first cap) .nilFunc).run prog w = .ok (.bool false) w:=by
 have h:∀ d:Nat,(zl (d+1) 309 (.func fn first cap) .nilFunc).run prog w = .ok false w:=fun d=>by
  simp[zl,run_underlying underlying309]
 simp only[binOp];simp[Op.equal,Op.maxDepth,h 9999]
theorem LB(w:World):(binOp .eql 309 .nilFunc .nilFunc).run prog w = .ok (.bool true) w:=by
 have h:∀ d:Nat,(zl (d+1) 309 .nilFunc .nilFunc).run prog w = .ok true w:=fun d=>by
  simp[zl,run_underlying underlying309]
 simp only[binOp];simp[Op.equal,Op.maxDepth,h 9999]
theorem xl.frozen{p:Nat}{w w':World}(h:xl p w w'){a:Addr}(hl:a.block<w.heap.size)(ha:a.block≠p):w'.frozen? a=w.frozen? a:=zG (h.block a.block hl ha)
structure xm(w:World)(k:Nat)(u:Value):Prop where
 c:w.cell? ⟨k,0,none⟩=some u
 z:w.frozen? ⟨k,0,none⟩=false
 n:¬Eb w k
theorem LC{w:World}{a:Addr}{u:Value}{k:Nat}(h:Eb (w.setCell a u) k):Eb w k:=by
 obtain⟨cs,fr,h⟩:=h;by_cases hk:k=a.block
 ·simp only[zY,Array.getElem?_modify,if_pos hk.symm] at h
  cases hh:w.heap[k]? with
  | none=>simp[hh] at h
  | some o =>
   simp only[hh,Option.map_some] at h
   cases o with
   | cells c e f =>
    simp only[zi,zo] at h;exact⟨c,f,by rw[hh,h.2.1]⟩
   | _=>simp at h
 ·exact⟨cs,fr,(zU _ _ _ _ hk).symm.trans h⟩
theorem xm.lt{w:World}{k:Nat}{u:Value}(h:xm w k u):k<w.heap.size:=zf w _ h.c
theorem xm.but{p k:Nat}{w w':World}{u:Value}(h:xm w k u)(hb:xl p w w')(hp:k≠p):xm w' k u :=
 ⟨hb.cell h.c hp,(hb.frozen (a:=⟨k,0,none⟩) h.lt hp).trans h.z,fun hs=>h.n (hs.of (hb.block k h.lt hp).symm)⟩
theorem xm.made(w:World)(u:Value)(t:TypeId)(ht:t≠9):xm (w.alloc (.cells #[u] t)) w.heap.size u :=
 ⟨xq _ _ _ _ _,by simp,fun ⟨cs,fr,h⟩=>ht (by
  have:(w.alloc (.cells #[u] t)).heap[w.heap.size]? = some (.cells #[u] t):=by show(w.heap.push _)[w.heap.size]? = _;simp
  rw[this] at h;simp only[zi,zo] at h;exact h.2.1)⟩
theorem xm.same{w:World}{k:Nat}{u:Value}(h:xm w k u)(x:Value):xm (w.setCell ⟨k,0,none⟩ x) k x:=⟨by rw[zN (h:=h.c)],by simpa using h.z,fun hs=>h.n (LC hs)⟩
theorem xm.other{w:World}{k j:Nat}{u:Value}(h:xm w k u)(hj:k≠j)(x:Value):xm (w.setCell ⟨j,0,none⟩ x) k u :=
 ⟨(zP (zU _ _ _ _ hj)).trans h.c,(zG (zU _ _ _ _ hj)).trans h.z,fun hs=>h.n (LC hs)⟩
theorem xl.alloc{p:Nat}{w a:World}(h:xl p w a)(o:Obj):xl p w (a.alloc o):=h.below ((zy _ _).alloc (z8 _) _)
theorem xl.put{p k:Nat}{w a:World}(h:xl p w a)(hk:w.heap.size<=k)(u:Value):xl p w (a.setCell ⟨k,0,none⟩ u) :=
 ⟨h.os,h.tape,h.output,by simpa[zY] using h.size,fun j hj hp=>(zU _ _ _ _ (show j≠k by omega)).trans (h.block j hj hp)⟩
theorem gH.put{w:World}{p k:Nat}{ws:List Wd}(h:gH w p ws)(hk:k≠p)(hs:¬Eb w k)(u:Value):gH (w.setCell ⟨k,0,none⟩ u) p ws:=by
 obtain⟨a,cap,hc,hf,h1,h2,h3⟩:=h;have hb:∀ j,j≠k->(w.setCell ⟨k,0,none⟩ u).heap[j]? = w.heap[j]? := fun j hj=>zU _ _ _ _ hj
 refine⟨a,cap,(zP (hb p hk.symm)).trans hc,(zG (hb p hk.symm)).trans hf,h1,h2,fun j hj=>?_⟩;obtain⟨b,e1,e2,e3⟩:=h3 j hj;have ZJ:b.block≠k:=fun e=>hs (e▸e2.2)
 exact⟨b,e1,⟨e2.1,e2.2.of (hb _ ZJ)⟩,(zP (hb _ (by rw[addr_add];exact ZJ))).trans e3⟩
theorem wI{α β γ δ:Type}{P:α->β->γ->δ->Prop}{A:Prop}(G:α->β->γ->δ->Prop)(h1:∀ a b c d,P a b c d->G a b c d)(h2:(∀ a b c d,P a b c d->G a b c d)->A):A:=h2 h1
theorem jn{P:Program}{md:Region.Mode}{ops:Array Oper}{Q:Exit->Act->World->Prop}{S:World->Prop}{f:Nat}{m m':Array Bool}{a:Act}{w:World}(hm:m'=m)(h:wpAnyH P md ops Q S f m a w):wpAnyH P md ops Q S f m' a w:=hm▸h
theorem DS(p:Nat)(c:Wd)(t:List Wd)(w:World)(hp:gH w p (c::t))(hx:∀ x∈c::t,EZ x)(hT:RT p w)(hl:t.length<=999) :
  Calls prog 145 #[.pointer (some ⟨p,0,none⟩)] w (Yi p (gz (c::t)) w):=by
 have HP:=z7 hp;have HX:=z7 hx;have HT:=z7 hT;have xC:=hp.lt;obtain⟨a,cap,hc,hf,h1,h2,h3⟩:=hp;obtain⟨b,rfl,hb,Ju⟩:=h3 0 (by simp);have P6:w.cell? b=some (xf c):=by
  have:(b.add 0)=b:=by simp[zw]
  rw[this] at Ju;exact Ju
 have hmx:cap<=9223372036854775807:=by unfold maxLen at h2;omega
 have hlen:(c::t).length=t.length+1:=rfl;rw[hlen] at hc h1;obtain⟨r,hr⟩:∃ r,gz (c::t)=r:=⟨_,rfl⟩;rw[hr];have HR:=z7 hr;have uR:=Ed ⟨c.toArray⟩ w;rw[toList_mk] at uR;have HOP:=z7 uR;have hef:=iW;have fP:=LB;have RS:∀ (fn:Fn) (first cap:Array Value) (w:World),(za fn first cap).run prog w = .ok (.func fn first cap) w:=fun _ _ _ _=>rfl
 clear Ju h3 hr hx hT uR;go_enter func145,ntmps145;go_wp2_with fail;refine HOP.out.mono ?_;rintro e w1 ⟨hq,rfl⟩
 cases ho:uD c with
 | none =>
  rw[ho] at hq;obtain rfl:=hq;have vZ:r=none:=by rw[←HR.out,gz,ho]
  have gJ:=z7 vZ;clear vZ ho;go_wp2;refine⟨rfl,?_,(xl.refl _ _).alloc _⟩;rw[gJ.out]
 | some F =>
  rw[ho] at hq;obtain⟨fv,rfl,sY⟩:=hq;have HFV:=z7 sY;have hK:=sY 0 0 w;obtain⟨kf,bX,rfl,_⟩:=hK;have HO:=z7 ho;clear sY ho;by_cases qD:cap=1
  ·have PZ:t=[]:=zW (by omega);subst PZ;subst qD;go_wp2_with fail;have F1:∃ W1,W1=(w.setCell ⟨p,0,none⟩ (.slice (some b) 0 0)).alloc (.cells #[.func (.func kf) #[] bX] 309)/\xl p w W1/\W1.heap.size=w.heap.size+1/\gH W1 p ([]:List Wd)/\xm W1 w.heap.size (.func (.func kf) #[] bX):=by
    have hs:(w.setCell ⟨p,0,none⟩ (.slice (some b) 0 0)).heap.size=w.heap.size:=by simp[zY]
    refine⟨_,rfl,(xl.set p w 0 _).alloc _,by simp[zY],((HP.out.step hc).2 rfl).below ((zy _ _).alloc (z8 _) _),?_⟩;rw[←hs];exact xm.made _ _ _ (by decide)
   obtain⟨W1,Ve,Yt,uT,UH,cQ1⟩:=F1;have Tl:∀ o,((w.setCell ⟨p,0,none⟩ (.slice (some b) 0 0)).alloc (.cells #[.func (.func kf) #[] bX] 309)).alloc o=W1.alloc o:=fun o=>by rw[Ve]
   have Ki:=z7 UH;have gM:=z7 uT;have him:=iT p ([]:List Wd) W1 UH;rw[uT] at him;have HIM:=z7 him;clear UH uT him;rw[Tl];clear Tl Ve;refine HIM.out.mono ?_;rintro e w2 ⟨rfl,Xx,xB⟩;have ue:=Yt.trans xB;have Zm:w.heap.size≠p:=by omega
   have LH:=cQ1.but xB Zm;have F7:=z7 Xx;clear Xx cQ1
   cases hm:Ig (([]:List Wd).headD [])
   ·have ju:=F7.out;rw[hm] at ju;have QP:=z7 ju;have HM:=z7 hm;clear ju hm;have cQ:=LH;obtain⟨Q,hQ⟩:∃ Q,Q=w.heap.size:=⟨_,rfl⟩;rw[←hQ] at cQ LH Zm ⊢;have HQ:=z7 hQ;clear hQ;have OL:=z7 (QD p (([]:List Wd)) w2 QP.out (fun x h=>HX.out x (by simp[h])) (HT.out.but ue) (by omega));go_wp2_with fail;refine OL.out.mono ?_;rintro e w7 ⟨hq,jI⟩;have ji:=ue.trans jI;have fU:r=match u7 (([]:List Wd)) with
      | none=>none
      | some ((i,nt),v)=>some ((fun x=>i (F x) !=nt),v):=by
     rw[←HR.out];rw[gz,HO.out];dsimp only;unfold Y6;rw[HM.out];rfl
    cases hn:u7 (([]:List Wd)) with
    | none =>
     rw[hn] at hq fU;obtain rfl:=hq;have gI:=z7 fU;clear fU hn;go_wp2;refine⟨rfl,?_,ji⟩;rw[gI.out]
    | some q =>
     obtain⟨⟨Tm,nt⟩,t'⟩:=q;rw[hn] at hq fU;obtain⟨⟨v,rfl,iA⟩,EN⟩:=hq;have gI:=Lib.hid fU;have HTM:=Lib.hid iA;have HP7:=Lib.hid EN;have ie:=cQ.but jI Zm;have hQ7:=ie.lt;have HF7:=Lib.hid (TS.keep (lo':=w.heap.size) (hi':=w7.heap.size) (HFV.out w.heap.size w2.heap.size w2) (jI.keep xC (Nat.le_refl _)) (Nat.le_refl _) jI.size);obtain⟨kt,EV,rfl,_⟩:=iA;clear fU hn EN;go_wp2;go_ret;have ZE:=ji.alloc (.cells #[.func (.func kt) #[] EV] 214);have hbB:=ZE.alloc (.cells #[.bool nt] 4);have Ny:(w7.alloc (.cells #[.func (.func kt) #[] EV] 214)).heap.size=w7.heap.size+1:=by simp
     have hsB:((w7.alloc (.cells #[.func (.func kt) #[] EV] 214)).alloc (.cells #[.bool nt] 4)).heap.size=w7.heap.size+2:=by simp
     have Fa:Below w7.heap.size w7 ((w7.alloc (.cells #[.func (.func kt) #[] EV] 214)).alloc (.cells #[.bool nt] 4)):=((zy _ _).alloc (z8 _) _).alloc (by simp) _;refine⟨?_,hbB⟩;rw[gI.out];have hQw:=HQ.out;have hw7:=ji.size;refine⟨⟨_,rfl,185,_,rfl,fun args w=>enters_of func185 (by kernel_rfl) rfl args w,fun W hW nv x hx=>?_⟩,HP7.out.below Fa⟩;rw[hsB] at hW;have JN:vK w.heap.size w7.heap.size w7 W:=hW.via (vB Fa (z8 _) (z8 _)) (z8 _) (by omega);refine QF nv x _ _ _ _ _ nt Tm (F) w.heap.size w7.heap.size W hx ((hW.cell ?_ ?_).trans ?_) ((JN.cell ?_ hQ7).trans ie.c) ((hW.cell ?_ ?_).trans ?_) (HTM.out.keep (JN.via (vg (z8 _)) (by have:=ue.size;omega) (z8 _)) (by have:=ue.size;omega) (z8 _)) (HF7.out.keep JN (z8 _) (z8 _)) JN.1;all_goals first|(show w.heap.size<=w7.heap.size;omega)|(show w7.heap.size<w7.heap.size+2;omega)|(show w.heap.size<=w7.heap.size+1;omega)|(show w7.heap.size+1<w7.heap.size+2;omega)|(show w.heap.size<=Q;omega)|(go_simp;done)
   ·have ju:=F7.out;rw[hm] at ju;have QP:=z7 ju;have HM:=z7 hm;clear ju hm;have cQ:=LH;obtain⟨Q,hQ⟩:∃ Q,Q=w.heap.size:=⟨_,rfl⟩;rw[←hQ] at cQ LH Zm ⊢;have HQ:=z7 hQ;clear hQ;have Xi:=z7 (fun W (hb:xl p w W) (hp:gH W p ([]:List Wd).tail)=>ft p ([]:List Wd).tail W hp (fun x h=>HX.out x (zF _ (zQ h))) (HT.out.but hb));have jh:w2.drew.cell? ⟨Q,0,none⟩=some (.func (.func kf) #[] bX):=LH.c;have dC:=ue.drew;have eg:=z7 (show gH w2.drew p ([]:List Wd).tail from QP.out.below (zy _ w2).drew);have Tn:xm w2.drew Q (.func (.func kf) #[] bX):=⟨LH.c,LH.z,LH.n⟩;clear Yt;go_wp2_with fail;refine rt (fun W':World=>W'.cell? ⟨Q,0,none⟩=some (.func (.func kf) #[] bX)) [0,2] 5 jh ?_;(iterate 2 ((first|refine ty ?_|refine tn ?_);try simp only[pl]))
    refine xk ?_;generalize w2.drew=wD at dC eg Tn ⊢;apply wI (P:=fun (W:World) (k4 k5 mv:Nat)=>(∃ t3,kR (([]:List Wd)).tail=some (mv,t3)/\gH W p t3)/\xl p w W/\xm W Q (.func (.func kf) #[] bX)/\xm W k4 (.int .i64 0)/\xm W k5 .nilFunc/\w.heap.size<=k4/\w.heap.size<=k5/\k4≠k5/\k4≠p/\k5≠p/\k4≠Q/\k5≠Q)
    case h2 =>
     intro L;refine wpAnyH_ready (rs:=[1,3,4]) (by kernel_rfl) (by simp) (zu rfl (fun K hK=>?_) (zu rfl (fun K hK=>?_) (zu rfl (fun K hK=>?_) zJ)))
     ·skip
      go_simp;refine(Xi.out wD dC eg.out).mono ?_;rintro e qc ⟨hq,Yl⟩;obtain⟨q0,qX⟩:∃ q0,kR (([]:List Wd)).tail=q0:=⟨_,rfl⟩;rw[qX] at hq
      cases q0 with
      | none =>
       obtain rfl:=hq;refine⟨rfl,?_,dC.trans Yl⟩;rw[←HR.out,gz,HO.out];dsimp only;unfold Y6;rw[HM.out,if_pos rfl,qX]
      | some q0 =>
       obtain⟨mv,t3⟩:=q0;have HN:=z7 qX;obtain⟨rfl,QB⟩:=hq;have Xn:=z7 QB;have vh:=dC.trans Yl;have gg:=Tn.but Yl Zm;clear qX;clear QB;refine hK.out _ _ gg.c (fun _=>?_);clear hK K;refine wpAnyH_ready (rs:=[3,4]) (by kernel_rfl) (by simp) (zu rfl (fun K hK=>?_) (zu rfl (fun K hK=>?_) zJ))
       ·skip
        go_simp;have FA:∃ N,N=qc.alloc (.cells #[(.int .i64 0)] 3)/\xl p qc N/\xm N qc.heap.size (.int .i64 0):=⟨_,rfl,(xl.refl _ _).alloc _,xm.made _ _ _ (by decide)⟩;obtain⟨uw,hW,qJ,Zv⟩:=FA;have Y2:∀ o,o=zv (some ⟨qc.heap.size,0,none⟩)->o=o:=fun _ _=>rfl
        rw[←hW];have Zu:=z7 (Xn.out.below (show Below qc.heap.size qc uw by rw[hW];exact(zy _ _).alloc (z8 _) _));have vO:=vh.trans qJ;have qm:=gg.but qJ Zm;have uC:w.heap.size<=qc.heap.size:=vh.size;have kI:qc.heap.size≠Q:=fun e=>by have:=gg.lt;omega
        clear hW Y2;obtain⟨k4,du⟩:∃ k,k=qc.heap.size:=⟨_,rfl⟩;rw[←du] at Zv uC kI ⊢;have j6:k4≠p:=by omega
        have rG:=z7 du;clear du;refine hK.out _ _ qm.c (fun _=>?_);clear hK K;refine xg 4 (by kernel_rfl) rfl (fun K hK=>?_);go_simp;have FA:∃ N,N=uw.alloc (.cells #[.nilFunc] 309)/\xl p uw N/\xm N uw.heap.size .nilFunc:=⟨_,rfl,(xl.refl _ _).alloc _,xm.made _ _ _ (by decide)⟩;obtain⟨Xo,hW,uI,gZ⟩:=FA;have Y2:∀ o,o=zv (some ⟨uw.heap.size,0,none⟩)->o=o:=fun _ _=>rfl
        rw[←hW];have fw:=z7 (Zu.out.below (show Below uw.heap.size uw Xo by rw[hW];exact(zy _ _).alloc (z8 _) _));have uL:=vO.trans uI;have kY:=qm.but uI Zm;have uE:w.heap.size<=uw.heap.size:=vO.size;have kL:uw.heap.size≠Q:=fun e=>by have:=qm.lt;omega
        clear hW Y2;have j7:=Zv.but uI j6;have Zq:uw.heap.size≠k4:=fun e=>by have:=Zv.lt;omega
        obtain⟨k5,bA⟩:∃ k,k=uw.heap.size:=⟨_,rfl⟩;rw[←bA] at gZ uE kL ⊢;rw[←bA] at Zq;have j8:k5≠p:=by omega
        have rF:=z7 bA;clear bA;refine hK.out _ _ kY.c (fun _=>?_);clear hK K;refine jn (m:=#[true,true,true,true,true,false,false]) (by kernel_rfl) ?_;exact L Xo k4 k5 mv ⟨⟨t3,HN.out,fw.out⟩,uL,kY,j7,gZ,uC,uE,by omega,j6,j8,kI,kL⟩
       ·skip
        go_simp;have FA:∃ N,N=qc.alloc (.cells #[.nilFunc] 309)/\xl p qc N/\xm N qc.heap.size .nilFunc:=⟨_,rfl,(xl.refl _ _).alloc _,xm.made _ _ _ (by decide)⟩;obtain⟨uw,hW,qJ,Zk⟩:=FA;have Y2:∀ o,o=zv (some ⟨qc.heap.size,0,none⟩)->o=o:=fun _ _=>rfl
        rw[←hW];have Zu:=z7 (Xn.out.below (show Below qc.heap.size qc uw by rw[hW];exact(zy _ _).alloc (z8 _) _));have vO:=vh.trans qJ;have qm:=gg.but qJ Zm;have uE:w.heap.size<=qc.heap.size:=vh.size;have kL:qc.heap.size≠Q:=fun e=>by have:=gg.lt;omega
        clear hW Y2;obtain⟨k5,bA⟩:∃ k,k=qc.heap.size:=⟨_,rfl⟩;rw[←bA] at Zk uE kL ⊢;have j8:k5≠p:=by omega
        have rF:=z7 bA;clear bA;refine hK.out _ _ qm.c (fun _=>?_);clear hK K;refine xg 3 (by kernel_rfl) rfl (fun K hK=>?_);go_simp;have FA:∃ N,N=uw.alloc (.cells #[(.int .i64 0)] 3)/\xl p uw N/\xm N uw.heap.size (.int .i64 0):=⟨_,rfl,(xl.refl _ _).alloc _,xm.made _ _ _ (by decide)⟩;obtain⟨Xo,hW,uI,j7⟩:=FA;have Y2:∀ o,o=zv (some ⟨uw.heap.size,0,none⟩)->o=o:=fun _ _=>rfl
        rw[←hW];have fw:=z7 (Zu.out.below (show Below uw.heap.size uw Xo by rw[hW];exact(zy _ _).alloc (z8 _) _));have uL:=vO.trans uI;have kY:=qm.but uI Zm;have uC:w.heap.size<=uw.heap.size:=vO.size;have kI:uw.heap.size≠Q:=fun e=>by have:=qm.lt;omega
        clear hW Y2;have gZ:=Zk.but uI j8;have Zq:uw.heap.size≠k5:=fun e=>by have:=Zk.lt;omega
        obtain⟨k4,du⟩:∃ k,k=uw.heap.size:=⟨_,rfl⟩;rw[←du] at j7 uC kI ⊢;rw[←du] at Zq;have j6:k4≠p:=by omega
        have rG:=z7 du;clear du;refine hK.out _ _ kY.c (fun _=>?_);clear hK K;refine jn (m:=#[true,true,true,true,true,false,false]) (by kernel_rfl) ?_;exact L Xo k4 k5 mv ⟨⟨t3,HN.out,fw.out⟩,uL,kY,j7,gZ,uC,uE,by omega,j6,j8,kI,kL⟩
     ·skip
      go_simp;have FA:∃ N,N=wD.alloc (.cells #[(.int .i64 0)] 3)/\xl p wD N/\xm N wD.heap.size (.int .i64 0):=⟨_,rfl,(xl.refl _ _).alloc _,xm.made _ _ _ (by decide)⟩;obtain⟨qc,hW,Yl,EU⟩:=FA;have Y2:∀ o,o=zv (some ⟨wD.heap.size,0,none⟩)->o=o:=fun _ _=>rfl
      rw[←hW];have Xn:=z7 (eg.out.below (show Below wD.heap.size wD qc by rw[hW];exact(zy _ _).alloc (z8 _) _));have vh:=dC.trans Yl;have gg:=Tn.but Yl Zm;have uC:w.heap.size<=wD.heap.size:=dC.size;have kI:wD.heap.size≠Q:=fun e=>by have:=Tn.lt;omega
      clear hW Y2;obtain⟨k4,du⟩:∃ k,k=wD.heap.size:=⟨_,rfl⟩;rw[←du] at EU uC kI ⊢;have j6:k4≠p:=by omega
      have rG:=z7 du;clear du;refine hK.out _ _ gg.c (fun _=>?_);clear hK K;refine wpAnyH_ready (rs:=[1,4]) (by kernel_rfl) (by simp) (zu rfl (fun K hK=>?_) (zu rfl (fun K hK=>?_) zJ))
      ·skip
       go_simp;refine(Xi.out qc vh Xn.out).mono ?_;rintro e uw ⟨hq,qJ⟩;obtain⟨q0,qX⟩:∃ q0,kR (([]:List Wd)).tail=q0:=⟨_,rfl⟩;rw[qX] at hq
       cases q0 with
       | none =>
        obtain rfl:=hq;refine⟨rfl,?_,vh.trans qJ⟩;rw[←HR.out,gz,HO.out];dsimp only;unfold Y6;rw[HM.out,if_pos rfl,qX]
       | some q0 =>
        obtain⟨mv,t3⟩:=q0;have HN:=z7 qX;obtain⟨rfl,QB⟩:=hq;have Zu:=z7 QB;have vO:=vh.trans qJ;have qm:=gg.but qJ Zm;clear qX;have Zv:=EU.but qJ j6;clear QB;refine hK.out _ _ qm.c (fun _=>?_);clear hK K;refine xg 4 (by kernel_rfl) rfl (fun K hK=>?_);go_simp;have FA:∃ N,N=uw.alloc (.cells #[.nilFunc] 309)/\xl p uw N/\xm N uw.heap.size .nilFunc:=⟨_,rfl,(xl.refl _ _).alloc _,xm.made _ _ _ (by decide)⟩;obtain⟨Xo,hW,uI,gZ⟩:=FA;have Y2:∀ o,o=zv (some ⟨uw.heap.size,0,none⟩)->o=o:=fun _ _=>rfl
        rw[←hW];have fw:=z7 (Zu.out.below (show Below uw.heap.size uw Xo by rw[hW];exact(zy _ _).alloc (z8 _) _));have uL:=vO.trans uI;have kY:=qm.but uI Zm;have uE:w.heap.size<=uw.heap.size:=vO.size;have kL:uw.heap.size≠Q:=fun e=>by have:=qm.lt;omega
        clear hW Y2;have j7:=Zv.but uI j6;have Zq:uw.heap.size≠k4:=fun e=>by have:=Zv.lt;omega
        obtain⟨k5,bA⟩:∃ k,k=uw.heap.size:=⟨_,rfl⟩;rw[←bA] at gZ uE kL ⊢;rw[←bA] at Zq;have j8:k5≠p:=by omega
        have rF:=z7 bA;clear bA;refine hK.out _ _ kY.c (fun _=>?_);clear hK K;refine jn (m:=#[true,true,true,true,true,false,false]) (by kernel_rfl) ?_;exact L Xo k4 k5 mv ⟨⟨t3,HN.out,fw.out⟩,uL,kY,j7,gZ,uC,uE,by omega,j6,j8,kI,kL⟩
      ·skip
       go_simp;have FA:∃ N,N=qc.alloc (.cells #[.nilFunc] 309)/\xl p qc N/\xm N qc.heap.size .nilFunc:=⟨_,rfl,(xl.refl _ _).alloc _,xm.made _ _ _ (by decide)⟩;obtain⟨uw,hW,qJ,Zk⟩:=FA;have Y2:∀ o,o=zv (some ⟨qc.heap.size,0,none⟩)->o=o:=fun _ _=>rfl
       rw[←hW];have Zu:=z7 (Xn.out.below (show Below qc.heap.size qc uw by rw[hW];exact(zy _ _).alloc (z8 _) _));have vO:=vh.trans qJ;have qm:=gg.but qJ Zm;have uE:w.heap.size<=qc.heap.size:=vh.size;have kL:qc.heap.size≠Q:=fun e=>by have:=gg.lt;omega
       clear hW Y2;have Zv:=EU.but qJ j6;have Zq:qc.heap.size≠k4:=fun e=>by have:=EU.lt;omega
       obtain⟨k5,bA⟩:∃ k,k=qc.heap.size:=⟨_,rfl⟩;rw[←bA] at Zk uE kL ⊢;rw[←bA] at Zq;have j8:k5≠p:=by omega
       have rF:=z7 bA;clear bA;refine hK.out _ _ qm.c (fun _=>?_);clear hK K;refine xg 1 (by kernel_rfl) rfl (fun K hK=>?_);go_simp;refine(Xi.out uw vO Zu.out).mono ?_;rintro e Xo ⟨hq,uI⟩;obtain⟨q0,qX⟩:∃ q0,kR (([]:List Wd)).tail=q0:=⟨_,rfl⟩;rw[qX] at hq
       cases q0 with
       | none =>
        obtain rfl:=hq;refine⟨rfl,?_,vO.trans uI⟩;rw[←HR.out,gz,HO.out];dsimp only;unfold Y6;rw[HM.out,if_pos rfl,qX]
       | some q0 =>
        obtain⟨mv,t3⟩:=q0;have HN:=z7 qX;obtain⟨rfl,QB⟩:=hq;have fw:=z7 QB;have uL:=vO.trans uI;have kY:=qm.but uI Zm;clear qX;have j7:=Zv.but uI j6;have gZ:=Zk.but uI j8;clear QB;refine hK.out _ _ kY.c (fun _=>?_);clear hK K;refine jn (m:=#[true,true,true,true,true,false,false]) (by kernel_rfl) ?_;exact L Xo k4 k5 mv ⟨⟨t3,HN.out,fw.out⟩,uL,kY,j7,gZ,uC,uE,by omega,j6,j8,kI,kL⟩
     ·skip
      go_simp;have FA:∃ N,N=wD.alloc (.cells #[.nilFunc] 309)/\xl p wD N/\xm N wD.heap.size .nilFunc:=⟨_,rfl,(xl.refl _ _).alloc _,xm.made _ _ _ (by decide)⟩;obtain⟨qc,hW,Yl,EK⟩:=FA;have Y2:∀ o,o=zv (some ⟨wD.heap.size,0,none⟩)->o=o:=fun _ _=>rfl
      rw[←hW];have Xn:=z7 (eg.out.below (show Below wD.heap.size wD qc by rw[hW];exact(zy _ _).alloc (z8 _) _));have vh:=dC.trans Yl;have gg:=Tn.but Yl Zm;have uE:w.heap.size<=wD.heap.size:=dC.size;have kL:wD.heap.size≠Q:=fun e=>by have:=Tn.lt;omega
      clear hW Y2;obtain⟨k5,bA⟩:∃ k,k=wD.heap.size:=⟨_,rfl⟩;rw[←bA] at EK uE kL ⊢;have j8:k5≠p:=by omega
      have rF:=z7 bA;clear bA;refine hK.out _ _ gg.c (fun _=>?_);clear hK K;refine wpAnyH_ready (rs:=[1,3]) (by kernel_rfl) (by simp) (zu rfl (fun K hK=>?_) (zu rfl (fun K hK=>?_) zJ))
      ·skip
       go_simp;refine(Xi.out qc vh Xn.out).mono ?_;rintro e uw ⟨hq,qJ⟩;obtain⟨q0,qX⟩:∃ q0,kR (([]:List Wd)).tail=q0:=⟨_,rfl⟩;rw[qX] at hq
       cases q0 with
       | none =>
        obtain rfl:=hq;refine⟨rfl,?_,vh.trans qJ⟩;rw[←HR.out,gz,HO.out];dsimp only;unfold Y6;rw[HM.out,if_pos rfl,qX]
       | some q0 =>
        obtain⟨mv,t3⟩:=q0;have HN:=z7 qX;obtain⟨rfl,QB⟩:=hq;have Zu:=z7 QB;have vO:=vh.trans qJ;have qm:=gg.but qJ Zm;clear qX;have Zk:=EK.but qJ j8;clear QB;refine hK.out _ _ qm.c (fun _=>?_);clear hK K;refine xg 3 (by kernel_rfl) rfl (fun K hK=>?_);go_simp;have FA:∃ N,N=uw.alloc (.cells #[(.int .i64 0)] 3)/\xl p uw N/\xm N uw.heap.size (.int .i64 0):=⟨_,rfl,(xl.refl _ _).alloc _,xm.made _ _ _ (by decide)⟩;obtain⟨Xo,hW,uI,j7⟩:=FA;have Y2:∀ o,o=zv (some ⟨uw.heap.size,0,none⟩)->o=o:=fun _ _=>rfl
        rw[←hW];have fw:=z7 (Zu.out.below (show Below uw.heap.size uw Xo by rw[hW];exact(zy _ _).alloc (z8 _) _));have uL:=vO.trans uI;have kY:=qm.but uI Zm;have uC:w.heap.size<=uw.heap.size:=vO.size;have kI:uw.heap.size≠Q:=fun e=>by have:=qm.lt;omega
        clear hW Y2;have gZ:=Zk.but uI j8;have Zq:uw.heap.size≠k5:=fun e=>by have:=Zk.lt;omega
        obtain⟨k4,du⟩:∃ k,k=uw.heap.size:=⟨_,rfl⟩;rw[←du] at j7 uC kI ⊢;rw[←du] at Zq;have j6:k4≠p:=by omega
        have rG:=z7 du;clear du;refine hK.out _ _ kY.c (fun _=>?_);clear hK K;refine jn (m:=#[true,true,true,true,true,false,false]) (by kernel_rfl) ?_;exact L Xo k4 k5 mv ⟨⟨t3,HN.out,fw.out⟩,uL,kY,j7,gZ,uC,uE,by omega,j6,j8,kI,kL⟩
      ·skip
       go_simp;have FA:∃ N,N=qc.alloc (.cells #[(.int .i64 0)] 3)/\xl p qc N/\xm N qc.heap.size (.int .i64 0):=⟨_,rfl,(xl.refl _ _).alloc _,xm.made _ _ _ (by decide)⟩;obtain⟨uw,hW,qJ,Zv⟩:=FA;have Y2:∀ o,o=zv (some ⟨qc.heap.size,0,none⟩)->o=o:=fun _ _=>rfl
       rw[←hW];have Zu:=z7 (Xn.out.below (show Below qc.heap.size qc uw by rw[hW];exact(zy _ _).alloc (z8 _) _));have vO:=vh.trans qJ;have qm:=gg.but qJ Zm;have uC:w.heap.size<=qc.heap.size:=vh.size;have kI:qc.heap.size≠Q:=fun e=>by have:=gg.lt;omega
       clear hW Y2;have Zk:=EK.but qJ j8;have Zq:qc.heap.size≠k5:=fun e=>by have:=EK.lt;omega
       obtain⟨k4,du⟩:∃ k,k=qc.heap.size:=⟨_,rfl⟩;rw[←du] at Zv uC kI ⊢;rw[←du] at Zq;have j6:k4≠p:=by omega
       have rG:=z7 du;clear du;refine hK.out _ _ qm.c (fun _=>?_);clear hK K;refine xg 1 (by kernel_rfl) rfl (fun K hK=>?_);go_simp;refine(Xi.out uw vO Zu.out).mono ?_;rintro e Xo ⟨hq,uI⟩;obtain⟨q0,qX⟩:∃ q0,kR (([]:List Wd)).tail=q0:=⟨_,rfl⟩;rw[qX] at hq
       cases q0 with
       | none =>
        obtain rfl:=hq;refine⟨rfl,?_,vO.trans uI⟩;rw[←HR.out,gz,HO.out];dsimp only;unfold Y6;rw[HM.out,if_pos rfl,qX]
       | some q0 =>
        obtain⟨mv,t3⟩:=q0;have HN:=z7 qX;obtain⟨rfl,QB⟩:=hq;have fw:=z7 QB;have uL:=vO.trans uI;have kY:=qm.but uI Zm;clear qX;have j7:=Zv.but uI j6;have gZ:=Zk.but uI j8;clear QB;refine hK.out _ _ kY.c (fun _=>?_);clear hK K;refine jn (m:=#[true,true,true,true,true,false,false]) (by kernel_rfl) ?_;exact L Xo k4 k5 mv ⟨⟨t3,HN.out,fw.out⟩,uL,kY,j7,gZ,uC,uE,by omega,j6,j8,kI,kL⟩
    case h1 =>
     rintro Xo k4 k5 mv ⟨⟨t3,qX,ET⟩,uL,kY,j7,gZ,uC,uE,LI,j6,j8,kI,kL⟩;have HN:=z7 qX;have De:=(jV qX).1;have Kb:=Yg qX;have fw:=z7 ET;clear qX ET;refine xg 5 (by kernel_rfl) rfl (fun K hK=>?_);have y4:=j7.c;have y4z:=j7.z;go_simp;refine hK.out _ _ (kY.other (j:=k4) kI.symm _).c (fun _=>?_);clear hK K y4 y4z;have c4S:=j7.same (.int .i64 mv);have il:=gZ.other (j:=k4) LI.symm (.int .i64 mv);have cQS:=kY.other (j:=k4) kI.symm (.int .i64 mv);have LM:=uL.put uC (.int .i64 mv);have mN:=z7 (fw.out.put j6 j7.n (.int .i64 mv));generalize Xo.setCell ⟨k4,0,none⟩ (.int .i64 mv)=wS at c4S il cQS LM mN ⊢;refine xg 6 (by kernel_rfl) rfl (fun K hK=>?_);have y5:=il.c;have y5z:=il.z;go_simp;refine hK.out _ _ (cQS.other (j:=k5) kL.symm _).c (fun _=>?_);clear hK K y5 y5z;have c4T:=c4S.other (j:=k5) LI (.func (.func kf) #[] bX);have c5T:=il.same (.func (.func kf) #[] bX);have im:=cQS.other (j:=k5) kL.symm (.func (.func kf) #[] bX);have Fc:=LM.put uE (.func (.func kf) #[] bX);have Dh:=z7 (mN.out.put j8 il.n (.func (.func kf) #[] bX));generalize wS.setCell ⟨k5,0,none⟩ (.func (.func kf) #[] bX)=wT at c4T c5T im Fc Dh ⊢;refine wpAnyH_done (by kernel_rfl) ?_ _;have y4:=c4T.c;have yQ:=im.c;have yQz:=im.z;by_cases DH:mv=0
     ·have vZ:r=none:=by rw[←HR.out,gz,HO.out];dsimp only;unfold Y6;rw[HM.out,if_pos rfl,HN.out];simp[DH]
      have gJ:=z7 vZ;subst DH;clear vZ;go_wp2;refine⟨rfl,?_,Fc⟩;rw[gJ.out]
     ·have hmz:((mv:Int)==0)=false:=by simp;omega
      have hre:gz (c::([]:List Wd))=match u7 t3 with
        | none=>none
        | some ((i,nt),v)=>some ((fun x=>i (DB F mv x) !=nt),v):=by
       rw[gz,HO.out];dsimp only;unfold Y6;rw[HM.out,if_pos rfl,HN.out];simp only[if_neg DH];rfl
      have nM:=z7 hre;have V6:0<mv:=by omega
      clear hre DH;have cU:=im.same (.func (.func 182) #[] #[.pointer (some ⟨k5,0,none⟩),.pointer (some ⟨k4,0,none⟩)]);have Xp:=Fc.put (show w.heap.size<=Q by have:=HQ.out;omega) (.func (.func 182) #[] #[.pointer (some ⟨k5,0,none⟩),.pointer (some ⟨k4,0,none⟩)]);have wj:=z7 (Dh.out.put Zm im.n (.func (.func 182) #[] #[.pointer (some ⟨k5,0,none⟩),.pointer (some ⟨k4,0,none⟩)]));have c4U:=c4T.other (j:=Q) kI (.func (.func 182) #[] #[.pointer (some ⟨k5,0,none⟩),.pointer (some ⟨k4,0,none⟩)]);have c5U:=c5T.other (j:=Q) kL (.func (.func 182) #[] #[.pointer (some ⟨k5,0,none⟩),.pointer (some ⟨k4,0,none⟩)]);go_wp2_with fail;generalize wT.setCell ⟨Q,0,none⟩ (.func (.func 182) #[] #[.pointer (some ⟨k5,0,none⟩),.pointer (some ⟨k4,0,none⟩)])=wU at cU Xp wj c4U c5U ⊢;have hFU:TS w.heap.size wU.heap.size wU (.func (.func 182) #[] #[.pointer (some ⟨k5,0,none⟩),.pointer (some ⟨k4,0,none⟩)]) (DB F mv) :=
       ⟨182,_,rfl,fun args w=>enters_of func182 (by kernel_rfl) rfl args w,fun W hW nv x hx =>
        LV nv x k5 k4 _ mv F 0 0 W hx De V6 ((hW.cell (p:=⟨k5,0,none⟩) uE c5U.lt).trans c5U.c) ((hW.cell (p:=⟨k4,0,none⟩) uC c4U.lt).trans c4U.c) (HFV.out 0 0 W) (zD _)⟩
      have HFU:=z7 hFU;have cQ:=cU;clear hFU y4 yQ yQz;have OL:=z7 (QD p (t3) wU wj.out (fun x h=>HX.out x (zF _ (zQ (Kb.mem x h)))) (HT.out.but Xp) (by have Ul:=Kb.len;have VO:(([]:List Wd)).tail.length<=(([]:List Wd)).length:=(by simp);omega));go_wp2_with fail;refine OL.out.mono ?_;rintro e w7 ⟨hq,jI⟩;have ji:=Xp.trans jI;have fU:r=match u7 (t3) with
        | none=>none
        | some ((i,nt),v)=>some ((fun x=>i ((DB F mv) x) !=nt),v):=by
       rw[←HR.out];exact nM.out
      cases hn:u7 (t3) with
      | none =>
       rw[hn] at hq fU;obtain rfl:=hq;have gI:=z7 fU;clear fU hn;go_wp2;refine⟨rfl,?_,ji⟩;rw[gI.out]
      | some q =>
       obtain⟨⟨Tm,nt⟩,t'⟩:=q;rw[hn] at hq fU;obtain⟨⟨v,rfl,iA⟩,EN⟩:=hq;have gI:=Lib.hid fU;have HTM:=Lib.hid iA;have HP7:=Lib.hid EN;have ie:=cQ.but jI Zm;have hQ7:=ie.lt;have HF7:=Lib.hid (TS.keep (lo':=w.heap.size) (hi':=w7.heap.size) HFU.out (jI.keep xC (Nat.le_refl _)) (Nat.le_refl _) jI.size);obtain⟨kt,EV,rfl,_⟩:=iA;clear fU hn EN;go_wp2;go_ret;have ZE:=ji.alloc (.cells #[.func (.func kt) #[] EV] 214);have hbB:=ZE.alloc (.cells #[.bool nt] 4);have Ny:(w7.alloc (.cells #[.func (.func kt) #[] EV] 214)).heap.size=w7.heap.size+1:=by simp
       have hsB:((w7.alloc (.cells #[.func (.func kt) #[] EV] 214)).alloc (.cells #[.bool nt] 4)).heap.size=w7.heap.size+2:=by simp
       have Fa:Below w7.heap.size w7 ((w7.alloc (.cells #[.func (.func kt) #[] EV] 214)).alloc (.cells #[.bool nt] 4)):=((zy _ _).alloc (z8 _) _).alloc (by simp) _;refine⟨?_,hbB⟩;rw[gI.out];have hQw:=HQ.out;have hw7:=ji.size;refine⟨⟨_,rfl,185,_,rfl,fun args w=>enters_of func185 (by kernel_rfl) rfl args w,fun W hW nv x hx=>?_⟩,HP7.out.below Fa⟩;rw[hsB] at hW;have JN:vK w.heap.size w7.heap.size w7 W:=hW.via (vB Fa (z8 _) (z8 _)) (z8 _) (by omega);refine QF nv x _ _ _ _ _ nt Tm ((DB F mv)) w.heap.size w7.heap.size W hx ((hW.cell ?_ ?_).trans ?_) ((JN.cell ?_ hQ7).trans ie.c) ((hW.cell ?_ ?_).trans ?_) (HTM.out.keep (JN.via (vg (z8 _)) (by have:=Xp.size;omega) (z8 _)) (by have:=Xp.size;omega) (z8 _)) (HF7.out.keep JN (z8 _) (z8 _)) JN.1;all_goals first|(show w.heap.size<=w7.heap.size;omega)|(show w7.heap.size<w7.heap.size+2;omega)|(show w.heap.size<=w7.heap.size+1;omega)|(show w7.heap.size+1<w7.heap.size+2;omega)|(show w.heap.size<=Q;omega)|(go_simp;done)
  ·have xw:¬(cap:Int)=1:=by omega
   go_wp2_with fail;have F1:∃ W1,W1=(w.setCell ⟨p,0,none⟩ (.slice (some (b.add 1)) t.length (cap - 1))).alloc (.cells #[.func (.func kf) #[] bX] 309)/\xl p w W1/\W1.heap.size=w.heap.size+1/\gH W1 p t/\xm W1 w.heap.size (.func (.func kf) #[] bX):=by
    have hs:(w.setCell ⟨p,0,none⟩ (.slice (some (b.add 1)) t.length (cap - 1))).heap.size=w.heap.size:=by simp[zY]
    refine⟨_,rfl,(xl.set p w 0 _).alloc _,by simp[zY],((HP.out.step hc).1).below ((zy _ _).alloc (z8 _) _),?_⟩;rw[←hs];exact xm.made _ _ _ (by decide)
   obtain⟨W1,Ve,Yt,uT,UH,cQ1⟩:=F1;have Tl:∀ o,((w.setCell ⟨p,0,none⟩ (.slice (some (b.add 1)) t.length (cap - 1))).alloc (.cells #[.func (.func kf) #[] bX] 309)).alloc o=W1.alloc o:=fun o=>by rw[Ve]
   have Ki:=z7 UH;have gM:=z7 uT;have him:=iT p t W1 UH;rw[uT] at him;have HIM:=z7 him;clear UH uT him;have zbz:(some (b.add 1):Option Addr)=some ⟨b.block,b.off+1,none⟩:=rfl;rw[zbz] at Tl;rw[Tl];clear Tl Ve;refine HIM.out.mono ?_;rintro e w2 ⟨rfl,Xx,xB⟩;have ue:=Yt.trans xB;have Zm:w.heap.size≠p:=by omega
   have LH:=cQ1.but xB Zm;have F7:=z7 Xx;clear Xx cQ1
   cases hm:Ig (t.headD [])
   ·have ju:=F7.out;rw[hm] at ju;have QP:=z7 ju;have HM:=z7 hm;clear ju hm;have cQ:=LH;obtain⟨Q,hQ⟩:∃ Q,Q=w.heap.size:=⟨_,rfl⟩;rw[←hQ] at cQ LH Zm ⊢;have HQ:=z7 hQ;clear hQ;have OL:=z7 (QD p (t) w2 QP.out (fun x h=>HX.out x (by simp[h])) (HT.out.but ue) (by omega));go_wp2_with fail;refine OL.out.mono ?_;rintro e w7 ⟨hq,jI⟩;have ji:=ue.trans jI;have fU:r=match u7 (t) with
      | none=>none
      | some ((i,nt),v)=>some ((fun x=>i (F x) !=nt),v):=by
     rw[←HR.out];rw[gz,HO.out];dsimp only;unfold Y6;rw[HM.out];rfl
    cases hn:u7 (t) with
    | none =>
     rw[hn] at hq fU;obtain rfl:=hq;have gI:=z7 fU;clear fU hn;go_wp2;refine⟨rfl,?_,ji⟩;rw[gI.out]
    | some q =>
     obtain⟨⟨Tm,nt⟩,t'⟩:=q;rw[hn] at hq fU;obtain⟨⟨v,rfl,iA⟩,EN⟩:=hq;have gI:=Lib.hid fU;have HTM:=Lib.hid iA;have HP7:=Lib.hid EN;have ie:=cQ.but jI Zm;have hQ7:=ie.lt;have HF7:=Lib.hid (TS.keep (lo':=w.heap.size) (hi':=w7.heap.size) (HFV.out w.heap.size w2.heap.size w2) (jI.keep xC (Nat.le_refl _)) (Nat.le_refl _) jI.size);obtain⟨kt,EV,rfl,_⟩:=iA;clear fU hn EN;go_wp2;go_ret;have ZE:=ji.alloc (.cells #[.func (.func kt) #[] EV] 214);have hbB:=ZE.alloc (.cells #[.bool nt] 4);have Ny:(w7.alloc (.cells #[.func (.func kt) #[] EV] 214)).heap.size=w7.heap.size+1:=by simp
     have hsB:((w7.alloc (.cells #[.func (.func kt) #[] EV] 214)).alloc (.cells #[.bool nt] 4)).heap.size=w7.heap.size+2:=by simp
     have Fa:Below w7.heap.size w7 ((w7.alloc (.cells #[.func (.func kt) #[] EV] 214)).alloc (.cells #[.bool nt] 4)):=((zy _ _).alloc (z8 _) _).alloc (by simp) _;refine⟨?_,hbB⟩;rw[gI.out];have hQw:=HQ.out;have hw7:=ji.size;refine⟨⟨_,rfl,185,_,rfl,fun args w=>enters_of func185 (by kernel_rfl) rfl args w,fun W hW nv x hx=>?_⟩,HP7.out.below Fa⟩;rw[hsB] at hW;have JN:vK w.heap.size w7.heap.size w7 W:=hW.via (vB Fa (z8 _) (z8 _)) (z8 _) (by omega);refine QF nv x _ _ _ _ _ nt Tm (F) w.heap.size w7.heap.size W hx ((hW.cell ?_ ?_).trans ?_) ((JN.cell ?_ hQ7).trans ie.c) ((hW.cell ?_ ?_).trans ?_) (HTM.out.keep (JN.via (vg (z8 _)) (by have:=ue.size;omega) (z8 _)) (by have:=ue.size;omega) (z8 _)) (HF7.out.keep JN (z8 _) (z8 _)) JN.1;all_goals first|(show w.heap.size<=w7.heap.size;omega)|(show w7.heap.size<w7.heap.size+2;omega)|(show w.heap.size<=w7.heap.size+1;omega)|(show w7.heap.size+1<w7.heap.size+2;omega)|(show w.heap.size<=Q;omega)|(go_simp;done)
   ·have ju:=F7.out;rw[hm] at ju;have QP:=z7 ju;have HM:=z7 hm;clear ju hm;have cQ:=LH;obtain⟨Q,hQ⟩:∃ Q,Q=w.heap.size:=⟨_,rfl⟩;rw[←hQ] at cQ LH Zm ⊢;have HQ:=z7 hQ;clear hQ;have Xi:=z7 (fun W (hb:xl p w W) (hp:gH W p t.tail)=>ft p t.tail W hp (fun x h=>HX.out x (zF _ (zQ h))) (HT.out.but hb));have jh:w2.drew.cell? ⟨Q,0,none⟩=some (.func (.func kf) #[] bX):=LH.c;have dC:=ue.drew;have eg:=z7 (show gH w2.drew p t.tail from QP.out.below (zy _ w2).drew);have Tn:xm w2.drew Q (.func (.func kf) #[] bX):=⟨LH.c,LH.z,LH.n⟩;clear Yt;go_wp2_with fail;refine rt (fun W':World=>W'.cell? ⟨Q,0,none⟩=some (.func (.func kf) #[] bX)) [0,2] 5 jh ?_;(iterate 2 ((first|refine ty ?_|refine tn ?_);try simp only[pl]))
    refine xk ?_;generalize w2.drew=wD at dC eg Tn ⊢;apply wI (P:=fun (W:World) (k4 k5 mv:Nat)=>(∃ t3,kR (t).tail=some (mv,t3)/\gH W p t3)/\xl p w W/\xm W Q (.func (.func kf) #[] bX)/\xm W k4 (.int .i64 0)/\xm W k5 .nilFunc/\w.heap.size<=k4/\w.heap.size<=k5/\k4≠k5/\k4≠p/\k5≠p/\k4≠Q/\k5≠Q)
    case h2 =>
     intro L;refine wpAnyH_ready (rs:=[1,3,4]) (by kernel_rfl) (by simp) (zu rfl (fun K hK=>?_) (zu rfl (fun K hK=>?_) (zu rfl (fun K hK=>?_) zJ)))
     ·skip
      go_simp;refine(Xi.out wD dC eg.out).mono ?_;rintro e qc ⟨hq,Yl⟩;obtain⟨q0,qX⟩:∃ q0,kR (t).tail=q0:=⟨_,rfl⟩;rw[qX] at hq
      cases q0 with
      | none =>
       obtain rfl:=hq;refine⟨rfl,?_,dC.trans Yl⟩;rw[←HR.out,gz,HO.out];dsimp only;unfold Y6;rw[HM.out,if_pos rfl,qX]
      | some q0 =>
       obtain⟨mv,t3⟩:=q0;have HN:=z7 qX;obtain⟨rfl,QB⟩:=hq;have Xn:=z7 QB;have vh:=dC.trans Yl;have gg:=Tn.but Yl Zm;clear qX;clear QB;refine hK.out _ _ gg.c (fun _=>?_);clear hK K;refine wpAnyH_ready (rs:=[3,4]) (by kernel_rfl) (by simp) (zu rfl (fun K hK=>?_) (zu rfl (fun K hK=>?_) zJ))
       ·skip
        go_simp;have FA:∃ N,N=qc.alloc (.cells #[(.int .i64 0)] 3)/\xl p qc N/\xm N qc.heap.size (.int .i64 0):=⟨_,rfl,(xl.refl _ _).alloc _,xm.made _ _ _ (by decide)⟩;obtain⟨uw,hW,qJ,Zv⟩:=FA;have Y2:∀ o,o=zv (some ⟨qc.heap.size,0,none⟩)->o=o:=fun _ _=>rfl
        rw[←hW];have Zu:=z7 (Xn.out.below (show Below qc.heap.size qc uw by rw[hW];exact(zy _ _).alloc (z8 _) _));have vO:=vh.trans qJ;have qm:=gg.but qJ Zm;have uC:w.heap.size<=qc.heap.size:=vh.size;have kI:qc.heap.size≠Q:=fun e=>by have:=gg.lt;omega
        clear hW Y2;obtain⟨k4,du⟩:∃ k,k=qc.heap.size:=⟨_,rfl⟩;rw[←du] at Zv uC kI ⊢;have j6:k4≠p:=by omega
        have rG:=z7 du;clear du;refine hK.out _ _ qm.c (fun _=>?_);clear hK K;refine xg 4 (by kernel_rfl) rfl (fun K hK=>?_);go_simp;have FA:∃ N,N=uw.alloc (.cells #[.nilFunc] 309)/\xl p uw N/\xm N uw.heap.size .nilFunc:=⟨_,rfl,(xl.refl _ _).alloc _,xm.made _ _ _ (by decide)⟩;obtain⟨Xo,hW,uI,gZ⟩:=FA;have Y2:∀ o,o=zv (some ⟨uw.heap.size,0,none⟩)->o=o:=fun _ _=>rfl
        rw[←hW];have fw:=z7 (Zu.out.below (show Below uw.heap.size uw Xo by rw[hW];exact(zy _ _).alloc (z8 _) _));have uL:=vO.trans uI;have kY:=qm.but uI Zm;have uE:w.heap.size<=uw.heap.size:=vO.size;have kL:uw.heap.size≠Q:=fun e=>by have:=qm.lt;omega
        clear hW Y2;have j7:=Zv.but uI j6;have Zq:uw.heap.size≠k4:=fun e=>by have:=Zv.lt;omega
        obtain⟨k5,bA⟩:∃ k,k=uw.heap.size:=⟨_,rfl⟩;rw[←bA] at gZ uE kL ⊢;rw[←bA] at Zq;have j8:k5≠p:=by omega
        have rF:=z7 bA;clear bA;refine hK.out _ _ kY.c (fun _=>?_);clear hK K;refine jn (m:=#[true,true,true,true,true,false,false]) (by kernel_rfl) ?_;exact L Xo k4 k5 mv ⟨⟨t3,HN.out,fw.out⟩,uL,kY,j7,gZ,uC,uE,by omega,j6,j8,kI,kL⟩
       ·skip
        go_simp;have FA:∃ N,N=qc.alloc (.cells #[.nilFunc] 309)/\xl p qc N/\xm N qc.heap.size .nilFunc:=⟨_,rfl,(xl.refl _ _).alloc _,xm.made _ _ _ (by decide)⟩;obtain⟨uw,hW,qJ,Zk⟩:=FA;have Y2:∀ o,o=zv (some ⟨qc.heap.size,0,none⟩)->o=o:=fun _ _=>rfl
        rw[←hW];have Zu:=z7 (Xn.out.below (show Below qc.heap.size qc uw by rw[hW];exact(zy _ _).alloc (z8 _) _));have vO:=vh.trans qJ;have qm:=gg.but qJ Zm;have uE:w.heap.size<=qc.heap.size:=vh.size;have kL:qc.heap.size≠Q:=fun e=>by have:=gg.lt;omega
        clear hW Y2;obtain⟨k5,bA⟩:∃ k,k=qc.heap.size:=⟨_,rfl⟩;rw[←bA] at Zk uE kL ⊢;have j8:k5≠p:=by omega
        have rF:=z7 bA;clear bA;refine hK.out _ _ qm.c (fun _=>?_);clear hK K;refine xg 3 (by kernel_rfl) rfl (fun K hK=>?_);go_simp;have FA:∃ N,N=uw.alloc (.cells #[(.int .i64 0)] 3)/\xl p uw N/\xm N uw.heap.size (.int .i64 0):=⟨_,rfl,(xl.refl _ _).alloc _,xm.made _ _ _ (by decide)⟩;obtain⟨Xo,hW,uI,j7⟩:=FA;have Y2:∀ o,o=zv (some ⟨uw.heap.size,0,none⟩)->o=o:=fun _ _=>rfl
        rw[←hW];have fw:=z7 (Zu.out.below (show Below uw.heap.size uw Xo by rw[hW];exact(zy _ _).alloc (z8 _) _));have uL:=vO.trans uI;have kY:=qm.but uI Zm;have uC:w.heap.size<=uw.heap.size:=vO.size;have kI:uw.heap.size≠Q:=fun e=>by have:=qm.lt;omega
        clear hW Y2;have gZ:=Zk.but uI j8;have Zq:uw.heap.size≠k5:=fun e=>by have:=Zk.lt;omega
        obtain⟨k4,du⟩:∃ k,k=uw.heap.size:=⟨_,rfl⟩;rw[←du] at j7 uC kI ⊢;rw[←du] at Zq;have j6:k4≠p:=by omega
        have rG:=z7 du;clear du;refine hK.out _ _ kY.c (fun _=>?_);clear hK K;refine jn (m:=#[true,true,true,true,true,false,false]) (by kernel_rfl) ?_;exact L Xo k4 k5 mv ⟨⟨t3,HN.out,fw.out⟩,uL,kY,j7,gZ,uC,uE,by omega,j6,j8,kI,kL⟩
     ·skip
      go_simp;have FA:∃ N,N=wD.alloc (.cells #[(.int .i64 0)] 3)/\xl p wD N/\xm N wD.heap.size (.int .i64 0):=⟨_,rfl,(xl.refl _ _).alloc _,xm.made _ _ _ (by decide)⟩;obtain⟨qc,hW,Yl,EU⟩:=FA;have Y2:∀ o,o=zv (some ⟨wD.heap.size,0,none⟩)->o=o:=fun _ _=>rfl
      rw[←hW];have Xn:=z7 (eg.out.below (show Below wD.heap.size wD qc by rw[hW];exact(zy _ _).alloc (z8 _) _));have vh:=dC.trans Yl;have gg:=Tn.but Yl Zm;have uC:w.heap.size<=wD.heap.size:=dC.size;have kI:wD.heap.size≠Q:=fun e=>by have:=Tn.lt;omega
      clear hW Y2;obtain⟨k4,du⟩:∃ k,k=wD.heap.size:=⟨_,rfl⟩;rw[←du] at EU uC kI ⊢;have j6:k4≠p:=by omega
      have rG:=z7 du;clear du;refine hK.out _ _ gg.c (fun _=>?_);clear hK K;refine wpAnyH_ready (rs:=[1,4]) (by kernel_rfl) (by simp) (zu rfl (fun K hK=>?_) (zu rfl (fun K hK=>?_) zJ))
      ·skip
       go_simp;refine(Xi.out qc vh Xn.out).mono ?_;rintro e uw ⟨hq,qJ⟩;obtain⟨q0,qX⟩:∃ q0,kR (t).tail=q0:=⟨_,rfl⟩;rw[qX] at hq
       cases q0 with
       | none =>
        obtain rfl:=hq;refine⟨rfl,?_,vh.trans qJ⟩;rw[←HR.out,gz,HO.out];dsimp only;unfold Y6;rw[HM.out,if_pos rfl,qX]
       | some q0 =>
        obtain⟨mv,t3⟩:=q0;have HN:=z7 qX;obtain⟨rfl,QB⟩:=hq;have Zu:=z7 QB;have vO:=vh.trans qJ;have qm:=gg.but qJ Zm;clear qX;have Zv:=EU.but qJ j6;clear QB;refine hK.out _ _ qm.c (fun _=>?_);clear hK K;refine xg 4 (by kernel_rfl) rfl (fun K hK=>?_);go_simp;have FA:∃ N,N=uw.alloc (.cells #[.nilFunc] 309)/\xl p uw N/\xm N uw.heap.size .nilFunc:=⟨_,rfl,(xl.refl _ _).alloc _,xm.made _ _ _ (by decide)⟩;obtain⟨Xo,hW,uI,gZ⟩:=FA;have Y2:∀ o,o=zv (some ⟨uw.heap.size,0,none⟩)->o=o:=fun _ _=>rfl
        rw[←hW];have fw:=z7 (Zu.out.below (show Below uw.heap.size uw Xo by rw[hW];exact(zy _ _).alloc (z8 _) _));have uL:=vO.trans uI;have kY:=qm.but uI Zm;have uE:w.heap.size<=uw.heap.size:=vO.size;have kL:uw.heap.size≠Q:=fun e=>by have:=qm.lt;omega
        clear hW Y2;have j7:=Zv.but uI j6;have Zq:uw.heap.size≠k4:=fun e=>by have:=Zv.lt;omega
        obtain⟨k5,bA⟩:∃ k,k=uw.heap.size:=⟨_,rfl⟩;rw[←bA] at gZ uE kL ⊢;rw[←bA] at Zq;have j8:k5≠p:=by omega
        have rF:=z7 bA;clear bA;refine hK.out _ _ kY.c (fun _=>?_);clear hK K;refine jn (m:=#[true,true,true,true,true,false,false]) (by kernel_rfl) ?_;exact L Xo k4 k5 mv ⟨⟨t3,HN.out,fw.out⟩,uL,kY,j7,gZ,uC,uE,by omega,j6,j8,kI,kL⟩
      ·skip
       go_simp;have FA:∃ N,N=qc.alloc (.cells #[.nilFunc] 309)/\xl p qc N/\xm N qc.heap.size .nilFunc:=⟨_,rfl,(xl.refl _ _).alloc _,xm.made _ _ _ (by decide)⟩;obtain⟨uw,hW,qJ,Zk⟩:=FA;have Y2:∀ o,o=zv (some ⟨qc.heap.size,0,none⟩)->o=o:=fun _ _=>rfl
       rw[←hW];have Zu:=z7 (Xn.out.below (show Below qc.heap.size qc uw by rw[hW];exact(zy _ _).alloc (z8 _) _));have vO:=vh.trans qJ;have qm:=gg.but qJ Zm;have uE:w.heap.size<=qc.heap.size:=vh.size;have kL:qc.heap.size≠Q:=fun e=>by have:=gg.lt;omega
       clear hW Y2;have Zv:=EU.but qJ j6;have Zq:qc.heap.size≠k4:=fun e=>by have:=EU.lt;omega
       obtain⟨k5,bA⟩:∃ k,k=qc.heap.size:=⟨_,rfl⟩;rw[←bA] at Zk uE kL ⊢;rw[←bA] at Zq;have j8:k5≠p:=by omega
       have rF:=z7 bA;clear bA;refine hK.out _ _ qm.c (fun _=>?_);clear hK K;refine xg 1 (by kernel_rfl) rfl (fun K hK=>?_);go_simp;refine(Xi.out uw vO Zu.out).mono ?_;rintro e Xo ⟨hq,uI⟩;obtain⟨q0,qX⟩:∃ q0,kR (t).tail=q0:=⟨_,rfl⟩;rw[qX] at hq
       cases q0 with
       | none =>
        obtain rfl:=hq;refine⟨rfl,?_,vO.trans uI⟩;rw[←HR.out,gz,HO.out];dsimp only;unfold Y6;rw[HM.out,if_pos rfl,qX]
       | some q0 =>
        obtain⟨mv,t3⟩:=q0;have HN:=z7 qX;obtain⟨rfl,QB⟩:=hq;have fw:=z7 QB;have uL:=vO.trans uI;have kY:=qm.but uI Zm;clear qX;have j7:=Zv.but uI j6;have gZ:=Zk.but uI j8;clear QB;refine hK.out _ _ kY.c (fun _=>?_);clear hK K;refine jn (m:=#[true,true,true,true,true,false,false]) (by kernel_rfl) ?_;exact L Xo k4 k5 mv ⟨⟨t3,HN.out,fw.out⟩,uL,kY,j7,gZ,uC,uE,by omega,j6,j8,kI,kL⟩
     ·skip
      go_simp;have FA:∃ N,N=wD.alloc (.cells #[.nilFunc] 309)/\xl p wD N/\xm N wD.heap.size .nilFunc:=⟨_,rfl,(xl.refl _ _).alloc _,xm.made _ _ _ (by decide)⟩;obtain⟨qc,hW,Yl,EK⟩:=FA;have Y2:∀ o,o=zv (some ⟨wD.heap.size,0,none⟩)->o=o:=fun _ _=>rfl
      rw[←hW];have Xn:=z7 (eg.out.below (show Below wD.heap.size wD qc by rw[hW];exact(zy _ _).alloc (z8 _) _));have vh:=dC.trans Yl;have gg:=Tn.but Yl Zm;have uE:w.heap.size<=wD.heap.size:=dC.size;have kL:wD.heap.size≠Q:=fun e=>by have:=Tn.lt;omega
      clear hW Y2;obtain⟨k5,bA⟩:∃ k,k=wD.heap.size:=⟨_,rfl⟩;rw[←bA] at EK uE kL ⊢;have j8:k5≠p:=by omega
      have rF:=z7 bA;clear bA;refine hK.out _ _ gg.c (fun _=>?_);clear hK K;refine wpAnyH_ready (rs:=[1,3]) (by kernel_rfl) (by simp) (zu rfl (fun K hK=>?_) (zu rfl (fun K hK=>?_) zJ))
      ·skip
       go_simp;refine(Xi.out qc vh Xn.out).mono ?_;rintro e uw ⟨hq,qJ⟩;obtain⟨q0,qX⟩:∃ q0,kR (t).tail=q0:=⟨_,rfl⟩;rw[qX] at hq
       cases q0 with
       | none =>
        obtain rfl:=hq;refine⟨rfl,?_,vh.trans qJ⟩;rw[←HR.out,gz,HO.out];dsimp only;unfold Y6;rw[HM.out,if_pos rfl,qX]
       | some q0 =>
        obtain⟨mv,t3⟩:=q0;have HN:=z7 qX;obtain⟨rfl,QB⟩:=hq;have Zu:=z7 QB;have vO:=vh.trans qJ;have qm:=gg.but qJ Zm;clear qX;have Zk:=EK.but qJ j8;clear QB;refine hK.out _ _ qm.c (fun _=>?_);clear hK K;refine xg 3 (by kernel_rfl) rfl (fun K hK=>?_);go_simp;have FA:∃ N,N=uw.alloc (.cells #[(.int .i64 0)] 3)/\xl p uw N/\xm N uw.heap.size (.int .i64 0):=⟨_,rfl,(xl.refl _ _).alloc _,xm.made _ _ _ (by decide)⟩;obtain⟨Xo,hW,uI,j7⟩:=FA;have Y2:∀ o,o=zv (some ⟨uw.heap.size,0,none⟩)->o=o:=fun _ _=>rfl
        rw[←hW];have fw:=z7 (Zu.out.below (show Below uw.heap.size uw Xo by rw[hW];exact(zy _ _).alloc (z8 _) _));have uL:=vO.trans uI;have kY:=qm.but uI Zm;have uC:w.heap.size<=uw.heap.size:=vO.size;have kI:uw.heap.size≠Q:=fun e=>by have:=qm.lt;omega
        clear hW Y2;have gZ:=Zk.but uI j8;have Zq:uw.heap.size≠k5:=fun e=>by have:=Zk.lt;omega
        obtain⟨k4,du⟩:∃ k,k=uw.heap.size:=⟨_,rfl⟩;rw[←du] at j7 uC kI ⊢;rw[←du] at Zq;have j6:k4≠p:=by omega
        have rG:=z7 du;clear du;refine hK.out _ _ kY.c (fun _=>?_);clear hK K;refine jn (m:=#[true,true,true,true,true,false,false]) (by kernel_rfl) ?_;exact L Xo k4 k5 mv ⟨⟨t3,HN.out,fw.out⟩,uL,kY,j7,gZ,uC,uE,by omega,j6,j8,kI,kL⟩
      ·skip
       go_simp;have FA:∃ N,N=qc.alloc (.cells #[(.int .i64 0)] 3)/\xl p qc N/\xm N qc.heap.size (.int .i64 0):=⟨_,rfl,(xl.refl _ _).alloc _,xm.made _ _ _ (by decide)⟩;obtain⟨uw,hW,qJ,Zv⟩:=FA;have Y2:∀ o,o=zv (some ⟨qc.heap.size,0,none⟩)->o=o:=fun _ _=>rfl
       rw[←hW];have Zu:=z7 (Xn.out.below (show Below qc.heap.size qc uw by rw[hW];exact(zy _ _).alloc (z8 _) _));have vO:=vh.trans qJ;have qm:=gg.but qJ Zm;have uC:w.heap.size<=qc.heap.size:=vh.size;have kI:qc.heap.size≠Q:=fun e=>by have:=gg.lt;omega
       clear hW Y2;have Zk:=EK.but qJ j8;have Zq:qc.heap.size≠k5:=fun e=>by have:=EK.lt;omega
       obtain⟨k4,du⟩:∃ k,k=qc.heap.size:=⟨_,rfl⟩;rw[←du] at Zv uC kI ⊢;rw[←du] at Zq;have j6:k4≠p:=by omega
       have rG:=z7 du;clear du;refine hK.out _ _ qm.c (fun _=>?_);clear hK K;refine xg 1 (by kernel_rfl) rfl (fun K hK=>?_);go_simp;refine(Xi.out uw vO Zu.out).mono ?_;rintro e Xo ⟨hq,uI⟩;obtain⟨q0,qX⟩:∃ q0,kR (t).tail=q0:=⟨_,rfl⟩;rw[qX] at hq
       cases q0 with
       | none =>
        obtain rfl:=hq;refine⟨rfl,?_,vO.trans uI⟩;rw[←HR.out,gz,HO.out];dsimp only;unfold Y6;rw[HM.out,if_pos rfl,qX]
       | some q0 =>
        obtain⟨mv,t3⟩:=q0;have HN:=z7 qX;obtain⟨rfl,QB⟩:=hq;have fw:=z7 QB;have uL:=vO.trans uI;have kY:=qm.but uI Zm;clear qX;have j7:=Zv.but uI j6;have gZ:=Zk.but uI j8;clear QB;refine hK.out _ _ kY.c (fun _=>?_);clear hK K;refine jn (m:=#[true,true,true,true,true,false,false]) (by kernel_rfl) ?_;exact L Xo k4 k5 mv ⟨⟨t3,HN.out,fw.out⟩,uL,kY,j7,gZ,uC,uE,by omega,j6,j8,kI,kL⟩
    case h1 =>
     rintro Xo k4 k5 mv ⟨⟨t3,qX,ET⟩,uL,kY,j7,gZ,uC,uE,LI,j6,j8,kI,kL⟩;have HN:=z7 qX;have De:=(jV qX).1;have Kb:=Yg qX;have fw:=z7 ET;clear qX ET;refine xg 5 (by kernel_rfl) rfl (fun K hK=>?_);have y4:=j7.c;have y4z:=j7.z;go_simp;refine hK.out _ _ (kY.other (j:=k4) kI.symm _).c (fun _=>?_);clear hK K y4 y4z;have c4S:=j7.same (.int .i64 mv);have il:=gZ.other (j:=k4) LI.symm (.int .i64 mv);have cQS:=kY.other (j:=k4) kI.symm (.int .i64 mv);have LM:=uL.put uC (.int .i64 mv);have mN:=z7 (fw.out.put j6 j7.n (.int .i64 mv));generalize Xo.setCell ⟨k4,0,none⟩ (.int .i64 mv)=wS at c4S il cQS LM mN ⊢;refine xg 6 (by kernel_rfl) rfl (fun K hK=>?_);have y5:=il.c;have y5z:=il.z;go_simp;refine hK.out _ _ (cQS.other (j:=k5) kL.symm _).c (fun _=>?_);clear hK K y5 y5z;have c4T:=c4S.other (j:=k5) LI (.func (.func kf) #[] bX);have c5T:=il.same (.func (.func kf) #[] bX);have im:=cQS.other (j:=k5) kL.symm (.func (.func kf) #[] bX);have Fc:=LM.put uE (.func (.func kf) #[] bX);have Dh:=z7 (mN.out.put j8 il.n (.func (.func kf) #[] bX));generalize wS.setCell ⟨k5,0,none⟩ (.func (.func kf) #[] bX)=wT at c4T c5T im Fc Dh ⊢;refine wpAnyH_done (by kernel_rfl) ?_ _;have y4:=c4T.c;have yQ:=im.c;have yQz:=im.z;by_cases DH:mv=0
     ·have vZ:r=none:=by rw[←HR.out,gz,HO.out];dsimp only;unfold Y6;rw[HM.out,if_pos rfl,HN.out];simp[DH]
      have gJ:=z7 vZ;subst DH;clear vZ;go_wp2;refine⟨rfl,?_,Fc⟩;rw[gJ.out]
     ·have hmz:((mv:Int)==0)=false:=by simp;omega
      have hre:gz (c::t)=match u7 t3 with
        | none=>none
        | some ((i,nt),v)=>some ((fun x=>i (DB F mv x) !=nt),v):=by
       rw[gz,HO.out];dsimp only;unfold Y6;rw[HM.out,if_pos rfl,HN.out];simp only[if_neg DH];rfl
      have nM:=z7 hre;have V6:0<mv:=by omega
      clear hre DH;have cU:=im.same (.func (.func 182) #[] #[.pointer (some ⟨k5,0,none⟩),.pointer (some ⟨k4,0,none⟩)]);have Xp:=Fc.put (show w.heap.size<=Q by have:=HQ.out;omega) (.func (.func 182) #[] #[.pointer (some ⟨k5,0,none⟩),.pointer (some ⟨k4,0,none⟩)]);have wj:=z7 (Dh.out.put Zm im.n (.func (.func 182) #[] #[.pointer (some ⟨k5,0,none⟩),.pointer (some ⟨k4,0,none⟩)]));have c4U:=c4T.other (j:=Q) kI (.func (.func 182) #[] #[.pointer (some ⟨k5,0,none⟩),.pointer (some ⟨k4,0,none⟩)]);have c5U:=c5T.other (j:=Q) kL (.func (.func 182) #[] #[.pointer (some ⟨k5,0,none⟩),.pointer (some ⟨k4,0,none⟩)]);go_wp2_with fail;generalize wT.setCell ⟨Q,0,none⟩ (.func (.func 182) #[] #[.pointer (some ⟨k5,0,none⟩),.pointer (some ⟨k4,0,none⟩)])=wU at cU Xp wj c4U c5U ⊢;have hFU:TS w.heap.size wU.heap.size wU (.func (.func 182) #[] #[.pointer (some ⟨k5,0,none⟩),.pointer (some ⟨k4,0,none⟩)]) (DB F mv) :=
       ⟨182,_,rfl,fun args w=>enters_of func182 (by kernel_rfl) rfl args w,fun W hW nv x hx =>
        LV nv x k5 k4 _ mv F 0 0 W hx De V6 ((hW.cell (p:=⟨k5,0,none⟩) uE c5U.lt).trans c5U.c) ((hW.cell (p:=⟨k4,0,none⟩) uC c4U.lt).trans c4U.c) (HFV.out 0 0 W) (zD _)⟩
      have HFU:=z7 hFU;have cQ:=cU;clear hFU y4 yQ yQz;have OL:=z7 (QD p (t3) wU wj.out (fun x h=>HX.out x (zF _ (zQ (Kb.mem x h)))) (HT.out.but Xp) (by have Ul:=Kb.len;have VO:(t).tail.length<=(t).length:=(by simp);omega));go_wp2_with fail;refine OL.out.mono ?_;rintro e w7 ⟨hq,jI⟩;have ji:=Xp.trans jI;have fU:r=match u7 (t3) with
        | none=>none
        | some ((i,nt),v)=>some ((fun x=>i ((DB F mv) x) !=nt),v):=by
       rw[←HR.out];exact nM.out
      cases hn:u7 (t3) with
      | none =>
       rw[hn] at hq fU;obtain rfl:=hq;have gI:=z7 fU;clear fU hn;go_wp2;refine⟨rfl,?_,ji⟩;rw[gI.out]
      | some q =>
       obtain⟨⟨Tm,nt⟩,t'⟩:=q;rw[hn] at hq fU;obtain⟨⟨v,rfl,iA⟩,EN⟩:=hq;have gI:=Lib.hid fU;have HTM:=Lib.hid iA;have HP7:=Lib.hid EN;have ie:=cQ.but jI Zm;have hQ7:=ie.lt;have HF7:=Lib.hid (TS.keep (lo':=w.heap.size) (hi':=w7.heap.size) HFU.out (jI.keep xC (Nat.le_refl _)) (Nat.le_refl _) jI.size);obtain⟨kt,EV,rfl,_⟩:=iA;clear fU hn EN;go_wp2;go_ret;have ZE:=ji.alloc (.cells #[.func (.func kt) #[] EV] 214);have hbB:=ZE.alloc (.cells #[.bool nt] 4);have Ny:(w7.alloc (.cells #[.func (.func kt) #[] EV] 214)).heap.size=w7.heap.size+1:=by simp
       have hsB:((w7.alloc (.cells #[.func (.func kt) #[] EV] 214)).alloc (.cells #[.bool nt] 4)).heap.size=w7.heap.size+2:=by simp
       have Fa:Below w7.heap.size w7 ((w7.alloc (.cells #[.func (.func kt) #[] EV] 214)).alloc (.cells #[.bool nt] 4)):=((zy _ _).alloc (z8 _) _).alloc (by simp) _;refine⟨?_,hbB⟩;rw[gI.out];have hQw:=HQ.out;have hw7:=ji.size;refine⟨⟨_,rfl,185,_,rfl,fun args w=>enters_of func185 (by kernel_rfl) rfl args w,fun W hW nv x hx=>?_⟩,HP7.out.below Fa⟩;rw[hsB] at hW;have JN:vK w.heap.size w7.heap.size w7 W:=hW.via (vB Fa (z8 _) (z8 _)) (z8 _) (by omega);refine QF nv x _ _ _ _ _ nt Tm ((DB F mv)) w.heap.size w7.heap.size W hx ((hW.cell ?_ ?_).trans ?_) ((JN.cell ?_ hQ7).trans ie.c) ((hW.cell ?_ ?_).trans ?_) (HTM.out.keep (JN.via (vg (z8 _)) (by have:=Xp.size;omega) (z8 _)) (by have:=Xp.size;omega) (z8 _)) (HF7.out.keep JN (z8 _) (z8 _)) JN.1;all_goals first|(show w.heap.size<=w7.heap.size;omega)|(show w7.heap.size<w7.heap.size+2;omega)|(show w.heap.size<=w7.heap.size+1;omega)|(show w7.heap.size+1<w7.heap.size+2;omega)|(show w.heap.size<=Q;omega)|(go_simp;done)
theorem EJ(p:Nat)(ws:List Wd)(w:World)(hp:gH w p ws)(hx:∀ x∈ws,EZ x)(hT:RT p w)(hl:ws.length<=1000) :
  Calls prog 145 #[.pointer (some ⟨p,0,none⟩)] w (Yi p (gz ws) w):=by
 match ws,hp,hx,hl with
 | [],hp,_,_=>exact EX p w hp
 | c::t,hp,hx,hl=>exact DS p c t w hp hx hT (by simpa using hl)
def zjb(p:Nat)(w:World)(v:Value)(P:Parser):Prop :=
 ∃ k first cap,v = .func (.func k) first cap/\(∀ args w,(callFunc k args).run prog w = .ok (.enter k args) w) /\
  ∀ W ws,xl p w W->gH W p ws->(∀ x∈ws,EZ x)->ws.length<=1000->Calls prog k (first++cap) W (Yi p (P ws) W)
def zg0(v:Value)(tI:List qe->qe):Prop :=
 ∃ k,v = .func (.func k) #[] #[]/\(∀ args w,(callFunc k args).run prog w = .ok (.enter k args) w) /\
  ∀ (Ts:List qe) (a:Option Addr) (c lo:Nat) (W:World),Ts.length<=1000000->lo<=W.heap.size->Zy lo W.heap.size W a Ts ->
   Calls prog k #[.slice a Ts.length c] W fun e w'=>(∃ v,e = .returned v/\kK lo w'.heap.size w' v (tI Ts))/\Below W.heap.size W w'
def zg1(p:Nat)(word:Wd)(P:Parser)(r:Option (List qe×List Wd))(n0:Nat)(w:World)(sv:Value)(n:Nat)(wr:World):Prop :=
 ∃ (Ts:List qe) (us:List Wd),Zl w.heap.size wr sv Ts/\gH wr p us/\xl p w wr/\us.length+Ts.length<=n0+1/\(∀ x∈us,EZ x)/\us.length<=n/\us.length<=n0 /\
  (if Y5 word us then fH word P n Ts us.tail else some (Ts,us))=r
theorem rD{lo l0 h0:Nat}{w:World}{u:Value}{T:qe}(hT:kK l0 h0 w u T)(ED:lo<=l0)(hh:h0<=w.heap.size)(hl:lo<=w.heap.size) :
  Zl lo (w.alloc (.cells #[u] 214)) (.slice (some ⟨w.heap.size,0,none⟩) 1 1) [T]:=by
 have hb:Below w.heap.size w (w.alloc (.cells #[u] 214)):=(zy _ _).alloc (z8 _) _;refine⟨[u],World.ownsRow_lit w #[u] 1 hl (by decide) rfl,fun j hj=>?_⟩;have:j=0:=by simp at hj;omega
 subst this;exact⟨u,l0,h0,rfl,ED,zn hh hb.size,fun g hg=>by cases hg;exact .inr hh,hT.keep (vB hb hh hh) (z8 _) (z8 _)⟩
theorem RZ(p:Nat)(word:Wd)(tI:List qe->qe)(P:Parser)(tv ov:Value)(ws:List Wd)(w:World)(hp:gH w p ws)(hx:∀ x∈ws,EZ x)(hl:ws.length<=1000)(ht:zg0 tv tI)(ho:zjb p w ov P)(hs:∀ us T t,P us=some (T,t)->Sub t us) :
  Calls prog 141 #[.pointer (some ⟨p,0,none⟩),xf word,tv,ov] w (Yi p (CL word tI P ws) w):=by
 obtain⟨r,hr⟩:∃ r,fH word P (ws.length+1) [] ws=r:=⟨_,rfl⟩;have hpr:CL word tI P ws=r.map fun q=>(tI q.1,q.2):=by unfold CL;rw[hr]
 rw[hpr];have HR:=z7 hr;have HX:=z7 hx;have HP:=z7 hp;have HS:=z7 hs;have xC:=hp.lt;obtain⟨kt,rfl,het,zpf⟩:=ht;obtain⟨ko,first,cap,rfl,heo,ir⟩:=ho;have ye3:=z7 zpf;have GF:=z7 ir;clear hr hpr hx hp hs zpf ir;go_enter func141,ntmps141;go_wp2_with fail;refine(GF.out w ws (xl.refl _ _) HP.out HX.out hl).mono ?_;rintro e w1 ⟨hq,xH⟩
 cases hn:P ws with
 | none =>
  rw[hn] at hq;obtain rfl:=hq;have vZ:r=none:=by rw[←HR.out,fH,hn]
  have gJ:=z7 vZ;clear vZ hn;go_wp2;refine⟨rfl,?_,xH⟩;rw[gJ.out];rfl
 | some q =>
  obtain⟨T1,t1⟩:=q;rw[hn] at hq;obtain⟨⟨v,rfl,hT1⟩,UH⟩:=hq;have iw:=HS.out _ _ _ hn;have Jg:=rD hT1 (z8 w.heap.size) (z8 _) xH.size;have HRL:=z7 Jg;obtain⟨kv,cpv,rfl,_⟩:=hT1;have ye4:xl p w (w1.alloc (.cells #[.func (.func kv) #[] cpv] 214)):=xH.below ((zy _ _).alloc (z8 _) _);have zpd:gH (w1.alloc (.cells #[.func (.func kv) #[] cpv] 214)) p t1:=UH.below ((zy _ _).alloc (z8 _) _);have Ki:=z7 zpd;have fU:(if Y5 word t1 then fH word P ws.length [T1] t1.tail else some ([T1],t1))=r:=by rw[←HR.out,fH,hn];rfl
  have gI:=z7 fU;have l6:=z7 (fun x hx=>HX.out x (iw.mem x hx));have zpb:=iw.len;clear hn UH zpd Jg fU iw;go_wp2_with fail;go_loopg [9] ws.length (fun n sv wr=>zg1 p word P r ws.length w sv n wr)
  case atStart=>exact⟨[T1],t1,HRL.out,Ki.out,ye4,by simp;omega,l6.out,zpb,zpb,gI.out⟩
  case round =>
   obtain⟨Ts,us,vL,EP,fg,hlen,PD,hun,hu0,jR⟩:=hrel;have qB:=z7 vL;have HPA:=z7 EP;have HXS:=z7 PD;have bu:=z7 jR;obtain⟨a,c,rfl⟩:=vL.form;clear vL EP PD jR;go_wp2_with fail;refine(fh p word us _ HPA.out).mono ?_;rintro e w2 ⟨rfl,Xx,xB⟩;have ue:=fg.trans xB;have FN:=z7 (qB.out.but xB xC);have F7:=z7 Xx;clear Xx
   cases hi:Y5 word us
   ·have jR:=bu.out;rw[hi] at jR;have Xx:=F7.out;rw[hi] at Xx;have VJ:=z7 jR;have HPZ:=z7 Xx;have Vx:=ye3.out Ts a c w.heap.size w2 (by omega) ue.size FN.out.tests;have HSM:=z7 Vx;clear hi jR Xx Vx;go_wp2_with fail;refine HSM.out.mono ?_;rintro e w3 ⟨⟨v,rfl,htt⟩,uP⟩;have FM:=z7 htt;clear htt;go_wp2;go_ret;rw[←VJ.out];exact⟨⟨⟨_,rfl,FM.out⟩,HPZ.out.below uP⟩,ue.below uP⟩
   ·have jR:=bu.out;rw[hi] at jR;have Xx:=F7.out;rw[hi] at Xx;have HPZ:=z7 Xx;have js:0<us.length:=by
     cases us with
     | nil=>cases hi
     | cons x y=>simp
    obtain⟨m,rfl⟩:∃ m,gk=m+1:=⟨gk - 1,by omega⟩;have VJ:=z7 jR;have ir:=GF.out w2 us.tail ue Xx (fun x hx=>HXS.out x (zQ hx)) (by simp;omega);have HON:=z7 ir;clear hi jR Xx ir;go_wp2_with fail;refine HON.out.mono ?_;rintro e w3 ⟨XY,uP⟩;have dp:=ue.trans uP
    cases Wf:P us.tail with
    | none =>
     rw[Wf] at XY;obtain rfl:=XY;have vZ:r=none:=by rw[←VJ.out];simp[fH,Wf]
     have gJ:=z7 vZ;clear vZ Wf;go_wp2;refine⟨rfl,?_,dp⟩;rw[gJ.out];rfl
    | some q3 =>
     obtain⟨T3,t3⟩:=q3;rw[Wf] at XY;obtain⟨⟨v,rfl,Wb⟩,ET⟩:=XY;have l7:=HS.out _ _ _ Wf;have zr0:(if Y5 word t3 then fH word P m (Ts++[T3]) t3.tail else some (Ts++[T3],t3))=r:=by rw[←VJ.out];simp[fH,Wf]
     have ye5:=z7 zr0;obtain⟨vs,UG,BS⟩:=FN.out.but uP xC;have HFT:=z7 Wb;have LG:=z7 ET;have D2:=z7 BS;have Dq:=z7 UG;have HX3:=z7 (fun x hx=>HXS.out x (zQ (l7.mem x hx)));have hl3:t3.length+1<=us.length:=by have:=l7.len;simp at this;omega
     obtain⟨kf,bX,rfl,_⟩:=Wb;clear ET BS UG Wf zr0 l7;go_wp2_with (at_builtin;refine Ye Ud rfl _ _ rfl w.heap.size _ Ts.length vs rfl (Dq.out.alloc _) ⟨w3.heap.size,0,none⟩ 1 1 [.func (.func kf) #[] bX] rfl rfl ?c1 ?c2 ?c3 ?c4 ?_)
     case c1=>exact cells_one (xq _ _ _ _ _)
     case c2=>intro u hu;simp at hu;subst hu;rfl
     case c3=>omega
     case c4=>have:=dp.size;simp;omega
     intro Qg w5 jc qt FO;have ZE:Below w3.heap.size w3 (w3.alloc (.cells #[.func (.func kf) #[] bX] 214)):=(zy _ _).alloc (z8 _) _;have Xl:∀ g,(Value.slice a Ts.length c).ownBlock=some g->w.heap.size<=g/\g<w2.heap.size:=fun g hg=>by
      obtain⟨_,Sb,_⟩:=FN.out;exact Sb.lt g hg
     have Xm:Zl w.heap.size w5 Qg (Ts++[T3]) :=
      Zl.more D2.out (by have:=Dq.out.1;omega) HFT.out (by have:=ue.size;omega) (z8 _) (fun g hg => .inl (Xl g hg).2) ZE qt (by simpa using FO) jc
     have Iu:gH w5 p t3:=(LG.out.below ZE).row (Dq.out.alloc _) xC qt;have jU:xl p w w5:=(dp.below ZE).OE qt (fun k hk=>(Xl k hk).1);obtain⟨a5,c5,rfl⟩:=xY jc;have FT:=z7 Xm;have Tc:=z7 Iu;clear Xm Iu jc qt FO ZE Xl;go_wp2;go_roundg m
     case measure=>omega
     case rel=>exact⟨Ts++[T3],t3,by simpa using FT.out,Tc.out,jU,by simp;omega,HX3.out,by omega,by omega,ye5.out⟩
theorem To(s:ByteArray)(w:World)(hs:s.size<=1000000) :
  Calls prog 66 #[.string s,.string ⟨#[64]⟩] w fun e w' =>
   e = .returned (.tuple #[.string ⟨(s.data.toList.take (s.data.toList.idxOf 64)).toArray⟩,.string ⟨(s.data.toList.drop (s.data.toList.idxOf 64+1)).toArray⟩,.bool (decide (s.data.toList.idxOf 64<s.size))])/\∃ n,w'=w.drewN n:=by
 have hL:=fun w=>Km s 64 w hs
 have HL:=z7 hL;clear hL;go_enter func66,ntmps66;go_wp2_with fail;refine(HL.out _).mono ?_;rintro e w' ⟨rfl,n,rfl⟩;go_wp2;go_ret3
 exact⟨rfl,n,rfl⟩
abbrev rB:Ending := .panicked [{ v := .iface 278 (.agg #[]),recovered:=false }]
def ye6(r:Option (List Wd))(w:World)(e:Ending)(w':World):Prop :=
 (match r with|none=>e=rB|some ws=>∃ v,e = .returned v/\w'.ownsRow w.heap.size 9 1 v ws.length (ws.map xf))/\Below w.heap.size w w'
def zg2(r:Option (List Wd))(n0:Nat)(w:World)(s sv:Value)(n:Nat)(wr:World):Prop :=
 ∃ (acc:List Wd) (l:List UInt8),s = .string ⟨l.toArray⟩/\wr.ownsRow w.heap.size 9 1 sv acc.length (acc.map xf)/\Below w.heap.size w wr/\l.length<n/\l.length+acc.length<=n0/\jW n acc l=r
theorem Yf{l m:List UInt8}(h:zk l m=false):zE l m=l:=by
 unfold zE;simp[h]
theorem Xr{c:UInt8}{t m:List UInt8}(hm:m=[33,61]\/m=[46,46]\/m=[61]\/m=[44]\/m=[37])(h:zk (c::t) m=true):GI (c::t)=some m/\zE (c::t) m=(c::t).drop m.length:=by
 have ht:zE (c::t) m=(c::t).drop m.length:=by unfold zE;rw[if_pos h]
 refine⟨?_,ht⟩;unfold zk at h;rcases hm with rfl|rfl|rfl|rfl|rfl
 ·cases t with
  | nil=>simp[zj] at h
  | cons d u =>
   simp[zj] at h;obtain⟨rfl,rfl⟩:=h;rfl
 ·cases t with
  | nil=>simp[zj] at h
  | cons d u =>
   simp[zj] at h;obtain⟨rfl,rfl⟩:=h;rfl
 ·simp[zj] at h;subst h;rfl
 ·simp[zj] at h;subst h;rfl
 ·simp[zj] at h;subst h;rfl
theorem Tp{c:UInt8}{t:List UInt8}(h0:zk (c::t) [33,61]=false)(h1:zk (c::t) [46,46]=false)(h2:zk (c::t) [61]=false)(h3:zk (c::t) [44]=false)(h4:zk (c::t) [37]=false):GI (c::t)=none:=by
 unfold GI;split
 ·rename_i u e;cases e;simp[zk,zj] at h0
 ·rename_i u e;cases e;simp[zk,zj] at h1
 ·rename_i u e;cases e;simp[zk,zj] at h2
 ·rename_i u e;cases e;simp[zk,zj] at h3
 ·rename_i u e;cases e;simp[zk,zj] at h4
 ·rfl
theorem Ym{p:UInt8->Bool}:∀ {t:List UInt8} {m:Nat},m<=t.length->(t.take m).all p=true->(∀ h:m<t.length,p t[m]=false)->t.takeWhile p=t.take m/\t.dropWhile p=t.drop m
 | [],0,_,_,_=>⟨rfl,rfl⟩
 | [],m+1,h,_,_=>absurd h (by simp)
 | c::t,0,_,_,h=>by
  have:=h (by simp);have hc:p c=false:=by simpa using this
  rw[ze (by simp[hc]),List.dropWhile_cons_of_neg (by simp[hc])];exact⟨rfl,rfl⟩
 | c::t,m+1,hm,ha,h=>by
  simp only[List.take_succ_cons,List.all_cons,zH] at ha;have ih:=Ym (t:=t) (m:=m) (by simpa using hm) ha.2 (fun hl=>by have:=h (by simp;omega);simpa using this);rw[zc ha.1,List.dropWhile_cons_of_pos ha.1,ih.1,ih.2];exact⟨rfl,rfl⟩
theorem LN(c:UInt8):xI c<=3:=by
 unfold xI;split
 ·decide
 split
 ·decide
 split<;>decide
theorem OM(s:ByteArray)(w:World)(hs:s.size<=1000):Calls prog 140 #[.string s] w (ye6 (ND s.data.toList) w):=by
 obtain⟨r,hr⟩:∃ r,ND s.data.toList=r:=⟨_,rfl⟩;rw[hr];have sr:(s.data.toList.take (s.data.toList.idxOf 64)).length<=s.size:=by simp;omega
 unfold ND at hr;rw[xN] at hr;obtain⟨l0,hl⟩:∃ l0,s.data.toList.take (s.data.toList.idxOf 64)=l0:=⟨_,rfl⟩;have hC:=To s w (by omega);rw[hl] at hr sr hC;have HR:=z7 hr;have HC:=z7 hC;have Vm:∀ (s p:ByteArray) (W:World),Calls prog 65 #[.string s,.string p] W fun e w'=>e = .returned (.tuple #[.string ⟨(zE s.data.toList p.data.toList).toArray⟩,.bool (zk s.data.toList p.data.toList)])/\W=w':=fun s p W=>(Tryz.strings_CutPrefix s p W).mono fun _ _ h=>⟨h.1,h.2.symm⟩
 have B6:=z7 Vm;clear hr hl hC Vm;have zmk:∀ W:World,(zR 303 (.agg #[.string ⟨#[33,61]⟩,.string ⟨#[46,46]⟩,.string ⟨#[61]⟩,.string ⟨#[44]⟩,.string ⟨#[37]⟩]) (.int .i64 0)).run prog W = .ok (.string ⟨#[33,61]⟩) W:=fun W=>by kernel_rfl
 have zmj:∀ W:World,(zR 303 (.agg #[.string ⟨#[33,61]⟩,.string ⟨#[46,46]⟩,.string ⟨#[61]⟩,.string ⟨#[44]⟩,.string ⟨#[37]⟩]) (.int .i64 1)).run prog W = .ok (.string ⟨#[46,46]⟩) W:=fun W=>by kernel_rfl
 have zmg:∀ W:World,(zR 303 (.agg #[.string ⟨#[33,61]⟩,.string ⟨#[46,46]⟩,.string ⟨#[61]⟩,.string ⟨#[44]⟩,.string ⟨#[37]⟩]) (.int .i64 2)).run prog W = .ok (.string ⟨#[61]⟩) W:=fun W=>by kernel_rfl
 have ye7:∀ W:World,(zR 303 (.agg #[.string ⟨#[33,61]⟩,.string ⟨#[46,46]⟩,.string ⟨#[61]⟩,.string ⟨#[44]⟩,.string ⟨#[37]⟩]) (.int .i64 3)).run prog W = .ok (.string ⟨#[44]⟩) W:=fun W=>by kernel_rfl
 have ye8:∀ W:World,(zR 303 (.agg #[.string ⟨#[33,61]⟩,.string ⟨#[46,46]⟩,.string ⟨#[61]⟩,.string ⟨#[44]⟩,.string ⟨#[37]⟩]) (.int .i64 4)).run prog W = .ok (.string ⟨#[37]⟩) W:=fun W=>by kernel_rfl
 go_enter func140,ntmps140;go_wp2_with fail;go_step3
 go_wp2_with fail;refine HC.out.mono ?_;rintro e w1 ⟨rfl,nd,rfl⟩;go_wp2_with fail;go_step3
 go_wp2_with fail;go_loopg [0,2] (s.size+1) (fun n sl sv wr=>zg2 r s.size w sl sv n wr)
 case atStart=>exact⟨[],l0,rfl,World.ownsRow_nil _ _ _ _,below_drewN (zy _ _) nd,by omega,by simp;omega,HR.out⟩
 case round =>
  obtain⟨acc,l,rfl,xJ,hb,jq,B4,jR⟩:=hrel;obtain⟨a,cap,rfl⟩:=xY xJ;have HO:=z7 xJ;have HG:=z7 jR;obtain⟨n,rfl⟩:∃ n,gk=n+1:=⟨gk - 1,by omega⟩;clear xJ jR
  cases l with
  | nil =>
   have hg:r=some acc:=by rw[←HG.out,jW]
   have HGG:=z7 hg;clear hg;go_wp2;try rw[Exit.noGoto_ret]
   go_ret;rw[HGG.out];exact⟨⟨_,rfl,HO.out⟩,hb⟩
  | cons c t =>
   have qs:=size_mk (c::t);obtain⟨u,hu⟩:∃ u:ByteArray,u=⟨(c::t).toArray⟩:=⟨_,rfl⟩;have hud:u.data.toList=c::t:=by rw[hu]
   rw[←hu] at qs ⊢;have HU:=z7 hu;have LO:=z7 hud;have js:(0:Int)<(u.size:Int):=by rw[qs];simp
   have dQ:=z7 qs;clear hu hud;have xC:t.length+1<=s.size:=by have h1:=B4;simp at h1;omega
   clear qs;have P0:=B6.out u ⟨#[33,61]⟩;have P1:=B6.out u ⟨#[46,46]⟩;have P2:=B6.out u ⟨#[61]⟩;have P3:=B6.out u ⟨#[44]⟩;have P4:=B6.out u ⟨#[37]⟩;rw[LO.out] at P0;rw[LO.out] at P1;rw[LO.out] at P2;rw[LO.out] at P3;rw[LO.out] at P4
   cases q0:zk (c::t) (⟨#[33,61]⟩:ByteArray).data.toList
   ·skip
    rw[q0,Yf q0] at P0;have mH:=z7 P0;have Q0:=z7 q0;clear P0 q0
    cases q1:zk (c::t) (⟨#[46,46]⟩:ByteArray).data.toList
    ·skip
     rw[q1,Yf q1] at P1;have Ki:=z7 P1;have Q1:=z7 q1;clear P1 q1
     cases q2:zk (c::t) (⟨#[61]⟩:ByteArray).data.toList
     ·skip
      rw[q2,Yf q2] at P2;have F7:=z7 P2;have Q2:=z7 q2;clear P2 q2
      cases q3:zk (c::t) (⟨#[44]⟩:ByteArray).data.toList
      ·skip
       rw[q3,Yf q3] at P3;have iH:=z7 P3;have Q3:=z7 q3;clear P3 q3
       cases q4:zk (c::t) (⟨#[37]⟩:ByteArray).data.toList
       ·skip
        rw[q4,Yf q4] at P4;have LG:=z7 P4;have Q4:=z7 q4;clear P4 q4;have LP:=Tp Q0.out Q1.out Q2.out Q3.out Q4.out;have jR:=HG.out;rw[jW,LP] at jR;have bu:=z7 jR;clear jR LP;go_wp2_with fail;refine wp_loop_rounds 6 ?_;rw[rounds_succ];go_wp2_with fail;refine(mH.out _).mono ?_;rintro e wz0 ⟨rfl,rfl⟩;go_wp2_with fail;rw[rounds_succ];go_wp2_with fail;refine(Ki.out _).mono ?_;rintro e wz1 ⟨rfl,rfl⟩;go_wp2_with fail;rw[rounds_succ];go_wp2_with fail;refine(F7.out _).mono ?_;rintro e wz2 ⟨rfl,rfl⟩;go_wp2_with fail;rw[rounds_succ];go_wp2_with fail;refine(iH.out _).mono ?_;rintro e wz3 ⟨rfl,rfl⟩;go_wp2_with fail;rw[rounds_succ];go_wp2_with fail;refine(LG.out _).mono ?_;rintro e wz4 ⟨rfl,rfl⟩;go_wp2_with fail;rw[rounds_succ];have ZG:=fun W=>fe c W
        have WH:u[0]'(by omega)=c:=by
         have h1:=HU.out;subst h1;simp[zS]
        go_wp2_with fail;have Ww:=z7 ZG;have HG0:=z7 WH;clear ZG WH;have hk3:=LN c;have hKc:=(by omega:xI c=0\/xI c=1\/xI c=2\/xI c=3);have Qw:u.size=t.length+1:=dQ.out;have hux:∀ m (h:m<t.length) (h2:m+1<u.size),u[m+1]=t[m]:=fun m h h2=>by
         have h1:=HU.out;subst h1;simp[zS]
        have HUX:=z7 hux;have JF:=Ww.out wr;clear zmk zmj zmg ye7 ye8 hux hk3 Qw js;rcases hKc with hK|hK|hK|hK
        ·skip
         rw[hK] at JF;refine JF.mono ?_;rintro e w3 ⟨rfl,rfl⟩;have HK:=z7 hK;clear hK JF;go_wp2_with fail;go_loop [7] (fun v=>∃ m:Nat,m<=t.length/\v = .int .i64 ((m+1:Nat):Int)/\(t.take m).all (fun d=>xI d==xI c)=true) (fun v=>t.length+1 - (intOf v).toNat)
         case atStart=>exact⟨0,zD _,rfl,rfl⟩
         case round =>
          obtain⟨m,hm,rfl,uN⟩:=hrel;have Y9:=z7 uN;clear uN;by_cases EG:m<t.length
          ·have b1:m+1<u.size:=by have GB:u.size=t.length+1:=dQ.out;omega
           have hum:=HUX.out m EG b1;have b2:(m:Int)+1<(u.size:Int):=by omega
           have b3:m+1<=u.size:=by omega
           have jM:=fe t[m] wr;obtain⟨K2,ES⟩:∃ K2,xI t[m]=K2:=⟨_,rfl⟩;rw[ES] at jM;have HCM:=z7 jM;have TD:=z7 ES;clear jM ES;go_wp2_with fail;refine HCM.out.mono ?_;rintro e w4 ⟨rfl,rfl⟩;by_cases hq:K2=0
           ·have hq':((K2:Int)==0)=true:=by rw[hq];rfl
            have KX:(t.take (m+1)).all (fun d=>xI d==xI c)=true:=by
             rw[zZ EG,zL,Y9.out];simp[TD.out,HK.out,hq]
            have ON:=z7 KX;clear hq KX;go_wp2;exact⟨⟨m+1,by omega,by go_num,ON.out⟩,by simp[intOf];omega⟩
           ·have hq':((K2:Int)==0)=false:=by simp;omega
            have vH:=Ym (p:=fun d=>xI d==xI c) hm Y9.out (fun h=>by simp[TD.out,HK.out,hq]);have fY:=z7 vH;clear vH hq;have vZ:r=none:=by rw[←bu.out,if_pos HK.out]
            have gJ:=z7 vZ;clear vZ;go_wp2;refine⟨rfl,?_,hb⟩;rw[gJ.out]
          ·have vH:=Ym (p:=fun d=>xI d==xI c) hm Y9.out (fun h=>absurd h EG);have fY:=z7 vH;have b2:¬((m:Int)+1<(u.size:Int)):=by have GB:u.size=t.length+1:=dQ.out;omega
           have b1:¬(m+1<u.size):=by omega
           have b3:m+1<=u.size:=by have GB:u.size=t.length+1:=dQ.out;omega
           clear vH EG;have vZ:r=none:=by rw[←bu.out,if_pos HK.out]
           have gJ:=z7 vZ;clear vZ;go_wp2;refine⟨rfl,?_,hb⟩;rw[gJ.out]
        ·skip
         rw[hK] at JF;refine JF.mono ?_;rintro e w3 ⟨rfl,rfl⟩;have HK:=z7 hK;clear hK JF;go_wp2_with fail;go_loop [7] (fun v=>∃ m:Nat,m<=t.length/\v = .int .i64 ((m+1:Nat):Int)/\(t.take m).all (fun d=>xI d==xI c)=true) (fun v=>t.length+1 - (intOf v).toNat)
         case atStart=>exact⟨0,zD _,rfl,rfl⟩
         case round =>
          obtain⟨m,hm,rfl,uN⟩:=hrel;have Y9:=z7 uN;clear uN;by_cases EG:m<t.length
          ·have b1:m+1<u.size:=by have GB:u.size=t.length+1:=dQ.out;omega
           have hum:=HUX.out m EG b1;have b2:(m:Int)+1<(u.size:Int):=by omega
           have b3:m+1<=u.size:=by omega
           have jM:=fe t[m] wr;obtain⟨K2,ES⟩:∃ K2,xI t[m]=K2:=⟨_,rfl⟩;rw[ES] at jM;have HCM:=z7 jM;have TD:=z7 ES;clear jM ES;go_wp2_with fail;refine HCM.out.mono ?_;rintro e w4 ⟨rfl,rfl⟩;by_cases hq:K2=1
           ·have hq':((K2:Int)==1)=true:=by rw[hq];rfl
            have KX:(t.take (m+1)).all (fun d=>xI d==xI c)=true:=by
             rw[zZ EG,zL,Y9.out];simp[TD.out,HK.out,hq]
            have ON:=z7 KX;clear hq KX;go_wp2;exact⟨⟨m+1,by omega,by go_num,ON.out⟩,by simp[intOf];omega⟩
           ·have hq':((K2:Int)==1)=false:=by simp;omega
            have vH:=Ym (p:=fun d=>xI d==xI c) hm Y9.out (fun h=>by simp[TD.out,HK.out,hq]);have fY:=z7 vH;clear vH hq;have Xs:jW n acc (t.drop m)=r:=by
             have h1:=bu.out;rw[if_neg (by rw[HK.out];decide),fY.out.1,fY.out.2] at h1;rw[if_pos HK.out] at h1;exact h1
            have VJ:=z7 Xs;have q9:u.extract (m+1) u.size=⟨(t.drop m).toArray⟩:=by rw[qO,LO.out];rfl
            have dH:u.extract 0 (m+1)=⟨(c::t.take m).toArray⟩:=by rw[qM,LO.out];rfl
            have l6:=z7 dH;have Ss:=z7 q9;clear Xs dH q9;go_wp2;rw[Ss.out];go_roundg n
            case measure=>omega
            case rel=>exact⟨acc,t.drop m,rfl,HO.out,hb,by simp at jq ⊢;omega,by simp at B4 ⊢;omega,VJ.out⟩
          ·have vH:=Ym (p:=fun d=>xI d==xI c) hm Y9.out (fun h=>absurd h EG);have fY:=z7 vH;have b2:¬((m:Int)+1<(u.size:Int)):=by have GB:u.size=t.length+1:=dQ.out;omega
           have b1:¬(m+1<u.size):=by omega
           have b3:m+1<=u.size:=by have GB:u.size=t.length+1:=dQ.out;omega
           clear vH EG;have Xs:jW n acc (t.drop m)=r:=by
            have h1:=bu.out;rw[if_neg (by rw[HK.out];decide),fY.out.1,fY.out.2] at h1;rw[if_pos HK.out] at h1;exact h1
           have VJ:=z7 Xs;have q9:u.extract (m+1) u.size=⟨(t.drop m).toArray⟩:=by rw[qO,LO.out];rfl
           have dH:u.extract 0 (m+1)=⟨(c::t.take m).toArray⟩:=by rw[qM,LO.out];rfl
           have l6:=z7 dH;have Ss:=z7 q9;clear Xs dH q9;go_wp2;rw[Ss.out];go_roundg n
           case measure=>omega
           case rel=>exact⟨acc,t.drop m,rfl,HO.out,hb,by simp at jq ⊢;omega,by simp at B4 ⊢;omega,VJ.out⟩
        ·skip
         rw[hK] at JF;refine JF.mono ?_;rintro e w3 ⟨rfl,rfl⟩;have HK:=z7 hK;clear hK JF;go_wp2_with fail;go_loop [7] (fun v=>∃ m:Nat,m<=t.length/\v = .int .i64 ((m+1:Nat):Int)/\(t.take m).all (fun d=>xI d==xI c)=true) (fun v=>t.length+1 - (intOf v).toNat)
         case atStart=>exact⟨0,zD _,rfl,rfl⟩
         case round =>
          obtain⟨m,hm,rfl,uN⟩:=hrel;have Y9:=z7 uN;clear uN;by_cases EG:m<t.length
          ·have b1:m+1<u.size:=by have GB:u.size=t.length+1:=dQ.out;omega
           have hum:=HUX.out m EG b1;have b2:(m:Int)+1<(u.size:Int):=by omega
           have b3:m+1<=u.size:=by omega
           have jM:=fe t[m] wr;obtain⟨K2,ES⟩:∃ K2,xI t[m]=K2:=⟨_,rfl⟩;rw[ES] at jM;have HCM:=z7 jM;have TD:=z7 ES;clear jM ES;go_wp2_with fail;refine HCM.out.mono ?_;rintro e w4 ⟨rfl,rfl⟩;by_cases hq:K2=2
           ·have hq':((K2:Int)==2)=true:=by rw[hq];rfl
            have KX:(t.take (m+1)).all (fun d=>xI d==xI c)=true:=by
             rw[zZ EG,zL,Y9.out];simp[TD.out,HK.out,hq]
            have ON:=z7 KX;clear hq KX;go_wp2;exact⟨⟨m+1,by omega,by go_num,ON.out⟩,by simp[intOf];omega⟩
           ·have hq':((K2:Int)==2)=false:=by simp;omega
            have vH:=Ym (p:=fun d=>xI d==xI c) hm Y9.out (fun h=>by simp[TD.out,HK.out,hq]);have fY:=z7 vH;clear vH hq;have Xs:jW n (acc++[c::t.take m]) (t.drop m)=r:=by
             have h1:=bu.out;rw[if_neg (by rw[HK.out];decide),fY.out.1,fY.out.2] at h1;rw[if_neg (by rw[HK.out];decide)] at h1;exact h1
            have VJ:=z7 Xs;have q9:u.extract (m+1) u.size=⟨(t.drop m).toArray⟩:=by rw[qO,LO.out];rfl
            have dH:u.extract 0 (m+1)=⟨(c::t.take m).toArray⟩:=by rw[qM,LO.out];rfl
            have l6:=z7 dH;have Ss:=z7 q9;clear Xs dH q9;go_wp2_with (at_builtin;refine qG ke rfl _ _ rfl w.heap.size _ _ _ rfl (HO.out.alloc _) ⟨wr.heap.size,0,none⟩ 1 1 [.string (u.extract 0 (m+1))] rfl rfl ?c1x2 ?c2x2 ?c3x2 ?c4x2 ?_);try(case c1x2=>exact cells_one (xq _ _ _ _ _))
            try(case c2x2=>first|rfl|(intro x hx;simp at hx;subst hx;rfl))
            try(case c3x2=>omega)
            try(case c4x2=>have:=hb.size;simp;omega)
            intro Qg w5 jc qt;have jw:Below w.heap.size w w5:=(hb.alloc hb.size _).grown qt (by have:=hb.size;simp;omega) (fun q hq=>(HO.out.lt q hq).1);obtain⟨a5,c5,rfl⟩:=xY jc;rw[l6.out] at jc;have G6:=z7 jc;clear jc qt;go_wp2;rw[Ss.out];go_roundg n
            case measure=>omega
            case rel=>exact⟨acc++[c::t.take m],t.drop m,rfl,by simpa using G6.out,jw,by simp at jq ⊢;omega,by simp at B4;simp only[zx,zg,zV,zO];omega,VJ.out⟩
          ·have vH:=Ym (p:=fun d=>xI d==xI c) hm Y9.out (fun h=>absurd h EG);have fY:=z7 vH;have b2:¬((m:Int)+1<(u.size:Int)):=by have GB:u.size=t.length+1:=dQ.out;omega
           have b1:¬(m+1<u.size):=by omega
           have b3:m+1<=u.size:=by have GB:u.size=t.length+1:=dQ.out;omega
           clear vH EG;have Xs:jW n (acc++[c::t.take m]) (t.drop m)=r:=by
            have h1:=bu.out;rw[if_neg (by rw[HK.out];decide),fY.out.1,fY.out.2] at h1;rw[if_neg (by rw[HK.out];decide)] at h1;exact h1
           have VJ:=z7 Xs;have q9:u.extract (m+1) u.size=⟨(t.drop m).toArray⟩:=by rw[qO,LO.out];rfl
           have dH:u.extract 0 (m+1)=⟨(c::t.take m).toArray⟩:=by rw[qM,LO.out];rfl
           have l6:=z7 dH;have Ss:=z7 q9;clear Xs dH q9;go_wp2_with (at_builtin;refine qG ke rfl _ _ rfl w.heap.size _ _ _ rfl (HO.out.alloc _) ⟨wr.heap.size,0,none⟩ 1 1 [.string (u.extract 0 (m+1))] rfl rfl ?c1x3 ?c2x3 ?c3x3 ?c4x3 ?_);try(case c1x3=>exact cells_one (xq _ _ _ _ _))
           try(case c2x3=>first|rfl|(intro x hx;simp at hx;subst hx;rfl))
           try(case c3x3=>omega)
           try(case c4x3=>have:=hb.size;simp;omega)
           intro Qg w5 jc qt;have jw:Below w.heap.size w w5:=(hb.alloc hb.size _).grown qt (by have:=hb.size;simp;omega) (fun q hq=>(HO.out.lt q hq).1);obtain⟨a5,c5,rfl⟩:=xY jc;rw[l6.out] at jc;have G6:=z7 jc;clear jc qt;go_wp2;rw[Ss.out];go_roundg n
           case measure=>omega
           case rel=>exact⟨acc++[c::t.take m],t.drop m,rfl,by simpa using G6.out,jw,by simp at jq ⊢;omega,by simp at B4;simp only[zx,zg,zV,zO];omega,VJ.out⟩
        ·skip
         rw[hK] at JF;refine JF.mono ?_;rintro e w3 ⟨rfl,rfl⟩;have HK:=z7 hK;clear hK JF;go_wp2_with fail;go_loop [7] (fun v=>∃ m:Nat,m<=t.length/\v = .int .i64 ((m+1:Nat):Int)/\(t.take m).all (fun d=>xI d==xI c)=true) (fun v=>t.length+1 - (intOf v).toNat)
         case atStart=>exact⟨0,zD _,rfl,rfl⟩
         case round =>
          obtain⟨m,hm,rfl,uN⟩:=hrel;have Y9:=z7 uN;clear uN;by_cases EG:m<t.length
          ·have b1:m+1<u.size:=by have GB:u.size=t.length+1:=dQ.out;omega
           have hum:=HUX.out m EG b1;have b2:(m:Int)+1<(u.size:Int):=by omega
           have b3:m+1<=u.size:=by omega
           have jM:=fe t[m] wr;obtain⟨K2,ES⟩:∃ K2,xI t[m]=K2:=⟨_,rfl⟩;rw[ES] at jM;have HCM:=z7 jM;have TD:=z7 ES;clear jM ES;go_wp2_with fail;refine HCM.out.mono ?_;rintro e w4 ⟨rfl,rfl⟩;by_cases hq:K2=3
           ·have hq':((K2:Int)==3)=true:=by rw[hq];rfl
            have KX:(t.take (m+1)).all (fun d=>xI d==xI c)=true:=by
             rw[zZ EG,zL,Y9.out];simp[TD.out,HK.out,hq]
            have ON:=z7 KX;clear hq KX;go_wp2;exact⟨⟨m+1,by omega,by go_num,ON.out⟩,by simp[intOf];omega⟩
           ·have hq':((K2:Int)==3)=false:=by simp;omega
            have vH:=Ym (p:=fun d=>xI d==xI c) hm Y9.out (fun h=>by simp[TD.out,HK.out,hq]);have fY:=z7 vH;clear vH hq;have Xs:jW n (acc++[c::t.take m]) (t.drop m)=r:=by
             have h1:=bu.out;rw[if_neg (by rw[HK.out];decide),fY.out.1,fY.out.2] at h1;rw[if_neg (by rw[HK.out];decide)] at h1;exact h1
            have VJ:=z7 Xs;have q9:u.extract (m+1) u.size=⟨(t.drop m).toArray⟩:=by rw[qO,LO.out];rfl
            have dH:u.extract 0 (m+1)=⟨(c::t.take m).toArray⟩:=by rw[qM,LO.out];rfl
            have l6:=z7 dH;have Ss:=z7 q9;clear Xs dH q9;go_wp2_with (at_builtin;refine qG ke rfl _ _ rfl w.heap.size _ _ _ rfl (HO.out.alloc _) ⟨wr.heap.size,0,none⟩ 1 1 [.string (u.extract 0 (m+1))] rfl rfl ?c1x4 ?c2x4 ?c3x4 ?c4x4 ?_);try(case c1x4=>exact cells_one (xq _ _ _ _ _))
            try(case c2x4=>first|rfl|(intro x hx;simp at hx;subst hx;rfl))
            try(case c3x4=>omega)
            try(case c4x4=>have:=hb.size;simp;omega)
            intro Qg w5 jc qt;have jw:Below w.heap.size w w5:=(hb.alloc hb.size _).grown qt (by have:=hb.size;simp;omega) (fun q hq=>(HO.out.lt q hq).1);obtain⟨a5,c5,rfl⟩:=xY jc;rw[l6.out] at jc;have G6:=z7 jc;clear jc qt;go_wp2;rw[Ss.out];go_roundg n
            case measure=>omega
            case rel=>exact⟨acc++[c::t.take m],t.drop m,rfl,by simpa using G6.out,jw,by simp at jq ⊢;omega,by simp at B4;simp only[zx,zg,zV,zO];omega,VJ.out⟩
          ·have vH:=Ym (p:=fun d=>xI d==xI c) hm Y9.out (fun h=>absurd h EG);have fY:=z7 vH;have b2:¬((m:Int)+1<(u.size:Int)):=by have GB:u.size=t.length+1:=dQ.out;omega
           have b1:¬(m+1<u.size):=by omega
           have b3:m+1<=u.size:=by have GB:u.size=t.length+1:=dQ.out;omega
           clear vH EG;have Xs:jW n (acc++[c::t.take m]) (t.drop m)=r:=by
            have h1:=bu.out;rw[if_neg (by rw[HK.out];decide),fY.out.1,fY.out.2] at h1;rw[if_neg (by rw[HK.out];decide)] at h1;exact h1
           have VJ:=z7 Xs;have q9:u.extract (m+1) u.size=⟨(t.drop m).toArray⟩:=by rw[qO,LO.out];rfl
           have dH:u.extract 0 (m+1)=⟨(c::t.take m).toArray⟩:=by rw[qM,LO.out];rfl
           have l6:=z7 dH;have Ss:=z7 q9;clear Xs dH q9;go_wp2_with (at_builtin;refine qG ke rfl _ _ rfl w.heap.size _ _ _ rfl (HO.out.alloc _) ⟨wr.heap.size,0,none⟩ 1 1 [.string (u.extract 0 (m+1))] rfl rfl ?c1x5 ?c2x5 ?c3x5 ?c4x5 ?_);try(case c1x5=>exact cells_one (xq _ _ _ _ _))
           try(case c2x5=>first|rfl|(intro x hx;simp at hx;subst hx;rfl))
           try(case c3x5=>omega)
           try(case c4x5=>have:=hb.size;simp;omega)
           intro Qg w5 jc qt;have jw:Below w.heap.size w w5:=(hb.alloc hb.size _).grown qt (by have:=hb.size;simp;omega) (fun q hq=>(HO.out.lt q hq).1);obtain⟨a5,c5,rfl⟩:=xY jc;rw[l6.out] at jc;have G6:=z7 jc;clear jc qt;go_wp2;rw[Ss.out];go_roundg n
           case measure=>omega
           case rel=>exact⟨acc++[c::t.take m],t.drop m,rfl,by simpa using G6.out,jw,by simp at jq ⊢;omega,by simp at B4;simp only[zx,zg,zV,zO];omega,VJ.out⟩
       ·skip
        obtain⟨LP,RY⟩:=Xr (by simp) q4;rw[q4,RY] at P4;have LG:=Lib.hid P4;have jR:=HG.out;rw[jW,LP] at jR;have bu:=Lib.hid jR;have qz:((c::t).drop ([37]:List UInt8).length).length<=t.length:=by simp
        have Iw:=z7 qz;clear q4 LP RY jR qz P4;go_wp2_with fail;refine wp_loop_rounds 6 ?_;rw[rounds_succ];go_wp2_with fail;refine(mH.out _).mono ?_;rintro e wz0 ⟨rfl,rfl⟩;go_wp2_with fail;rw[rounds_succ];go_wp2_with fail;refine(Ki.out _).mono ?_;rintro e wz1 ⟨rfl,rfl⟩;go_wp2_with fail;rw[rounds_succ];go_wp2_with fail;refine(F7.out _).mono ?_;rintro e wz2 ⟨rfl,rfl⟩;go_wp2_with fail;rw[rounds_succ];go_wp2_with fail;refine(iH.out _).mono ?_;rintro e wz3 ⟨rfl,rfl⟩;go_wp2_with fail;rw[rounds_succ];go_wp2_with fail;refine(LG.out _).mono ?_;rintro e wz4 ⟨rfl,rfl⟩;go_wp2_with (at_builtin;refine qG ke rfl _ _ rfl w.heap.size _ _ _ rfl (HO.out.alloc _) ⟨wr.heap.size,0,none⟩ 1 1 [xf [37]] rfl rfl ?c1x6 ?c2x6 ?c3x6 ?c4x6 ?_);try(case c1x6=>exact cells_one (xq _ _ _ _ _))
        try(case c2x6=>first|rfl|(intro u hu;simp at hu;subst hu;rfl))
        try(case c3x6=>omega)
        try(case c4x6=>have:=hb.size;simp;omega)
        intro Qg w5 jc qt;have jw:Below w.heap.size w w5:=(hb.alloc hb.size _).grown qt (by have:=hb.size;simp;omega) (fun q hq=>(HO.out.lt q hq).1);obtain⟨a5,c5,rfl⟩:=xY jc;have G6:=z7 jc;clear jc qt;go_wp2;go_roundg n
        case measure=>omega
        case rel=>exact⟨acc++[[37]],_,rfl,by simpa using G6.out,jw,by first|(have:=Iw.out;simp at jq;omega)|(simp at jq ⊢;omega)|(simp at jq ⊢;exact jq),by first|(have:=Iw.out;simp at B4;simp only[zx,zg,zV];omega)|(simp at B4 ⊢;omega),by first|exact bu.out|simpa using bu.out⟩
      ·skip
       obtain⟨LP,RY⟩:=Xr (by simp) q3;rw[q3,RY] at P3;have iH:=Lib.hid P3;have jR:=HG.out;rw[jW,LP] at jR;have bu:=Lib.hid jR;have qz:((c::t).drop ([44]:List UInt8).length).length<=t.length:=by simp
       have Iw:=z7 qz;clear q3 LP RY jR qz P3 P4;go_wp2_with fail;refine wp_loop_rounds 6 ?_;rw[rounds_succ];go_wp2_with fail;refine(mH.out _).mono ?_;rintro e wz0 ⟨rfl,rfl⟩;go_wp2_with fail;rw[rounds_succ];go_wp2_with fail;refine(Ki.out _).mono ?_;rintro e wz1 ⟨rfl,rfl⟩;go_wp2_with fail;rw[rounds_succ];go_wp2_with fail;refine(F7.out _).mono ?_;rintro e wz2 ⟨rfl,rfl⟩;go_wp2_with fail;rw[rounds_succ];go_wp2_with fail;refine(iH.out _).mono ?_;rintro e wz3 ⟨rfl,rfl⟩;go_wp2_with (at_builtin;refine qG ke rfl _ _ rfl w.heap.size _ _ _ rfl (HO.out.alloc _) ⟨wr.heap.size,0,none⟩ 1 1 [xf [44]] rfl rfl ?c1x7 ?c2x7 ?c3x7 ?c4x7 ?_);try(case c1x7=>exact cells_one (xq _ _ _ _ _))
       try(case c2x7=>first|rfl|(intro u hu;simp at hu;subst hu;rfl))
       try(case c3x7=>omega)
       try(case c4x7=>have:=hb.size;simp;omega)
       intro Qg w5 jc qt;have jw:Below w.heap.size w w5:=(hb.alloc hb.size _).grown qt (by have:=hb.size;simp;omega) (fun q hq=>(HO.out.lt q hq).1);obtain⟨a5,c5,rfl⟩:=xY jc;have G6:=z7 jc;clear jc qt;go_wp2;go_roundg n
       case measure=>omega
       case rel=>exact⟨acc++[[44]],_,rfl,by simpa using G6.out,jw,by first|(have:=Iw.out;simp at jq;omega)|(simp at jq ⊢;omega)|(simp at jq ⊢;exact jq),by first|(have:=Iw.out;simp at B4;simp only[zx,zg,zV];omega)|(simp at B4 ⊢;omega),by first|exact bu.out|simpa using bu.out⟩
     ·skip
      obtain⟨LP,RY⟩:=Xr (by simp) q2;rw[q2,RY] at P2;have F7:=Lib.hid P2;have jR:=HG.out;rw[jW,LP] at jR;have bu:=Lib.hid jR;have qz:((c::t).drop ([61]:List UInt8).length).length<=t.length:=by simp
      have Iw:=z7 qz;clear q2 LP RY jR qz P2 P3 P4;go_wp2_with fail;refine wp_loop_rounds 6 ?_;rw[rounds_succ];go_wp2_with fail;refine(mH.out _).mono ?_;rintro e wz0 ⟨rfl,rfl⟩;go_wp2_with fail;rw[rounds_succ];go_wp2_with fail;refine(Ki.out _).mono ?_;rintro e wz1 ⟨rfl,rfl⟩;go_wp2_with fail;rw[rounds_succ];go_wp2_with fail;refine(F7.out _).mono ?_;rintro e wz2 ⟨rfl,rfl⟩;go_wp2_with (at_builtin;refine qG ke rfl _ _ rfl w.heap.size _ _ _ rfl (HO.out.alloc _) ⟨wr.heap.size,0,none⟩ 1 1 [xf [61]] rfl rfl ?c1x8 ?c2x8 ?c3x8 ?c4x8 ?_);try(case c1x8=>exact cells_one (xq _ _ _ _ _))
      try(case c2x8=>first|rfl|(intro u hu;simp at hu;subst hu;rfl))
      try(case c3x8=>omega)
      try(case c4x8=>have:=hb.size;simp;omega)
      intro Qg w5 jc qt;have jw:Below w.heap.size w w5:=(hb.alloc hb.size _).grown qt (by have:=hb.size;simp;omega) (fun q hq=>(HO.out.lt q hq).1);obtain⟨a5,c5,rfl⟩:=xY jc;have G6:=z7 jc;clear jc qt;go_wp2;go_roundg n
      case measure=>omega
      case rel=>exact⟨acc++[[61]],_,rfl,by simpa using G6.out,jw,by first|(have:=Iw.out;simp at jq;omega)|(simp at jq ⊢;omega)|(simp at jq ⊢;exact jq),by first|(have:=Iw.out;simp at B4;simp only[zx,zg,zV];omega)|(simp at B4 ⊢;omega),by first|exact bu.out|simpa using bu.out⟩
    ·skip
     obtain⟨LP,RY⟩:=Xr (by simp) q1;rw[q1,RY] at P1;have Ki:=Lib.hid P1;have jR:=HG.out;rw[jW,LP] at jR;have bu:=Lib.hid jR;have qz:((c::t).drop ([46,46]:List UInt8).length).length<=t.length:=by simp
     have Iw:=z7 qz;clear q1 LP RY jR qz P1 P2 P3 P4;go_wp2_with fail;refine wp_loop_rounds 6 ?_;rw[rounds_succ];go_wp2_with fail;refine(mH.out _).mono ?_;rintro e wz0 ⟨rfl,rfl⟩;go_wp2_with fail;rw[rounds_succ];go_wp2_with fail;refine(Ki.out _).mono ?_;rintro e wz1 ⟨rfl,rfl⟩;go_wp2_with (at_builtin;refine qG ke rfl _ _ rfl w.heap.size _ _ _ rfl (HO.out.alloc _) ⟨wr.heap.size,0,none⟩ 1 1 [xf [46,46]] rfl rfl ?c1x9 ?c2x9 ?c3x9 ?c4x9 ?_);try(case c1x9=>exact cells_one (xq _ _ _ _ _))
     try(case c2x9=>first|rfl|(intro u hu;simp at hu;subst hu;rfl))
     try(case c3x9=>omega)
     try(case c4x9=>have:=hb.size;simp;omega)
     intro Qg w5 jc qt;have jw:Below w.heap.size w w5:=(hb.alloc hb.size _).grown qt (by have:=hb.size;simp;omega) (fun q hq=>(HO.out.lt q hq).1);obtain⟨a5,c5,rfl⟩:=xY jc;have G6:=z7 jc;clear jc qt;go_wp2;go_roundg n
     case measure=>omega
     case rel=>exact⟨acc++[[46,46]],_,rfl,by simpa using G6.out,jw,by first|(have:=Iw.out;simp at jq;omega)|(simp at jq ⊢;omega)|(simp at jq ⊢;exact jq),by first|(have:=Iw.out;simp at B4;simp only[zx,zg,zV];omega)|(simp at B4 ⊢;omega),by first|exact bu.out|simpa using bu.out⟩
   ·skip
    obtain⟨LP,RY⟩:=Xr (by simp) q0;rw[q0,RY] at P0;have mH:=Lib.hid P0;have jR:=HG.out;rw[jW,LP] at jR;have bu:=Lib.hid jR;have qz:((c::t).drop ([33,61]:List UInt8).length).length<=t.length:=by simp
    have Iw:=z7 qz;clear q0 LP RY jR qz P0 P1 P2 P3 P4;go_wp2_with fail;refine wp_loop_rounds 6 ?_;rw[rounds_succ];go_wp2_with fail;refine(mH.out _).mono ?_;rintro e wz0 ⟨rfl,rfl⟩;go_wp2_with (at_builtin;refine qG ke rfl _ _ rfl w.heap.size _ _ _ rfl (HO.out.alloc _) ⟨wr.heap.size,0,none⟩ 1 1 [xf [33,61]] rfl rfl ?c1x10 ?c2x10 ?c3x10 ?c4x10 ?_);try(case c1x10=>exact cells_one (xq _ _ _ _ _))
    try(case c2x10=>first|rfl|(intro u hu;simp at hu;subst hu;rfl))
    try(case c3x10=>omega)
    try(case c4x10=>have:=hb.size;simp;omega)
    intro Qg w5 jc qt;have jw:Below w.heap.size w w5:=(hb.alloc hb.size _).grown qt (by have:=hb.size;simp;omega) (fun q hq=>(HO.out.lt q hq).1);obtain⟨a5,c5,rfl⟩:=xY jc;have G6:=z7 jc;clear jc qt;go_wp2;go_roundg n
    case measure=>omega
    case rel=>exact⟨acc++[[33,61]],_,rfl,by simpa using G6.out,jw,by first|(have:=Iw.out;simp at jq;omega)|(simp at jq ⊢;omega)|(simp at jq ⊢;exact jq),by first|(have:=Iw.out;simp at B4;simp only[zx,zg,zV];omega)|(simp at B4 ⊢;omega),by first|exact bu.out|simpa using bu.out⟩
theorem LR(w:World):(Instr.typeAssert (.iface 278 (.agg #[])) 20 278 true).run prog w = .ok (.tuple #[.agg #[],.bool true]) w:=by kernel_rfl
theorem Ub(B:Nat)(w:World):CallsD prog 139 #[.pointer (some ⟨B,0,none⟩)] .returning w fun e u' w'=>e = .returned (.tuple #[])/\u' = .returning/\w'=w:=by
 refine callsD_of_wpS func139 rfl fun c₀ cs hu=>?_
 apply wpS_seq;apply wpS_region;simp[wpOpsS,go_sem,recoverD,hu,ntmps139,Exit.thenS];refine wpS_of_wp ?_;go_wp2
 cases c₀;simp_all [bodyPostS,results,results139]
theorem Fe(B:Nat)(u:Value)(uM:List PanicEntry)(w:World)(hc:w.cell? ⟨B,0,none⟩=some u)(hz:w.frozen? ⟨B,0,none⟩=false) :
  CallsD prog 139 #[.pointer (some ⟨B,0,none⟩)] (.panicking ({ v := .iface 278 (.agg #[]),recovered:=false }::uM)) w fun e u' w' =>
   e = .returned (.tuple #[])/\u' = .panicking ({ v := .iface 278 (.agg #[]),recovered:=true }::uM)/\w'=(w.setCell ⟨B,0,none⟩ .nilFunc).alloc (.cells #[] 278):=by
 have ha:=LR;refine callsD_of_wpS func139 rfl fun c₀ cs hu=>?_
 apply wpS_seq;apply wpS_region;simp[wpOpsS,go_sem,recoverD,hu,ntmps139,Exit.thenS];refine wpS_of_wp ?_;simp only[Array.replicate,List.replicate,List.setIfInBounds_toArray,List.set_cons_zero,List.set_cons_succ,List.append_toArray,List.cons_append,List.nil_append,Act.put];have xC:B<w.heap.size:=zf w _ hc;have pI:(w.alloc (.cells #[] 278)).cell? ⟨B,0,none⟩=some u:=(zX _ _ _ xC).trans hc;have hz':(w.alloc (.cells #[] 278)).frozen? ⟨B,0,none⟩=false:=(zG (zt _ _ _ xC)).trans hz;go_wp2;simp[bodyPostS,results,results139]
theorem rC{l:List UInt8}{g:Wd}(h:GI l=some g):EZ g/\0<g.length:=by
 unfold GI at h;split at h<;>cases h
 all_goals exact⟨⟨by simp,by simp,.inr (by decide)⟩,by simp⟩
theorem l8{p:UInt8->Bool}:∀ {t:List UInt8} {d:UInt8},d∈t.takeWhile p->p d=true
 | [],_,h=>by cases h
 | c::t,d,h=>by
  by_cases hc:p c=true
  ·rw[zc hc] at h;rcases zm.1 h with q|q
   ·rw[q];exact hc
   ·exact l8 q
  ·rw[ze hc] at h;cases h
theorem Fi{c:UInt8}{t:List UInt8}(h:xI c=2\/xI c=3):EZ (c::t.takeWhile (fun d=>xI d==xI c))\/1000<(c::t.takeWhile (fun d=>xI d==xI c)).length:=by
 by_cases hl:(c::t.takeWhile (fun d=>xI d==xI c)).length<=1000
 ·left;refine⟨by simp,hl,?_⟩;rcases h with h|h
  ·left;rw[List.all_cons,(Yj c).1 h,Bool.true_and,List.all_eq_true];intro d hd;have:=l8 hd;rw[h,beq_iff_eq] at this;exact(Yj d).1 this
  ·right;have:¬xQ c=true:=fun e=>by have:=(Yj c).2 e;omega
   simpa using this
 ·right;omega
theorem DT(p:UInt8->Bool)(t:List UInt8):(t.takeWhile p).length+(t.dropWhile p).length=t.length:=by
 have:=congrArg List.length (List.takeWhile_append_dropWhile (p:=p) (l:=t));rw[zx] at this;exact this
theorem Fl:∀ (n:Nat) (acc:List Wd) (l:List UInt8) (ws:List Wd),jW n acc l=some ws->l.length<=999->(∀ x∈acc,EZ x)->(∀ x∈ws,EZ x)/\ws.length<=acc.length+l.length
 | n,acc,[],ws,h,_,ha=>by
  rw[jW] at h
  cases h;exact⟨ha,by simp⟩
 | 0,acc,c::t,ws,h,_,_=>by
  rw[jW] at h
  cases h;all_goals (intro hh;cases hh)
 | n+1,acc,c::t,ws,h,hl,ha=>by
  rw[jW] at h;simp only[zg] at hl
  cases hs:GI (c::t) with
  | some g =>
   rw[hs] at h;dsimp only at h;obtain⟨hg,WH⟩:=rC hs;have ih:=Fl n (acc++[g]) ((c::t).drop g.length) ws h (by simp;omega) (fun x hx=>by
    rcases zh.1 hx with q|q
    ·exact ha x q
    ·simp at q;subst q;exact hg)
   refine⟨ih.1,?_⟩;have:=ih.2;simp at this ⊢;omega
  | none =>
   rw[hs] at h;dsimp only at h;by_cases h0:xI c=0
   ·rw[if_pos h0] at h;cases h
   ·rw[if_neg h0] at h;have hk:=LN c;have hlen:=DT (fun d=>xI d==xI c) t;have ih:=Fl n _ (t.dropWhile (fun d=>xI d==xI c)) ws h (by omega) (fun x hx=>by
     by_cases h1:xI c=1
     ·rw[if_pos h1] at hx;exact ha x hx
     ·rw[if_neg h1] at hx;rcases zh.1 hx with q|q
      ·exact ha x q
      ·simp only[zm,List.not_mem_nil,or_false] at q;subst q;rcases Fi (t:=t) (c:=c) (by omega) with w|w
       ·exact w
       ·simp only[zg] at w;omega)
    refine⟨ih.1,?_⟩;have h2:=ih.2;by_cases h1:xI c=1
    ·rw[if_pos h1] at h2;simp;omega
    ·rw[if_neg h1] at h2;simp at h2 ⊢;omega
theorem rE{l:List UInt8}{ws:List Wd}(h:ND l=some ws)(hl:l.length<=200):(∀ x∈ws,EZ x)/\ws.length<=200:=by
 unfold ND at h;have:=Fl _ _ _ _ h (by simp;omega) (fun x hx=>by cases hx);refine⟨this.1,?_⟩;have h2:=this.2;simp at h2;omega
theorem l9:zg0 (.func (.func 142) #[] #[]) bp :=
 ⟨_,rfl,fun args w=>enters_of func142 (by kernel_rfl) rfl args w,fun Ts a c lo W h1 h2 h3=>Lb Ts a c lo W h1 h2 h3⟩
theorem rH:zg0 (.func (.func 144) #[] #[]) allT :=
 ⟨_,rfl,fun args w=>enters_of func144 (by kernel_rfl) rfl args w,fun Ts a c lo W h1 h2 h3=>rX Ts a c lo W h1 h2 h3⟩
theorem rL(p:Nat)(w:World)(hT:RT p w):zjb p w (.func (.func 145) #[.pointer (some ⟨p,0,none⟩)] #[]) gz :=
 ⟨_,_,_,rfl,fun args w=>enters_of func145 (by kernel_rfl) rfl args w,fun W ws hb hp hx hl=>EJ p ws W hp hx (hT.but hb) hl⟩
theorem lz{of:Dg->Dg}{t u:List Wd}{F:Dg->Dg}(h:Y6 of t=some (F,u)):Sub u t:=by
 unfold Y6 at h;by_cases hm:Ig (t.headD [])=true
 ·rw[if_pos hm] at h
  cases hn:kR t.tail with
  | none=>rw[hn] at h;cases h
  | some q =>
   obtain⟨m,v⟩:=q;rw[hn] at h;dsimp only at h;by_cases h0:m=0
   ·rw[if_pos h0] at h;cases h
   ·rw[if_neg h0] at h;cases h;exact(Yg hn).trans (Sub.tail t)
 ·rw[if_neg hm] at h;cases h;exact Sub.refl _
theorem bI{wi nt:Bool}{ws t:List Wd}{i:qe×Bool}(h:((jE wi ws).map fun q=>((q.1,nt),q.2))=some (i,t)):Sub t ws:=by
 cases hl:jE wi ws with
 | none=>rw[hl] at h;cases h
 | some q =>
  obtain⟨T,u⟩:=q;rw[hl] at h
  cases h;exact Te hl
theorem BA{nt:Bool}{ws t:List Wd}{i:qe×Bool}(h:((kR ws).map fun q=>((gQ q.1 q.1 false,nt),q.2))=some (i,t)):Sub t ws:=by
 cases hl:kR ws with
 | none=>rw[hl] at h;cases h
 | some q =>
  obtain⟨T,u⟩:=q;rw[hl] at h
  cases h;exact Yg hl
theorem LS{ws t:List Wd}{i:qe×Bool}(h:u7 ws=some (i,t)):Sub t ws:=by
 have s1:=Sub.tail ws;have s2:=(Sub.tail ws.tail).trans s1;unfold u7 at h;split at h
 ·exact(bI h).trans s1
 split at h
 ·exact(bI h).trans s1
 split at h
 ·split at h
  ·exact(BA h).trans s2
  ·exact(BA h).trans s1
 ·dsimp only at h;split at h
  ·split at h
   ·exact(bI h).trans s2
   ·split at h
    ·exact(bI h).trans s2
    ·cases h
  ·split at h
   ·exact(bI h).trans s1
   ·split at h
    ·exact(bI h).trans s1
    ·cases h
theorem LW{ws t:List Wd}{T:qe}(h:gz ws=some (T,t)):Sub t ws:=by
 cases ws with
 | nil=>cases h
 | cons w u =>
  rw[gz] at h
  cases ho:uD w with
  | none=>rw[ho] at h;cases h
  | some of =>
   rw[ho] at h;dsimp only at h
   cases hm:Y6 of u with
   | none=>rw[hm] at h;cases h
   | some q =>
    obtain⟨F,v⟩:=q;rw[hm] at h;dsimp only at h
    cases hn:u7 v with
    | none=>rw[hn] at h;cases h
    | some q2 =>
     obtain⟨⟨i,nt⟩,x⟩:=q2;rw[hn] at h
     cases h;exact((LS hn).trans (lz hm)).trans ⟨fun y hy=>by simp[hy],by simp⟩
theorem Fm{word:Wd}{P:Parser}(hs:∀ us T t,P us=some (T,t)->Sub t us):∀ {n:Nat} {acc ts:List qe} {ws t:List Wd},fH word P n acc ws=some (ts,t)->Sub t ws
 | 0,_,_,_,_,h=>by cases h
 | n+1,acc,ts,ws,t,h=>by
  rw[fH] at h
  cases hi:P ws with
  | none=>rw[hi] at h;cases h
  | some r =>
   obtain⟨T,u⟩:=r;rw[hi] at h;dsimp only at h;by_cases hc:Y5 word u=true
   ·rw[if_pos hc] at h;exact((Fm hs h).trans (Sub.tail u)).trans (hs _ _ _ hi)
   ·rw[if_neg hc] at h
    cases h;exact hs _ _ _ hi
theorem ly{ws t:List Wd}{T:qe}(h:If ws=some (T,t)):Sub t ws:=by
 unfold If CL at h
 cases hg:fH [97,110,100] gz (ws.length+1) [] ws with
 | none=>rw[hg] at h;cases h
 | some r =>
  obtain⟨ts,u⟩:=r;rw[hg] at h
  cases h;exact Fm (fun us T t h=>LW h) hg
theorem Tr(p pv:Nat)(ws:List Wd)(w:World)(hp:gH w p ws)(hx:∀ x∈ws,EZ x)(hT:RT p w)(hl:ws.length<=1000)(hc:w.cell? ⟨pv,0,none⟩=some (.pointer (some ⟨p,0,none⟩))) :
  Calls prog 143 #[.pointer (some ⟨pv,0,none⟩)] w (Yi p (If ws) w):=by
 have RS:∀ (fn:Fn) (first cap:Array Value) (w:World),(za fn first cap).run prog w = .ok (.func fn first cap) w:=fun _ _ _ _=>rfl
 have hr:=RZ p [97,110,100] allT gz _ _ ws w hp hx hl rH (rL p w hT) (fun us T t h=>LW h);have HR:=z7 hr;clear hr hp hx hT;go_enter func143,ntmps143;go_wp2_with fail;refine HR.out.mono ?_;rintro e w1 ⟨hq,hb⟩;have EP:If ws=CL [97,110,100] allT gz ws:=rfl
 cases hn:CL [97,110,100] allT gz ws with
 | none =>
  rw[hn] at hq;obtain rfl:=hq;have HN:=z7 (EP.trans hn);clear hn EP;go_wp2;refine⟨rfl,?_,hb⟩;rw[HN.out]
 | some q =>
  obtain⟨T,t⟩:=q;rw[hn] at hq;obtain⟨⟨v,rfl,ht⟩,hp⟩:=hq;have HN:=z7 (EP.trans hn);have FM:=z7 ht;have Ky:=z7 hp;clear hn ht hp EP;go_wp2;go_ret;refine⟨?_,hb⟩;rw[HN.out];exact⟨⟨_,rfl,FM.out⟩,Ky.out⟩
structure Tt(w:World):Prop where
 s:∃ t v,w.cell? ⟨7,0,none⟩=some (.iface t v)
 r:∃ t v,w.cell? ⟨8,0,none⟩=some (.iface t v)
theorem Tt.below{w w':World}(h:Tt w)(hb:Below w.heap.size w w'):Tt w':=by
 obtain⟨⟨t,v,hs⟩,⟨t2,v2,hr⟩⟩:=h;exact⟨⟨t,v,(hb.cell (zf w _ hs)).trans hs⟩,⟨t2,v2,(hb.cell (zf w _ hr)).trans hr⟩⟩
theorem Tt.at{w w':World}{p:Nat}(h:Tt w)(hb:Below w.heap.size w w')(hp:w.heap.size<=p):RT p w':=by
 have h2:=h.below hb;obtain⟨⟨t,v,hs⟩,⟨t2,v2,hr⟩⟩:=h;have l1:=zf w _ hs;have l2:=zf w _ hr;dsimp only at l1 l2;exact⟨h2.s,h2.r,by omega,by omega⟩
def zr2(r:Option qe)(w:World)(e:Ending)(w':World):Prop :=
 (match r with|none=>e = .returned .nilFunc|some T=>∃ v,e = .returned v/\kK w.heap.size w'.heap.size w' v T)/\Below w.heap.size w w'
theorem LA{w:World}{base:Nat}{v:Value}{ws:List Wd}(h:w.ownsRow base 9 1 v ws.length (ws.map xf))(o:Obj):gH ((w.alloc (.cells #[v] 283)).alloc o) w.heap.size ws:=by
 have hb:Below w.heap.size w ((w.alloc (.cells #[v] 283)).alloc o):=((zy _ _).alloc (z8 _) _).alloc (by simp) _;have Dz:w.heap.size<(w.alloc (.cells #[v] 283)).heap.size:=by simp
 have hc:((w.alloc (.cells #[v] 283)).alloc o).cell? ⟨w.heap.size,0,none⟩=some v:=by
  rw[zX _ _ _ Dz];exact xq _ _ _ _ _
 have hz:((w.alloc (.cells #[v] 283)).alloc o).frozen? ⟨w.heap.size,0,none⟩=false:=by
  rw[zG (zt _ _ _ Dz)];simp
 have hlen:ws.length=ws.length:=rfl;rcases h.2 with⟨hv,h0⟩|⟨g,cap,cur,hv,hg,hh,h1,h2,h3,ht⟩
 ·subst hv;have hw:ws=[]:=zW h0;subst hw;exact⟨none,0,hc,hz,z8 _,zD _,fun j hj=>absurd hj (Nat.not_lt_zero j)⟩
 ·subst hv;have hgl:g<w.heap.size:=by
   rcases Nat.lt_or_ge g w.heap.size with q|q
   ·exact q
   ·rw[Array.getElem?_eq_none (by omega)] at hh;cases hh
  refine⟨some ⟨g,0,none⟩,cap,hc,hz,h1,h2,fun j hj=>⟨_,rfl,⟨by show g≠w.heap.size;omega,cur,(0,0),(hb.block g hgl).trans hh⟩,?_⟩⟩;rw[ua,hb.cell (p:=⟨g,j,none⟩) hgl,h.cellAt j (by omega)];simp[hj]
theorem lx(p pv:Nat)(w:World)(hT:RT p w)(hc:xm w pv (.pointer (some ⟨p,0,none⟩)))(xw:pv≠p):zjb p w (.func (.func 143) #[] #[.pointer (some ⟨pv,0,none⟩)]) If :=
 ⟨_,_,_,rfl,fun args w=>enters_of func143 (by kernel_rfl) rfl args w,fun W ws hb hp hx hl=>Tr p pv ws W hp hx (hT.but hb) hl (hc.but hb xw).c⟩
theorem DW(s:ByteArray)(w:World)(hs:s.size<=9223372036854775807)(hT:Tt w):Calls prog 97 #[.string s] w (zr2 (Bz s.data.toList) w):=by
 have RS:∀ (fn:Fn) (first cap:Array Value) (w:World),(za fn first cap).run prog w = .ok (.func fn first cap) w:=fun _ _ _ _=>rfl
 obtain⟨r,hr⟩:∃ r,Bz s.data.toList=r:=⟨_,rfl⟩;rw[hr];unfold Bz at hr;rw[xN] at hr;by_cases zr3:200<s.size
 ·rw[if_pos zr3] at hr;subst hr;have h1:decide ((200:Int)<(s.size:Int))=true:=by simp;omega
  go_enter_defers func97,ntmps97
  go_wp2;refine leaves_cons (f:=139) (args:=#[.pointer (some ⟨w.heap.size,0,none⟩)]) (by simp) (by simp[go_sem]) ?_;refine(Ub w.heap.size _).mono ?_;rintro e u' KH ⟨rfl,rfl,rfl⟩;simp[Leaves,settle,results,results97,go_sem];exact⟨rfl,(zy _ _).alloc (z8 _) _⟩
 ·rw[if_neg zr3] at hr;have h1:decide ((200:Int)<(s.size:Int))=false:=by simp;omega
  have EC:=fun W=>OM s W (by omega)
  have HTK:=z7 EC;have HR:=z7 hr;have HT:=z7 hT;clear EC hr hT;go_enter_defers func97,ntmps97
  go_wp2_with fail;have F1:∃ W,W=w.alloc (.cells #[.nilFunc] 214)/\Below w.heap.size w W/\xm W w.heap.size .nilFunc/\W.heap.size=w.heap.size+1:=⟨_,rfl,(zy _ _).alloc (z8 _) _,xm.made _ _ _ (by decide),by simp⟩;obtain⟨W,hW,gP,cB,TV⟩:=F1;rw[←hW];clear hW;refine(HTK.out W).mono ?_;rintro e w2 ⟨hq,xB⟩;have qf:Below w.heap.size w w2:=gP.trans (xB.mono gP.size);have cB2:xm w2 w.heap.size .nilFunc:=cB.but (p:=w2.heap.size) (xl.of xB) (by have:=cB.lt;have:=xB.size;omega)
  cases hn:ND s.data.toList with
  | none =>
   rw[hn] at hq;obtain rfl:=hq;have vZ:r=none:=by rw[←HR.out,hn]
   have gJ:=z7 vZ;clear hn vZ;refine leaves_cons (f:=139) (args:=#[.pointer (some ⟨w.heap.size,0,none⟩)]) (by simp) (by simp[go_sem]) ?_;refine(Fe w.heap.size _ [] _ cB2.c cB2.z).mono ?_;rintro e u' KH ⟨rfl,rfl,rfl⟩;have vU:((w2.setCell ⟨w.heap.size,0,none⟩ .nilFunc).alloc (.cells #[] 278)).cell? ⟨w.heap.size,0,none⟩=some .nilFunc:=by
    rw[zX _ _ _ (by simpa[zY] using cB2.lt),zN (h:=cB2.c)]
   simp[Leaves,settle,results,results97,go_sem,vU];refine⟨?_,(qf.setCell (z8 _) _).alloc (by simpa[zY] using qf.size) _⟩;rw[gJ.out]
  | some ws =>
   rw[hn] at hq;obtain⟨v,rfl,xJ⟩:=hq;obtain⟨PD,hlen⟩:=rE hn (by rw[xN];omega);have HN:=z7 hn;obtain⟨a,cap,rfl⟩:=xY xJ;have F3:∃ W3,W3=(w2.alloc (.cells #[.slice a ws.length cap] 283)).alloc (.cells #[.pointer (some ⟨w2.heap.size,0,none⟩)] 280)/\Below w2.heap.size w2 W3/\gH W3 w2.heap.size ws/\xm W3 (w2.heap.size+1) (.pointer (some ⟨w2.heap.size,0,none⟩))/\W3.heap.size=w2.heap.size+2:=by
    refine⟨_,rfl,((zy _ _).alloc (z8 _) _).alloc (by simp) _,LA xJ _,?_,by simp⟩;have hs:(w2.alloc (.cells #[.slice a ws.length cap] 283)).heap.size=w2.heap.size+1:=by simp
    rw[←hs];exact xm.made _ _ _ (by decide)
   obtain⟨W3,kJ,uP,ET,cP3,M6⟩:=F3;have zb5:=cB2.lt;have cB3:xm W3 w.heap.size .nilFunc:=cB2.but (p:=W3.heap.size) (xl.of uP) (by omega);have Z7:Below w.heap.size w W3:=qf.trans (uP.mono qf.size);have Wb:RT w2.heap.size W3:=HT.out.at Z7 qf.size;have vL:=RZ w2.heap.size [111,114] bp If _ _ ws W3 ET PD (by omega) l9 (lx w2.heap.size (w2.heap.size+1) W3 Wb cP3 (by omega)) (fun us T t h=>ly h);have qB:=z7 vL;have VC:=z7 M6;have iH:=z7 ET;clear hn xJ vL Wb M6 ET PD;go_wp2_with fail;rw[←kJ];clear kJ;refine qB.out.mono ?_;rintro e w4 ⟨hq,uQ⟩;have hPB:w.heap.size≠w2.heap.size:=by omega
   have rM:=cB3.but uQ hPB;have cP4:=cP3.but uQ (by omega);have j5:Below w.heap.size w w4:=Z7.trans (uQ.low (by omega) Z7.size)
   cases hn:CL [111,114] bp If ws with
   | none =>
    rw[hn] at hq;obtain rfl:=hq;have vZ:r=none:=by rw[←HR.out,HN.out];show(match pOr ws with|some (T,[])=>some T|_=>none)=none;unfold pOr;rw[hn]
    have gJ:=z7 vZ;clear hn vZ;refine leaves_cons (f:=139) (args:=#[.pointer (some ⟨w.heap.size,0,none⟩)]) (by simp) (by simp[go_sem]) ?_;refine(Fe w.heap.size _ [] _ rM.c rM.z).mono ?_;rintro e u' KH ⟨rfl,rfl,rfl⟩;have vU:((w4.setCell ⟨w.heap.size,0,none⟩ .nilFunc).alloc (.cells #[] 278)).cell? ⟨w.heap.size,0,none⟩=some .nilFunc:=by
     rw[zX _ _ _ (by simpa[zY] using rM.lt),zN (h:=rM.c)]
    simp[Leaves,settle,results,results97,go_sem,vU];refine⟨?_,(j5.setCell (z8 _) _).alloc (by simpa[zY] using j5.size) _⟩;rw[gJ.out]
   | some q =>
    obtain⟨T,t⟩:=q;rw[hn] at hq;obtain⟨⟨v,rfl,ht⟩,JA⟩:=hq;have hpo:pOr ws=some (T,t):=hn;have HPO:=z7 hpo;have FM:=z7 ht;have xgv:=JA.lt;obtain⟨kf,bX,rfl,_⟩:=ht;obtain⟨a4,c4,e1,e2,e3,e4,e5⟩:=JA;have yB:=rM.c;have yBz:=rM.z;have yP:=cP4.c;have hBt:w.heap.size<w4.heap.size:=rM.lt;clear hn hpo e5
    cases t with
    | nil =>
     have vZ:r=some T:=by
      rw[←HR.out,HN.out];show(match pOr ws with|some (T,[])=>some T|_=>none)=_;rw[HPO.out]
     have gJ:=Lib.hid vZ;clear vZ;go_wp2;refine leaves_cons (f:=139) (args:=#[.pointer (some ⟨w.heap.size,0,none⟩)]) (by simp) (by simp[go_sem]) ?_;refine(Ub w.heap.size _).mono ?_;rintro e u' KH ⟨rfl,rfl,rfl⟩;have cF:=(rM.same (.func (.func kf) #[] bX)).same (.func (.func kf) #[] bX);have hbF:Below w.heap.size w ((w4.setCell ⟨w.heap.size,0,none⟩ (.func (.func kf) #[] bX)).setCell ⟨w.heap.size,0,none⟩ (.func (.func kf) #[] bX)):=(j5.setCell (Nat.le_refl _) _).setCell (Nat.le_refl _) _;have vU:=cF.c;simp[Leaves,settle,results,results97,go_sem,vU];refine⟨?_,hbF⟩;rw[gJ.out];have qs:((w4.setCell ⟨w.heap.size,0,none⟩ (.func (.func kf) #[] bX)).setCell ⟨w.heap.size,0,none⟩ (.func (.func kf) #[] bX)).heap.size=w4.heap.size:=by simp[World.setCell]
     exact⟨_,rfl,FM.out.keep ⟨by rw[qs];exact z8 _,fun k k1 k2=>by
      have hk:k≠w.heap.size:=by have:=VC.out;omega
      rw[zU _ _ _ _ hk,zU _ _ _ _ hk]⟩ (by have:=VC.out;omega) (by rw[qs];exact z8 _)⟩
    | cons x t' =>
     have vZ:r=none:=by
      rw[←HR.out,HN.out];show(match pOr ws with|some (T,[])=>some T|_=>none)=_;rw[HPO.out]
     have gJ:=z7 vZ;clear vZ;go_wp2;refine leaves_cons (f:=139) (args:=#[.pointer (some ⟨w.heap.size,0,none⟩)]) (by simp) (by simp[go_sem]) ?_;refine(Ub w.heap.size _).mono ?_;rintro e u' KH ⟨rfl,rfl,rfl⟩;have cF:=(rM.same (.func (.func kf) #[] bX)).same .nilFunc;have hbF:Below w.heap.size w ((w4.setCell ⟨w.heap.size,0,none⟩ (.func (.func kf) #[] bX)).setCell ⟨w.heap.size,0,none⟩ .nilFunc):=(j5.setCell (z8 _) _).setCell (z8 _) _;have vU:=cF.c;simp[Leaves,settle,results,results97,go_sem,vU];refine⟨?_,hbF⟩;rw[gJ.out]
def EF(lo hi:Nat)(w:World)(a:Option Addr)(S:List (Nat×qe)):Prop :=
 ∀ j (h:j<S.length),∃ g o v,a=some ⟨g,o,none⟩/\w.cell? ⟨g,o+j*2,none⟩=some (.int .i64 S[j].1)/\w.cell? ⟨g,o+j*2+1,none⟩=some v/\lo<=g/\g<hi/\kK lo hi w v S[j].2
theorem EF.keep{lo hi lo' hi':Nat}{w w':World}{a:Option Addr}{S:List (Nat×qe)}(h:EF lo hi w a S)(hk:vK lo hi w w')(h1:lo'<=lo)(h2:hi<=hi'):EF lo' hi' w' a S:=fun j hj=>by
 obtain⟨g,o,v,e1,e2,e3,e4,e5,e6⟩:=h j hj;exact⟨g,o,v,e1,(hk.cell (p:=⟨g,_,none⟩) e4 e5).trans e2,(hk.cell (p:=⟨g,_,none⟩) e4 e5).trans e3,by omega,by omega,e6.keep hk h1 h2⟩
def rN(S:List (Nat×qe))(x:Dg):Nat:=match S.find? (fun q=>q.2 x) with|some q=>q.1|none=>5
theorem RX(S:List (Nat×qe))(a:Option Addr)(c:Nat)(nv:Value)(x:Dg)(lo hi:Nat)(w:World)(hl:S.length<=1000000)(ht:EF lo hi w a S)(YI:hi<=w.heap.size)(hn:uh w nv x) :
  Calls prog 60 #[.slice a S.length c,nv] w fun e w'=>e = .returned (.int .i64 (rN S x))/\Below w.heap.size w w':=by
 have HN:=z7 hn;obtain⟨b',g,go,cap,n',k',rfl⟩:=hn.form;have F:∃ W,W=w.alloc (.cells #[.bool b',.slice (some ⟨g,go,none⟩) n' cap,.int .i64 k'] 97)/\Below w.heap.size w W/\W.heap.size=w.heap.size+1/\Ef W w.heap.size (.agg #[.bool b',.slice (some ⟨g,go,none⟩) n' cap,.int .i64 k']) :=
  ⟨_,rfl,(zy _ _).alloc (z8 _) _,by simp,⟨by simp,_,_,_,rfl,by go_simp,by go_simp,by go_simp⟩⟩
 obtain⟨W,hW,gP,hs,ig⟩:=F;have HT:=z7 (ht.keep (vB gP YI YI) (z8 _) (z8 _));have Pt:=z7 (HN.out.below gP);have LZ:hi<=W.heap.size:=by omega
 clear ht hn;go_enter func60,ntmps60;go_wp2_with fail;rw[←hW];clear hW;obtain⟨B,hB⟩:∃ B,B=w.heap.size:=⟨_,rfl⟩;rw[←hB] at ig ⊢;have NV:=z7 hB;clear hB;go_loopw [9] (fun i wr=>∃ k:Nat,k<=S.length/\i = .int .i64 k/\(S.take k).find? (fun q=>q.2 x)=none/\Below W.heap.size W wr) (fun i _=>S.length - (intOf i).toNat)
 case atStart=>exact⟨0,zD _,rfl,rfl,zy _ _⟩
 case round =>
  obtain⟨k,hk,rfl,hz,qI⟩:=hrel;have HZ:=z7 hz;clear hz;have OD:Below w.heap.size w wr:=gP.trans (qI.mono (by omega));by_cases xC:k<S.length
  ·obtain⟨ga,o,v,rfl,qD,jJ,h1,h2,hT⟩:=HT.out k xC;have hgW:ga<W.heap.size:=by omega
   have U4:=(qI.cell (p:=⟨ga,o+k*2,none⟩) hgW).trans qD;have zq8:=(qI.cell (p:=⟨ga,o+k*2+1,none⟩) hgW).trans jJ;have hkp:=vB (lo:=lo) qI LZ LZ;have hTr:=hT.keep hkp (z8 _) (z8 _);have HTR:=z7 hTr;obtain⟨K,cp,rfl,C5,vE⟩:=hTr;have ZE:Below wr.heap.size wr (wr.alloc (.cells #[.int .i64 S[k].1,.func (.func K) #[] cp] 216)):=(zy _ _).alloc (z8 _) _;have ZG:=vE (wr.alloc (.cells #[.int .i64 S[k].1,.func (.func K) #[] cp] 216)) (vB ZE (zn LZ qI.size) (zn LZ qI.size)) _ x ((Pt.out.below qI).below ZE);have HC:=z7 ZG;obtain⟨hBl,bb,ss,kk,e0,c0,c1,c2⟩:=ig.below qI
   cases e0;have d0:∀ o,(wr.alloc o).cell? ⟨B,0,none⟩=_:=fun o=>(zX _ _ _ hBl).trans c0
   have d1:∀ o,(wr.alloc o).cell? ⟨B,1,none⟩=_:=fun o=>(zX _ _ _ hBl).trans c1
   have d2:∀ o,(wr.alloc o).cell? ⟨B,2,none⟩=_:=fun o=>(zX _ _ _ hBl).trans c2
   have zr4:=qI.trans (ZE.mono qI.size);have wL:=OD.trans (ZE.mono OD.size);have Ny:wr.heap.size<(wr.alloc (.cells #[.int .i64 S[k].1,.func (.func K) #[] cp] 216)).heap.size:=by simp
   have a0:(wr.alloc (.cells #[.int .i64 S[k].1,.func (.func K) #[] cp] 216)).cell? ⟨wr.heap.size,0,none⟩=some (.int .i64 S[k].1):=xq _ _ _ _ _;clear qD jJ hT vE ZG;go_wp2_with fail;refine HC.out.mono ?_;rintro e w1 ⟨rfl,xH⟩;have Zj:=zr4.trans (xH.mono zr4.size);have JG:Below w.heap.size w w1:=wL.trans (xH.mono wL.size);have a1:=(xH.cell (p:=⟨wr.heap.size,0,none⟩) Ny).trans a0
   cases Rb:S[k].2 x
   ·have VO:(S.take (k+1)).find? (fun q=>q.2 x)=none:=by
     rw[zZ xC,zr,HZ.out];simp[Rb]
    have HF:=z7 VO;clear Rb VO;go_wp2;go_roundw
    case rel=>exact⟨k+1,by omega,by go_num,HF.out,Zj⟩
    case measure=>simp[intOf];omega
   ·have hf:rN S x=S[k].1:=by
     have h1:S.find? (fun q=>q.2 x)=some S[k]:=by
      have sK:S=S.take k++S[k]::S.drop (k+1):=by rw[←List.drop_eq_getElem_cons xC,List.take_append_drop]
      have h2:=congrArg (List.find? (fun q=>q.2 x)) sK;rw[zr,HZ.out,Option.none_or,List.find?_cons_of_pos (p:=fun q:Nat×qe=>q.2 x) Rb] at h2;exact h2
     unfold rN;rw[h1]
    have HF:=z7 hf;clear Rb hf;go_wp2;go_ret;exact⟨by rw[HF.out];rfl,JG⟩
  ·obtain rfl:k=S.length:=by omega
   have hz:=HZ.out;rw[List.take_length] at hz;have hf:rN S x=5:=by unfold rN;rw[hz]
   have HF:=z7 hf;clear hz HZ hf;go_wp2;go_ret;exact⟨by rw[HF.out];rfl,OD⟩
def zr5(mi po gr:Int)(fi ne:Nat)(ds:List Int)(Sc So:List (Nat×qe)):qq Unit :=
 ⟨fun n=>Z5 n.1 (xW (n.2.1++n.2.2)) n.2.2.length mi po gr fi ne ds,fun b d=>rN (if b then So else Sc) d,fun _ u=>(.no,u)⟩
theorem zg5{w:World}{g:Nat}{mi po gr:Int}{fi ne:Nat}{ds:List Int}{Sc So:List (Nat×qe)}{a a':Option Addr}{c c' lo hi:Nat}(hX:CW w g mi po gr fi ne ds)(hg:g<w.heap.size)(h32:WE mi/\WE po/\WE gr/\∀ x∈ds,WE x)(Mf:fi<=255)(xw:0<fi->0<ne)(px:ne<=255)
  (g0:w.cell? ⟨g,0,none⟩=some (.slice a Sc.length c)) (g1:w.cell? ⟨g,1,none⟩=some (.slice a' So.length c')) (hl:Sc.length<=1000000/\So.length<=1000000) (hc:EF lo hi w a Sc) (ho:EF lo hi w a' So) (YI:hi<=w.heap.size)
  (hwl:∀ n:vv,Io n.2->(Z5 n.1 (xW (n.2.1++n.2.2)) n.2.2.length mi po gr fi ne ds).length<=5000) (hsr:∀ b d,rN (if b=true then So else Sc) d<6):zj1 w g (zr5 mi po gr fi ne ds Sc So):=by
 refine⟨fun W nv n hf hn=>?_,hwl,⟨_,_,fun W hf=>⟨hf.cell g0 id,hf.cell g1 id⟩,fun W nv d hf hn=>?_,fun W nv d hf hn=>?_⟩,hsr⟩
 ·obtain⟨gd,o,cap,rfl,h2,h3,-,⟨c0,h4⟩,h5,h6⟩:=hn;have qs:=hf.size;refine Bg g gd o cap n.2.2.length _ n.1 (xW (n.2.1++n.2.2)) mi po gr fi ne ds W (hX.below (Uf hf) hg) (by omega) h5 (zf _ _ h4) (by simp[xW]) (by omega) h2 ?_ ?_ h32 Mf xw px
  ·have:=h6.F9;have:=h6.JY;omega
  ·exact Tj (by rw[zL,h6.ej,h6.Tv];rfl)
 ·have qs:=hf.size;have h:=RX Sc a c nv d lo hi W hl.1 (hc.keep (vB (Uf hf) YI YI) (z8 _) (z8 _)) (by omega) hn;exact h
 ·have qs:=hf.size;have h:=RX So a' c' nv d lo hi W hl.2 (ho.keep (vB (Uf hf) YI YI) (z8 _) (z8 _)) (by omega) hn;exact h
theorem Xt(r:Int):(zM r).length<=4:=by
 unfold zM;rw[List.length_map];unfold Lib.encodeRuneZ;repeat' split
 all_goals simp
theorem Fp{f:Nat->List UInt8}{c:Nat}(h:∀ i,(f i).length<=c):∀ k,((List.range k).flatMap f).length<=k*c
 | 0=>by simp
 | k+1=>by
  have:=Fp h k;have h2:=h k;simp only[List.range_succ,List.flatMap_append,zx,List.flatMap_singleton,Nat.succ_mul];omega
theorem La(ds l:List Int)(k:Nat):(X7 ds l k).length<=4:=by
 unfold X7;first|exact Xt _|(split<;>first|exact Xt _|simp)
theorem OO(neg:Bool)(l:List Int)(sc:Nat)(mi po gr:Int)(fi ne:Nat)(ds:List Int)(h:l.length<=200)(hs:sc<=200):(Z5 neg l sc mi po gr fi ne ds).length<=5000:=by
 unfold Z5;have h1:(if neg=true then zM mi else []).length<=4:=by split;exact Xt _;simp
 have h2:(gi gr fi ne ds (l.take (l.length - sc)) (l.length - sc)).length<=(l.length - sc)*8:=by
  unfold gi;refine Fp (fun i=>?_) _;have:=La ds (l.take (l.length - sc)) i;rw[zx];have h3:(if (decide (0<i) && fK gr fi ne ((l.take (l.length - sc)).length - i))=true then zM gr else []).length<=4:=by split;exact Xt _;simp
  omega
 have h3:(qQ po ds (l.drop (l.length - sc)) sc).length<=sc*8:=by
  unfold qQ;refine Fp (fun i=>?_) _;have:=La ds (l.drop (l.length - sc)) i;rw[zx];have h3:(if (i==0)=true then zM po else []).length<=4:=by split;exact Xt _;simp
  omega
 rw[zx,zx];omega
def Fo.hs:Bool->Fo->Prop
 | _,.nil=>True
 | b,.text _ r=>r.hs b
 | b,.hash r=>b=true/\r.hs b
 | b,.put _ _ r=>r.hs b
 | b,.num _ _ r=>r.hs b
 | b,.br _ _ f _ _ bs r=>bs.hs (decide (f≠0))/\r.hs b
 | b,.uq _ _ m r=>m.hs b/\r.hs b
def Fo.tb:Fo->Nat
 | .nil=>0
 | .text t r=>t.length+r.tb
 | .hash r=>r.tb
 | .put _ _ r=>r.tb
 | .num _ _ r=>r.tb
 | .br _ _ _ _ _ bs r=>bs.tb+r.tb
 | .uq _ _ m r=>m.tb+r.tb
theorem Fo.QC:∀ f:Fo,f.tb<=5000->f.sh
 | .nil,_=>trivial
 | .text t r,h=>by simp only[Fo.tb] at h;exact⟨by omega,Fo.QC r (by omega)⟩
 | .hash r,h=>Fo.QC r h
 | .put _ _ r,h=>Fo.QC r h
 | .num _ _ r,h=>Fo.QC r h
 | .br _ _ _ _ _ bs r,h=>by simp only[Fo.tb] at h;exact⟨Fo.QC bs (by omega),Fo.QC r (by omega)⟩
 | .uq _ _ m r,h=>by simp only[Fo.tb] at h;exact⟨Fo.QC m (by omega),Fo.QC r (by omega)⟩
theorem Fo.dP:∀ f g:Fo,(f.app g).tb=f.tb+g.tb
 | .nil,g=>by simp[Fo.app,Fo.tb]
 | .text t r,g=>by simp only[Fo.app,Fo.tb,Fo.dP r g];omega
 | .hash r,g=>by simp only[Fo.app,Fo.tb,Fo.dP r g]
 | .put _ _ r,g=>by simp only[Fo.app,Fo.tb,Fo.dP r g]
 | .num _ _ r,g=>by simp only[Fo.app,Fo.tb,Fo.dP r g]
 | .br _ _ _ _ _ bs r,g=>by simp only[Fo.app,Fo.tb,Fo.dP r g];omega
 | .uq _ _ m r,g=>by simp only[Fo.app,Fo.tb,Fo.dP r g];omega
theorem Fo.dR(b:Bool):∀ f g:Fo,(f.app g).hs b ↔ f.hs b/\g.hs b
 | .nil,g=>by simp[Fo.app,Fo.hs]
 | .text t r,g=>by simp only[Fo.app,Fo.hs,Fo.dR b r g]
 | .hash r,g=>by simp only[Fo.app,Fo.hs,Fo.dR b r g,and_assoc]
 | .put _ _ r,g=>by simp only[Fo.app,Fo.hs,Fo.dR b r g]
 | .num _ _ r,g=>by simp only[Fo.app,Fo.hs,Fo.dR b r g]
 | .br _ _ _ _ _ bs r,g=>by simp only[Fo.app,Fo.hs,Fo.dR b r g,and_assoc]
 | .uq _ _ m r,g=>by simp only[Fo.app,Fo.hs,Fo.dR b r g,and_assoc]
theorem Fo.OP{b:Bool}{f:Fo}(h:f.hs b)(t:Wd):(f.xR t).hs b/\(f.xR t).tb<=f.tb+t.length:=by
 cases hl:f.xD with
 | none =>
  rw[uU f t hl];exact⟨(Fo.dR b _ _).2 ⟨h,trivial⟩,by rw[Fo.dP];simp only[Fo.tb];omega⟩
 | some s =>
  obtain⟨pre,h1,h2,h3⟩:=ud f s hl;rw[h1] at h;rw[h3];refine⟨(Fo.dR b _ _).2 ⟨((Fo.dR b _ _).1 h).1,trivial⟩,?_⟩;rw[Fo.dP,show f.tb=(pre.app (.text s .nil)).tb from congrArg _ h1,Fo.dP];simp only[Fo.tb,zx];omega
def Lc(m:ky):Prop:=∀ num i f j,m num i = .ok (f,j)->f.hs num/\f.tb+4*i<=4*j
section
variable {rs:List Int}
theorem zg6{msg:Option ky}{num:Bool}{i j:Nat}{f:Fo}(hm:∀ m,msg=some m->Lc m)(h:ZZ rs msg num i = .ok (f,j)):f.hs num/\f.tb+4*i<=4*j:=by
 unfold ZZ at h;obtain⟨k,a,h1,h2⟩:=xZ h;obtain⟨u,b,h3,h4⟩:=xZ h2;obtain⟨hk,e1⟩:=Pc h1;have e2:=(xi h3).2;have e3:=xc rs a
 cases msg with
 | none=>cases h4
 | some m =>
  obtain⟨g,c,h5,h6⟩:=xZ (show(m num b).then _=_ from h4);obtain⟨u2,z,h7,h8⟩:=xZ h6;obtain⟨hg,ht⟩:=hm m rfl _ _ _ _ h5;have e5:=(xi h7).2;have e6:=xc rs z
  cases h8;refine⟨⟨hg,trivial⟩,?_⟩;simp only[Fo.tb];omega
theorem RV{msg:Option ky}{num:Bool}(hm:∀ m,msg=some m->Lc m):∀ (n:Nat) (acc:Fo) (i j:Nat) (f:Fo),kQ rs msg num n acc i = .ok (f,j)->acc.hs num->f.hs num/\f.tb+4*i<=acc.tb+4*j
 | 0,acc,i,j,f,h,_=>by cases h
 | n+1,acc,i,j,f,h,ha=>by
  rw[kQ] at h;split at h
  ·cases h;exact⟨ha,z8 _⟩
  ·obtain⟨g,q,h1,h2⟩:=xZ h;obtain⟨g1,g2⟩:=zg6 hm h1;obtain⟨k1,k2⟩:=RV hm n _ _ _ _ h2 ((Fo.dR num _ _).2 ⟨ha,g1⟩);rw[Fo.dP] at k2;exact⟨k1,by omega⟩
theorem zg7{msg:Option ky}{num:Bool}{i j:Nat}{f:Fo}(hm:∀ m,msg=some m->Lc m)(h:ZY rs msg i = .ok (f,j)):f.hs num/\f.tb+4*i<=4*j:=by
 unfold ZY at h;obtain⟨u,a,h1,h2⟩:=xZ h;obtain⟨nm,b,h3,h4⟩:=xZ h2;have e1:=(xi h1).2;have e2:=xc rs a;obtain⟨hn,e3⟩:=Gc h3;have e4:=xc rs b;clear h h1 h2 h3;split at h4
 ·obtain⟨u,z,h5,h6⟩:=xZ h4;have:=(xi h5).2
  cases h6;exact⟨trivial,by simp only[Fo.tb];omega⟩
 ·obtain⟨wd,c,h5,h6⟩:=xZ h4;have e5:=gX h5;have e6:=xc rs (xP rs b+1);have e7:=xc rs c;clear h4 h5;split at h6
  ·obtain⟨u,z,h7,h8⟩:=xZ h6;have:=(xi h7).2
   cases h8;exact⟨trivial,by simp only[Fo.tb];omega⟩
  ·split at h6
   ·cases h6
   ·next form Pa =>
    obtain⟨u,d,h7,h8⟩:=xZ h6;obtain⟨o,l,h9,dV⟩:=xZ h8;obtain⟨bs,q,Qm,UL⟩:=xZ dV;obtain⟨u,z,WY,ny⟩:=xZ UL;have:=(xi h7).2;have:=xc rs d;obtain⟨ho,_⟩:=Pe h9;obtain⟨b1,b2⟩:=RV hm _ _ _ _ _ Qm trivial;have e9:=(xi WY).2
    cases ny;refine⟨⟨b1,trivial⟩,?_⟩;simp only[Fo.tb] at b2 ⊢;omega
theorem Fs{msg:Option ky}{num:Bool}(hm:∀ m,msg=some m->Lc m):∀ (n:Nat) (acc:Fo) (i j:Nat) (f:Fo),uF rs msg num n acc i = .ok (f,j)->acc.hs num->f.hs num/\f.tb+4*i<=acc.tb+4*j
 | 0,acc,i,j,f,h,_=>by cases h
 | n+1,acc,i,j,f,h,ha=>by
  rw[uF] at h;split at h
  ·cases h;exact⟨ha,z8 _⟩
  split at h
  ·obtain⟨g,q,h1,h2⟩:=xZ h;obtain⟨g1,g2⟩:=zg7 (num:=num) hm h1;obtain⟨k1,k2⟩:=Fs hm n _ _ _ _ h2 ((Fo.dR num _ _).2 ⟨ha,g1⟩);rw[Fo.dP] at k2;exact⟨k1,by omega⟩
  split at h
  ·next hq =>
   obtain⟨k1,k2⟩:=Fs hm n _ _ _ _ h ((Fo.dR num _ _).2 ⟨ha,hq.2,trivial⟩);rw[Fo.dP] at k2;simp only[Fo.tb] at k2;exact⟨k1,by omega⟩
  ·obtain⟨t1,t2⟩:=Fo.OP ha (kN rs num i).1;obtain⟨k1,k2⟩:=Fs hm n _ _ _ _ h t1;have h4:=Bu rs num i;exact⟨k1,by omega⟩
theorem RU:∀ n,Lc (fF rs n)
 | 0,num,i,f,j,h=>by
  rw[fF] at h;simpa[Fo.tb] using Fs (fun m e=>by cases e) _ _ _ _ _ h trivial
 | n+1,num,i,f,j,h=>by
  rw[fF] at h;simpa[Fo.tb] using Fs (fun m e=>by cases e;exact RU n) _ _ _ _ _ h trivial
end
theorem rO{l:List UInt8}{f:Fo}(h:uW l = .ok f):f.hs false/\f.sh:=by
 unfold uW at h;split at h
 ·cases h
 split at h
 ·cases h
 next h1 _ =>
 have bF:=V8 l;have hr:(xO l).length<=1000:=by omega
 cases hp:ZR (xO l) with
 | error e=>rw[hp] at h;cases h
 | ok x =>
  rw[hp] at h
  cases h;unfold ZR at hp;obtain⟨g,q,h2,h3⟩:=xZ (show _=Except.ok (x.1,x.2) from hp);obtain⟨hf,hm⟩:=RU 5 _ _ _ _ h2;have he:q<=(xO l).length:=bD _ _ _ _ _ h2 (zD _);split at h3
  ·cases h3;exact⟨hf,Fo.QC _ (by omega)⟩
  ·cases h3
def Fo.lu:Fo->Prop
 | .nil=>True
 | .text _ r=>r.lu
 | .hash r=>r.lu
 | .put _ _ r=>r.lu
 | .num _ _ r=>r.lu
 | .br _ _ _ _ _ bs r=>qb∈bs.keys/\bs.lu/\r.lu
 | .uq _ _ m r=>m.lu/\r.lu
theorem zg8(cl:Nat):∀ (f:Fo) (seen:List Wd) (acc:List (Nat×Nat)),Kq cl seen acc f=[]->qb∈seen\/qb∈f.keys:=by
 have hn:∀ (f:Fo) (seen:List Wd) (acc:List (Nat×Nat)),(if DE∈seen then acc else acc++[(6,cl)])=[]->qb∈seen\/qb∈f.keys:=fun f seen acc h=>by
  split at h
  ·next hk=>exact .inl hk
  ·simp at h
 intro f;induction f with
 | uq k a m r _ ih =>
  intro seen acc h;rw[Kq] at h;rcases ih _ _ h with h1|h1
  ·rcases zm.1 h1 with h1|h1
   ·exact .inr (by rw[Fo.keys,h1];exact List.mem_cons_self)
   ·exact .inl h1
  ·exact .inr (by rw[Fo.keys];exact zF _ h1)
 | nil=>intro seen acc h;exact hn .nil seen acc h
 | text _ _ _=>intro seen acc h;exact hn (.text _ _) seen acc h
 | hash _ _=>intro seen acc h;exact hn (.hash _) seen acc h
 | put _ _ _ _=>intro seen acc h;exact hn (.put _ _ _) seen acc h
 | num _ _ _ _=>intro seen acc h;exact hn (.num _ _ _) seen acc h
 | br _ _ _ _ _ _ _ _ _=>intro seen acc h;exact hn (.br _ _ _ _ _ _ _) seen acc h
theorem fy:∀ (f:Fo) (s s':Kl),vw Z3 f s = .go true s'->s'.2=[]->s.2=[]/\f.lu
 | .nil,s,s',h,e=>by
  cases h;exact⟨e,trivial⟩
 | .text _ r,s,s',h,e=>fy r s s' h e
 | .hash r,s,s',h,e=>fy r s s' h e
 | .put n a r,s,s',h,e=>by
  obtain⟨h1,h2⟩:=fy r (uB s n a 0) s' h e;exact⟨Y8 h1,h2⟩
 | .num n a r,s,s',h,e=>by
  obtain⟨h1,h2⟩:=fy r (uB s n a 1) s' h e;exact⟨Y8 h1,h2⟩
 | .br n a f o c bs r,s,s',h,e=>by
  obtain⟨s1,h1⟩:∃ s1:Kl,((uB s n a (ja (.br n a f o c bs .nil))).1,(uB s n a (ja (.br n a f o c bs .nil))).2++Kq c [] [] bs)=s1:=⟨_,rfl⟩;have h2:(vw Z3 bs s1).then (fun s=>vw Z3 r s) = .go true s':=by rw[←h1];exact h
  obtain⟨s2,h3⟩:=kH bs s1;rw[h3] at h2;obtain⟨h4,h5⟩:=fy r s2 s' h2 e;obtain⟨h6,h7⟩:=fy bs s1 s2 h3 h4;rw[←h1] at h6;obtain⟨h8,h9⟩:=List.append_eq_nil_iff.1 h6;exact⟨Y8 h8,(zg8 c bs _ _ h9).resolve_left (by simp),h7,h5⟩
 | .uq k a m r,s,s',h,e=>by
  obtain⟨s1,h1⟩:=kH m s;have h2:(vw Z3 m s).then (fun s=>vw Z3 r s) = .go true s':=h;rw[h1] at h2;obtain⟨h4,h5⟩:=fy r s1 s' h2 e;obtain⟨h6,h7⟩:=fy m s s1 h1 h4;exact⟨h6,h7,h5⟩
theorem rP{f:Fo}(h:X3 f=none):f.lu:=by
 obtain⟨s,hs⟩:=kH f ((fun _=>none),[]);have e:bq f=s.2:=by unfold bq;rw[hs]
 unfold X3 at h;refine(fy f _ s hs ?_).2;rw[←e]
 cases hq:bq f with
 | nil=>rfl
 | cons a t=>rw[hq] at h;cases h
theorem Fo.Yn{N:Nat}:∀ (b:Bool) (f:Fo),f.wf N=true->f.once->f.lu->f.hs b->f.BI b
 | _,.nil,_,_,_,_=>trivial
 | b,.text t r,w,o,t2,h=>Fo.Yn b r w o t2 h
 | b,.hash r,w,o,t2,h=>⟨h.1,Fo.Yn b r w o t2 h.2⟩
 | b,.put _ _ r,w,o,t2,h=>by
  simp only[Fo.wf,zH] at w;exact Fo.Yn b r w.2 o t2 h
 | b,.num _ _ r,w,o,t2,h=>by
  simp only[Fo.wf,zH] at w;exact Fo.Yn b r w.2 o t2 h
 | b,.br _ _ f _ _ bs r,w,o,t2,h=>by
  simp only[Fo.wf,zH] at w;exact⟨w.1.1.1.2,o.1,t2.1,Fo.Yn _ bs w.1.2 o.2.1 t2.2.1 h.1,Fo.Yn b r w.2 o.2.2 t2.2.2 h.2⟩
 | b,.uq _ _ m r,w,o,t2,h=>by
  simp only[Fo.wf,zH] at w;exact⟨w.1.1.1.2,Fo.Yn b m w.1.2 o.1 t2.1 h.1,Fo.Yn b r w.2 o.2 t2.2 h.2⟩
theorem lj{l:List UInt8}{f:Fo}(h:uW l = .ok f)(hc:X3 f=none):f.vD=true/\f.BI false/\f.Uo/\f.sh/\f.cw<=90000:=by
 have hg:=XI h;obtain⟨h1,h2⟩:=rO h;obtain⟨h3,h4⟩:=IF h hc;exact⟨hg.msg,Fo.Yn false f hg.wf (IK hc) (rP hc) h1,h3,h2,by omega⟩
end Go.Proofs.YthpldolmpinnhaaGreatDoor
