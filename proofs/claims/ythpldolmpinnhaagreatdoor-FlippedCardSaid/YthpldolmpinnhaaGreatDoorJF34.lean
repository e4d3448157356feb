import Derived.Test.YthpldolmpinnhaaGreatDoorJF33
import Derived.Deep.CutBlock
set_option maxHeartbeats 64000000
open Go.Lib renaming hid→z7
open And renaming intro→z8
open List renaming mem_of_getElem?→zy,getElem?_cons_zero→zu,getElem?_cons_succ→zk,replicate→zj,getElem?_toArray→zg,all_eq_true→zY,range→zV,length_append→zU,mem_of_mem_drop→zJ,length_drop→zE,take_left→zP,eq_of_mem_replicate→zS,length_replicate→za,length_pos_iff→ze,append_assoc→zi,length_take→zl,all_append→zn
open Go.Value renaming ownBlock→zx,int→zD,bool→zI
open Go.World renaming frozen?_setCell→zv,cell?_alloc_lt→zf,block_lt_of_cell?→zZ,frozen?_of_block→zX,setCell→zR
open Nat renaming le_refl→zQ,lt_of_lt_of_le→zF,le_succ→zL,le_add_right→zm
open Go.RowKit.Below renaming refl→zG
open Go.Builtin renaming append_→zH,zeroCells→zM
open Go.IntKind renaming wrap_i64→zN,i64→zO
open Option.some renaming inj→zW
open Array renaming toList_append→zc
open Go.Proofs.Tryz
namespace Go.Proofs.YthpldolmpinnhaaGreatDoor
open Go Go.RowKit
set_option maxRecDepth 10000
def gT(M:Nat->Prop)(w:World)(v:Value)(n:vq):Prop :=
 ∃ g o cap,v = .agg #[.bool n.1,.slice (some ⟨g,o,none⟩) (n.2.1.length+n.2.2.length) cap,.int .i64 n.2.2.length]/\n.2.1.length+n.2.2.length<=cap/\cap<=maxLen/\¬M g/\(∃ c,w.cell? ⟨g,0,none⟩=some (.int .u8 c))/\xK w (some ⟨g,o,none⟩) (xW (n.2.1++n.2.2))/\EV n.2
theorem gT.num{M:Nat->Prop}{w:World}{v:Value}{n:vq}(h:gT M w v n):uR w v n.2:=by
 obtain⟨g,o,cap,h1,h2,h3,_,h4,h5,h6⟩:=h;exact⟨n.1,g,o,cap,h1,h2,h3,h4,h5,h6⟩
theorem xK.fr{F F':Nat->Prop}{w w':World}{a:Addr}{l:List Int}(h:xK w (some a) l)(hf:Fr F F' w w')(ha:¬F a.block):xK w' (some a) l:=fun j hj=>by
 obtain⟨b,hb,hc⟩:=h j hj
 cases hb;have e:(a.add j).block=a.block:=by unfold Addr.add;split<;>rfl
 exact⟨a,rfl,hf.cell hc (by rw[e];exact ha)⟩
theorem gT.fr{M M' F F':Nat->Prop}{w w':World}{v:Value}{n:vq}(h:gT M w v n)(hf:Fr F F' w w')(hF:∀ k,F k->M k)(hM:∀ k,M' k->M k\/w.heap.size<=k):gT M' w' v n:=by
 obtain⟨g,o,cap,h1,h2,h3,hg,⟨c,h4⟩,h5,h6⟩:=h;have hl:=zZ w _ h4;exact⟨g,o,cap,h1,h2,h3,fun q=>(hM g q).elim hg (fun q=>by simp only at hl;omega),⟨c,hf.cell h4 (fun q=>hg (hF g q))⟩,h5.fr hf (fun q=>hg (hF g q)),h6⟩
theorem RN(l:Wd)(a:Addr)(c sz:Nat)(w:World)(hs:l.length<=sz)(h0:0<sz)(hk:sz<=300)(hB:xK w (some a) (xW l)) :
  Calls Tryz.prog 167 #[.slice (some a) l.length c,.int .i64 (sz:Int)] w fun e w'=>(∃ g cp,e = .returned (.slice (some ⟨g,0,none⟩) sz cp)/\xK w' (some ⟨g,0,none⟩) (xW (fk sz l))/\w.heap.size<=g)/\Below w.heap.size w w':=by
 obtain⟨k,rfl⟩:∃ k,sz=l.length+k:=⟨sz - l.length,by omega⟩;refine(eW l a c k w (by omega) (by omega) hB).mono ?_;rintro e w' ⟨⟨v,rfl,ho⟩,hb⟩;have O2:(fk (l.length+k) l).length=l.length+k:=by rw[Jh];omega
 obtain⟨g,cp,rfl,hg,-,-⟩:=xl ho h0;exact⟨⟨g,cp,rfl,qM ho O2.symm,hg⟩,hb⟩
theorem Tc(w:World)(B g cap n:Nat)(l:Wd)(xV:w.ownsRow B 5 1 (.slice (some ⟨g,0,none⟩) n cap) n (xw l))(k:Nat)(hn:n+k<=1000000)(ty:TypeId) :
  ∃ v' w',(zH #[48,3] ty #[.slice (some ⟨g,0,none⟩) n cap,.int .i64 (k:Int)]).run Tryz.prog w = .ok v' w'/\w'.ownsRow B 5 1 v' (n+k) (xw (l++zj k 48))/\w.grownBy w' (some g):=by
 obtain⟨i,hi,hz,h2,h3⟩:=vy.info;have ht:=vy.under;have oy:=underlying3;rcases xV.2 with⟨hv,_⟩|⟨g',ve,cur,hv,DL,hg,oZ,jy,dB,Yh⟩
 ·cases hv
 cases hv;have Hq:l.length=n:=by have:=xV.1;simpa[xw] using this
 have yb4:cur.size=cap:=by simpa using dB
 have hw:zO.wrap (k:Int)=k:=by rw[zN];omega
 have yc4:¬((k:Int)<0):=by omega
 have TY:¬(281474976710656<(k:Int)*(i.bytes:Int)):=by rw[h3];omega
 have hzc:(zM (zD .u8 0).cells k)=(zj k (zD .u8 0)).toArray:=by
  apply Array.ext';apply List.ext_getElem
  ·simp[zM,Value.cells]
  ·intro j h1 h2;simp[zM,Value.cells];rw[Nat.mod_one];rfl
 by_cases GJ:n+k<=cap
 ·by_cases h0:k=0
  ·subst h0;refine⟨_,w,?_,by simpa using xV,World.grownBy.refl _ _⟩;have hw0:zO.wrap 0=0:=by decide
   have yc5:n<=cap:=oZ;simp[zH,run_underlying ht,run_underlying oy,sizeOf,typeInfo,hi,h2,h3,asInt,asIntOf,hw0,yc5];rfl
  ·have vH:=run_storeCells_at Tryz.prog g n 5 (zj k (zD .u8 0)) 0 cur w hg (by simp;omega) (by intro v hv;rw[zS hv];rfl);simp only[Nat.add_zero,za] at vH;refine⟨.slice (some ⟨g,0,none⟩) (n+k) cap,w.setRow g (cur.toList.take n++zj k (zD .u8 0)++cur.toList.drop (n+k)).toArray,?_,⟨by simp[xw,Hq],.inr ⟨g,cap,_,rfl,DL,setRow_heap w g cur _ _ _ hg,GJ,jy,?_,?_⟩⟩,⟨rfl,rfl,rfl,by simp,fun j _ hj=>setRow_other w g j _ (fun e=>hj (by simp[e]))⟩⟩
   ·simp[zH,run_underlying ht,run_underlying oy,sizeOf,typeInfo,zeroValue,hi,hz,h2,h3,asInt,asIntOf,hw,yc4,h0,GJ,hzc,Addr.add_lit,vH];intro xgx;omega
   ·simp;omega
   ·have ht':cur.toList.take n=xw l:=by simpa using Yh
    rw[ht',FK,Xi];have:(xw l++zj k (zD .u8 0)).length=(n+k)*1:=by simp[xw,Hq]
    rw[←this];exact zP
 ·have holds:∀ j u,(xw l)[j]? = some u->w.cell? ((⟨g,0,none⟩:Addr).add j)=some u:=xV.cells (g:=g) rfl;have Uw:=run_firstCells_some (P:=Tryz.prog) w.drew i.size n ⟨g,0,none⟩ n cap (xw l) (by rw[h2];simp[xw,Hq]) (by simpa using holds);have hr:=Lib.run_append_grow_zeros (P:=Tryz.prog) w _ _ ty _ i _ .i64 .i64 ht oy hi hz (some ⟨g,0,none⟩) n cap (xw l) Uw k (by omega) (by omega) (by omega) (by omega) (by rw[h3];omega) (by rw[h3];exact growslice_fits (by omega) (by omega));have xD:=(Array.getElem?_eq_some_iff.1 hg).1;have rE:=grownCap_ge w (n+k) cap 5;refine⟨_,_,hr,⟨by simp[xw,Hq],.inr ⟨w.heap.size,_,_,rfl,by omega,heap_alloc_new w.drew _,rE,grownCap_le_maxLen w (n+k) cap 5 (by unfold maxLen;omega),?_,?_⟩⟩,⟨rfl,rfl,rfl,by simp,fun k hk _=>heap_alloc_old w.drew _ hk⟩⟩
  ·have Uu:(zD IntKind.u8 0).cells.size=1:=rfl;simp only[Array.size_append,List.size_toArray,size_zeroCells,Uu];simp[xw,Hq];omega
  ·rw[hzc,zc,zc,FK,Xi];have:(xw l++zj k (zD .u8 0)).length=(n+k)*1:=by simp[xw,Hq]
   rw[←this];exact zP
theorem eh(n:vq)(v:Nat):Vh n v=if n.1 then (decide (xE (n.2.1++n.2.2)+v*10 ^ n.2.2.length≠0),Dp (xE (n.2.1++n.2.2)+v*10 ^ n.2.2.length) n.2.2.length)
 else if xE (n.2.1++n.2.2)<v*10 ^ n.2.2.length then (true,Dp (v*10 ^ n.2.2.length - xE (n.2.1++n.2.2)) n.2.2.length)
 else (false,Dp (xE (n.2.1++n.2.2) - v*10 ^ n.2.2.length) n.2.2.length):=rfl
def ED(B O q sc:Nat)(nb:Bool)(r:Nat)(w wc:World):Prop :=
 ∃ g n' cap d,wc.cell? ⟨O,0,none⟩=some (.bool nb)/\wc.cell? ⟨O,1,none⟩=some (.slice (some ⟨g,0,none⟩) n' cap)/\wc.cell? ⟨O,2,none⟩=some (.int .i64 (sc:Nat))/\(∀ j,wc.frozen? ⟨O,j,none⟩=false) /\
  wc.cell? ⟨q,2,none⟩=some (.int .i64 (sc:Nat))/\dJ wc (q+1)/\wc.ownsRow B 5 1 (.slice (some ⟨g,0,none⟩) n' cap) n' (xw d)/\g≠O/\d.length=n'/\sc+1<=n'/\n'<=61/\d.all xJ=true/\xE d=r/\Below B w wc
theorem dJ.other{w:World}{q:Nat}(h:dJ w q){a:Addr}(ha:a.block≠q)(u:Value):dJ (w.setCell a u) q :=
 ⟨uZ h.c0 _ ha,uZ h.c1 _ ha,uZ h.c2 _ ha,by rw[zv];exact h.z0,by rw[zv];exact h.z1,by rw[zv];exact h.z2,by simpa[zR] using h.lt⟩
theorem ED.mk1{B O q sc r n' cap g:Nat}{nb:Bool}{w w6:World}{u:Value}{d:Wd}(c0:w6.cell? ⟨O,0,none⟩=some (.bool nb))(c1:w6.cell? ⟨O,1,none⟩=some u)(c2:w6.cell? ⟨O,2,none⟩=some (.int .i64 (sc:Nat)))(fz:∀ j,w6.frozen? ⟨O,j,none⟩=false)
  (cq:w6.cell? ⟨q,2,none⟩=some (.int .i64 (sc:Nat))) (hR:dJ w6 (q+1)) (hq:q+1<O) (ho:w6.ownsRow B 5 1 (.slice (some ⟨g,0,none⟩) n' cap) n' (xw d)) (hg:g≠O) (hl:d.length=n') (h1:sc+1<=n') (h3:n'<=61) (hd:d.all xJ=true) (hr:xE d=r) (hb:Below B w w6) (hO:B<=O) :
  ED B O q sc nb r w (w6.setCell ⟨O,1,none⟩ (.slice (some ⟨g,0,none⟩) n' cap)) :=
 ⟨g,n',cap,d,by rw[xg,if_neg (by simp)];exact c0,vB c1 _,by rw[xg,if_neg (by simp)];exact c2,fun j=>by rw[zv];exact fz j,uZ cq _ (by show O≠q;omega),hR.other (by show O≠q+1;omega) _,xp ho (by simp[zx,Ne.symm hg]) _,hg,hl,h1,h3,hd,hr,hb.setCell hO _⟩
theorem ED.X3{B O q sc r:Nat}{nb:Bool}{w wc:World}(h:ED B O q sc nb r w wc)(hq:q+1<O)(hO:B<=O)(b:Bool):ED B O q sc b r w (wc.setCell ⟨O,0,none⟩ (.bool b)):=by
 obtain⟨g,n',cap,d,c0,c1,c2,fz,cq,hR,ho,hg,hl,h1,h3,hd,hr,hb⟩:=h;exact⟨g,n',cap,d,vB c0 _,by rw[xg,if_neg (by simp)];exact c1,by rw[xg,if_neg (by simp)];exact c2,fun j=>by rw[zv];exact fz j,uZ cq _ (by show O≠q;omega),hR.other (by show O≠q+1;omega) _,xp ho (by simp[zx,Ne.symm hg]) _,hg,hl,h1,h3,hd,hr,hb.setCell hO _⟩
theorem RO{B gd j m c n' cp sc r:Nat}{w:World}{d:Wd}(fb:Bool)(ho:w.ownsRow B 5 1 (.slice (some ⟨gd,0,none⟩) n' cp) n' (xw d))(e1:j+m=n')(e2:j+c=cp)(hl:d.length=n')(hd:d.all xJ=true)(h3:n'<=61)(hp:fk (sc+1) (xI r)=d.drop j) :
  gT (fun k=>k<B) w (.agg #[.bool fb,.slice (some ⟨gd,j,none⟩) m c,.int .i64 (sc:Nat)]) (fb,Dp r sc):=by
 have U4:n'<=cp/\cp<=maxLen:=by
  rcases ho.2 with⟨hv,_⟩|⟨g2,uG,cur,hv,_,_,hh,hh2,_⟩
  ·cases hv
  ·cases hv;exact⟨hh,hh2⟩
 have uO:(d.drop j).length=m:=by rw[zE];omega
 have hm:sc+1<=m:=by rw[←uO,←hp,Jh];omega
 have hdd:(d.drop j).all xJ=true:=by
  rw[zY] at hd ⊢;exact fun x hx=>hd x (zJ hx)
 have hf:Dp r sc=((d.drop j).take (m - sc),(d.drop j).drop (m - sc)):=by unfold Dp;rw[hp,uO]
 have hB:=(qM ho hl.symm).drop j;rw[Nat.zero_add,show(xW d).drop j=xW (d.drop j) by simp[xW]] at hB;have l1:((d.drop j).take (m - sc)).length=m - sc:=by rw[zl];omega
 have l2:((d.drop j).drop (m - sc)).length=sc:=by rw[zE];omega
 refine⟨gd,j,c,?_,?_,by omega,by have:=(ho.lt gd rfl).1;omega,⟨_,Yc ho (m:=0) (by omega) hl⟩,?_,?_⟩
 ·rw[hf,l1,l2,show m - sc+sc=m by omega]
 ·rw[hf,l1,l2];omega
 ·rw[hf,List.take_append_drop];exact hB
 ·rw[hf];refine⟨?_,?_,fun e=>?_,by rw[l1];omega,by rw[l2];omega⟩
  ·rw[zY] at hdd ⊢;exact fun x hx=>hdd x (List.mem_of_mem_take hx)
  ·rw[zY] at hdd ⊢;exact fun x hx=>hdd x (zJ hx)
  ·have:=congrArg List.length e;rw[l1] at this;simp at this;omega
theorem Te(v:Value)(n:vq)(x:Nat)(w:World)(h:gT (fun _=>False) w v n)(hx:x<=1000000000)(hl:n.2.1.length+n.2.2.length<=40) :
  Calls Tryz.prog 131 #[v,.int .i64 (x:Nat)] w fun e w'=>(∃ v',e = .returned v'/\gT (fun k=>k<w.heap.size) w' v' (Vh n x))/\Below w.heap.size w w':=by
 obtain⟨neg,X⟩:=n;obtain⟨g,o,cap,rfl,dQ,jy,-,h0,hB,ku⟩:=h;simp only at hl dQ hB ku ⊢;obtain⟨B,hBe⟩:=xX w.heap.size;obtain⟨L,hL⟩:=xX (X.1.length+X.2.length);obtain⟨sc,hsc⟩:=xX X.2.length;have hL1:sc+1<=L:=by have:=ze.2 ku.ne;omega
 rw[hL] at hl dQ ⊢;rw[hsc] at ⊢;obtain⟨W,hW⟩:=xX ((w.alloc (.cells #[.bool neg,.slice (some ⟨g,o,none⟩) L cap,.int .i64 (sc:Nat)] 97)).alloc (.cells #[.bool false,.slice none 0 0,.int .i64 0] 97));have s1:(w.alloc (.cells #[.bool neg,.slice (some ⟨g,o,none⟩) L cap,.int .i64 (sc:Nat)] 97)).heap.size=B+1:=by simp[hBe]
 have b1:Below B w (w.alloc (.cells #[.bool neg,.slice (some ⟨g,o,none⟩) L cap,.int .i64 (sc:Nat)] 97)):=(zG _ _).alloc (by omega) _;have b2:Below B w W:=by rw[←hW];exact b1.alloc (by omega) _
 have cW:∀ j,j<3->W.cell? ⟨B,j,none⟩=(#[zI neg,.slice (some ⟨g,o,none⟩) L cap,.int .i64 (sc:Nat)]:Array Value)[j]? := fun j hj=>by
  rw[←hW,zf _ _ _ (by show B<_;omega),←hBe];exact xu _ _ _ _ _
 have hRW:dJ W (B+1):=by
  rw[←hW,←s1];exact⟨xu _ _ _ _ _,xu _ _ _ _ _,xu _ _ _ _ _,by simp,by simp,by simp,by simp⟩
 have Mp:=z7 hRW;have q0:=cW 0 (by omega);have q1:=cW 1 (by omega);have q2:=cW 2 (by omega);simp only[zg,zu,zk] at q0 q1 q2;have sW:W.heap.size=B+2:=by rw[←hW];simp[hBe]
 have HB:=z7 hB;have HX:=z7 (z8 ku (z8 hL hsc));have HW:=z7 b2;have O8:=z7 hBe;have CH:=z7 sW;clear hB ku hL hsc b1 b2 s1 cW h0 hRW;go_enter func131,ntmps131;go_wp2_with fail;have HWE:=z7 hW;clear hW hBe;refine rt (fun W':World=>W'.cell? ⟨B,2,none⟩=some (.int .i64 (sc:Nat))) [0,3,4] 4 q2 ?_;(iterate 3 (refine ty ?_;try simp only[pl]))
 refine xq ?_;refine kR 1 (fun J hJ=>?_);go_simp;refine(Y6 x W.drew hx).mono ?_;rintro e w1 ⟨⟨g1,rj,rfl,DS⟩,xB⟩;have Ti:Below W.heap.size W w1:=⟨xB.os,xB.tape,xB.output,xB.size,xB.block⟩;have r0:=(Ti.cell (p:=⟨B,0,none⟩) (by show B<_;omega)).trans q0;have r1:=(Ti.cell (p:=⟨B,1,none⟩) (by show B<_;omega)).trans q1;have r2:=(Ti.cell (p:=⟨B,2,none⟩) (by show B<_;omega)).trans q2;have eT:=QF;have uL:=Ti.size;have uO:=qA 9 x (by omega);obtain⟨w2,v2,Ht,QW,ft⟩:∃ w2 v2,(zH #[48,3] 48 #[.slice (some ⟨g1,0,none⟩) (xI x).length rj,.int .i64 (sc:Int)]).run Tryz.prog w1 = .ok v2 w2/\w2.ownsRow (B+2) 5 1 v2 ((xI x).length+sc) (xw (xI x++zj sc 48))/\w1.grownBy w2 (some g1):=by
  obtain⟨v2,w2,a,b,c⟩:=Tc w1 _ g1 rj _ _ DS sc (by omega) 48;exact⟨w2,v2,a,by rw[←CH.out];exact b,c⟩
 have Ze:B+2<=g1:=by
  have:=(DS.lt g1 rfl).1;rw[show W.drew.heap.size=W.heap.size from rfl,CH.out] at this;exact this
 have VN:Below (B+2) W w2:=(Ti.mono (by omega)).grown ft (by omega) (fun q hq=>by cases hq;exact Ze);have u0:=(VN.cell (p:=⟨B,0,none⟩) (by show B<_;omega)).trans q0;have u1:=(VN.cell (p:=⟨B,1,none⟩) (by show B<_;omega)).trans q1;have u2:=(VN.cell (p:=⟨B,2,none⟩) (by show B<_;omega)).trans q2;obtain⟨dl,rH⟩:=xX ((xI x).length);have H7:1<=dl:=by have:=ze.2 (bj x);omega
 rw[rH] at QW uO Ht;have LP:=z7 rH;have HO2:=z7 QW;have Ky:=z7 VN;clear DS xB Ti ft VN QW;rw[rH];clear rH;refine hJ.out _ _ r2 fun _=>?_
 clear hJ J;refine Vv [2] 2 r2 ?_;refine ty ?_;try simp only[pl]
 refine xq ?_;refine kR 5 (fun J hJ=>?_);refine Lib.wp_append_run _ _ _ _ _ rfl _ _ rfl rfl _ _ Ht ?_;refine hJ.out _ _ u2 fun _=>?_
 clear hJ J;refine Vv [6] 0 u2 ?_;refine ty ?_;try simp only[pl]
 refine xq ?_;refine bX ?_ _;have Pt:=xl HO2.out (by omega);obtain⟨g2,cp2,rfl,ft,yc8,-⟩:=Pt;obtain⟨sz,qP⟩:∃ sz:Nat,max (L:Int) ((dl:Int)+(sc:Int))=(sz:Int):=⟨max L (dl+sc),by omega⟩;have z1:L<=sz:=by omega
 have z2:dl+sc<=sz:=by omega
 have z3:sz<=60:=by omega
 clear Ht r0 r1 r2 q0 q1 q2;have uK:Below B w w2:=HW.out.trans (Ky.out.mono (by omega));have Sg:=RN (X.1++X.2) ⟨g,o,none⟩ cap sz w2 (by rw[zU,HX.out.2.1];exact z1) (by omega) (by omega) (HB.out.below (by rw[O8.out];exact uK));rw[zU,HX.out.2.1] at Sg;have HW1:=z7 Sg;have zp0:=z7 uK;clear Sg uK;go_wp2_with fail;refine HW1.out.mono ?_;rintro e w3 ⟨⟨ga,ca,rfl,oS,hga⟩,uP⟩;have ue:=uP.size;have ZV:Below B w w3:=zp0.out.trans (uP.mono (by have:=Ky.out.size;omega));have Mr:Below (B+2) W w3:=Ky.out.trans (uP.mono (by have:=Ky.out.size;omega));have Hq:(xI x++zj sc 48).length=dl+sc:=by rw[zU,za,LP.out]
 have DU:=RN (xI x++zj sc 48) ⟨g2,0,none⟩ cp2 sz w3 (by rw[Hq];exact z2) (by omega) (by omega) ((qM HO2.out Hq.symm).below uP);rw[Hq] at DU;have HW2:=z7 DU;have HA3:=z7 oS;have zp1:=z7 ZV;have HZ3:=z7 Mr;have dv:=z7 ue;clear DU oS uP ZV Mr HW1 Ky zp0 ue;go_wp2_with fail;refine HW2.out.mono ?_;rintro e w4 ⟨⟨gb,cb,rfl,rL,hgb⟩,uN⟩;have Mc:=uN.size;have hz4:Below (B+2) W w4:=HZ3.out.trans (uN.mono (by have:=HZ3.out.size;omega));have dM:Below B w w4:=zp1.out.trans (uN.mono (by have:=HZ3.out.size;omega));have t0:w4.cell? ⟨B,0,none⟩=some (.bool neg):=by
  rw[hz4.cell (p:=⟨B,0,none⟩) (by show B<B+2;omega),←HWE.out,zf _ _ _ (by simp[O8.out]),←O8.out];exact xu _ _ _ _ _
 have t2:w4.cell? ⟨B,2,none⟩=some (.int .i64 (sc:Nat)):=by
  rw[hz4.cell (p:=⟨B,2,none⟩) (by show B<B+2;omega),←HWE.out,zf _ _ _ (by simp[O8.out]),←O8.out];exact xu _ _ _ _ _
 have Hs:dJ w4 (B+1):=Mp.out.below (by rw[CH.out];exact hz4);have hA4:=HA3.out.below uN;obtain⟨P1,pY⟩:=xX (fk sz (X.1++X.2));obtain⟨P2,hP2⟩:=xX (fk sz (xI x++zj sc 48));have dX:(X.1++X.2).all xJ=true:=by rw[zn,HX.out.1.eN,HX.out.1.TM];rfl
 have dZ:(xI x++zj sc 48).all xJ=true:=by rw[zn,Xc,Bool.true_and,zY];intro c hc;rw[zS hc];rfl
 have l1:P1.length=sz:=by rw[←pY,Jh,zU,HX.out.2.1];omega
 have l2:P2.length=sz:=by rw[←hP2,Jh,Hq];omega
 have d1:P1.all xJ=true:=by rw[←pY];exact RL dX
 have d2:P2.all xJ=true:=by rw[←hP2];exact RL dZ
 have v1:xE P1=xE (X.1++X.2):=by rw[←pY];exact QK _ _
 have v2:xE P2=x*10 ^ sc:=by rw[←hP2,fk,QK,LI,RE]
 rw[pY] at hA4;rw[hP2] at rL;have HA4:=z7 hA4;have IY:=z7 rL;have HP:=z7 (z8 l1 (z8 l2 (z8 d1 (z8 d2 (z8 v1 v2)))));have HZ4:=z7 hz4;have Wi:=z7 Hs;have zp3:=z7 dM;have t4:B+2<=w4.heap.size:=by have:=hz4.size;omega
 clear hA4 rL l1 l2 d1 d2 v1 v2 pY hP2 dX dZ uN hz4 Hs dM HA3 zp1 HZ3 dv HW2 Hq Mc eT u0 u1 u2;go_wp2_with fail;obtain⟨l1,l2,d1,d2,v1,v2⟩:=HP.out;refine(Y7 P1 P2 sz ca sz cb ⟨ga,0,none⟩ ⟨gb,0,none⟩ _ l1.symm l2.symm (HA4.out.alloc _) (IY.out.alloc _) (l1.trans l2.symm) d1 d2).mono ?_;rintro e rM ⟨rfl,hw5⟩;obtain⟨O,hO⟩:=xX w4.heap.size;obtain⟨cc,GX⟩:=xX (EG P1 P2);have bV:cc<0 ↔ xE P1<xE P2:=by rw[←GX];exact eS (l1.trans l2.symm) d1 d2
 rw[GX];have o0:rM.cell? ⟨O,0,none⟩=some (.bool neg):=by rw[←hw5,←hO];exact xu _ _ _ _ _
 have o1:rM.cell? ⟨O,1,none⟩=some (.slice none 0 0):=by rw[←hw5,←hO];exact xu _ _ _ _ _
 have o2:rM.cell? ⟨O,2,none⟩=some (.int .i64 (sc:Nat)):=by rw[←hw5,←hO];exact xu _ _ _ _ _
 have b45:Below O w4 rM:=by rw[←hw5];exact(zG _ _).alloc (by omega) _
 have u0:=(b45.cell (p:=⟨B,0,none⟩) (by show B<O;omega)).trans t0;have u2:=(b45.cell (p:=⟨B,2,none⟩) (by show B<O;omega)).trans t2;have fz:∀ j,rM.frozen? ⟨O,j,none⟩=false:=by intro j;rw[←hw5,←hO];simp
 have s5:rM.heap.size=O+1:=by rw[←hw5,←hO];simp
 have HA5:=z7 (HA4.out.below (by rw[hO];exact b45));have HB5:=z7 (IY.out.below (by rw[hO];exact b45));have rN:=z7 (zp3.out.trans (b45.mono (by omega)));have HR5:=z7 (Wi.out.below (by rw[hO];exact b45));have AZ:=z7 bV;have Wh:=z7 (eh (neg,X) x);rw[hO] at t4 ⊢;have Me:=z7 s5;clear bV hw5 GX b45 HA4 IY zp3 HZ4 t0 t2 hO l1 l2 d1 d2 v1 v2 s5 hgb hga yc8 ft;go_upto_block 0 with fail
 go_cut [] (fun wc=>∃ nb r,ED B O B sc nb r w wc/\Vh (neg,X) x=(nb && decide (r≠0),Dp r sc))
 case rest =>
  obtain⟨nb,r,⟨gd,n',cp,d,c0,c1,c2,cz,cq,hR,ho,hgO,zp4,Zk,Wa,hdd,hdr,DN⟩,kS⟩:=hcut;clear o0 o1 o2 u0 u2 fz HA5 HB5 rN AZ Wh HP HO2 Me LP;have HO:=z7 ho;have HD:=z7 (z8 zp4 (z8 hdd hdr));have Xj:=z7 kS;have HBC:=z7 DN;clear ho zp4 hdd hdr kS DN;have HR:=z7 hR;clear hR HR5 Wi Mp;go_upto_block 1 with fail
  go_cut [] (fun wl=>∃ j m c,j+m=n'/\j+c=cp/\wl.cell? ⟨O,0,none⟩=some (.bool nb)/\wl.cell? ⟨O,1,none⟩=some (.slice (some ⟨gd,j,none⟩) m c)/\wl.cell? ⟨O,2,none⟩=some (.int .i64 (sc:Nat))/\(∀ j,wl.frozen? ⟨O,j,none⟩=false)/\dJ wl (B+1)/\wl.ownsRow B 5 1 (.slice (some ⟨gd,0,none⟩) n' cp) n' (xw d)/\Below B w wl /\
   fk (sc+1) (xI r)=d.drop j)
  case rest =>
   obtain⟨j,m,c,e1,e2,c0,c1,c2,cz,hR,ho,hb,RB⟩:=hcut;have hgB:gd≠B+1:=by
    rintro rfl;have h1:=Yc ho (m:=0) (by have:=HD.out.1;omega) HD.out.1;rw[hR.c0] at h1
    cases h1
   have uO:(d.drop j).length=m:=by rw[zE,HD.out.1];omega
   have hB:=(qM ho HD.out.1.symm).drop j;rw[Nat.zero_add,show(xW d).drop j=xW (d.drop j) by simp[xW]] at hB;have HZ:=z7 (KK (d.drop j) m uO.symm (some ⟨gd,j,none⟩) c nb (sc:Int) wc (by omega) hB);have hz:(d.drop j).all (· == 48)=decide (r=0):=by
    have h1:(d.drop j).all xJ=true:=by
     have:=HD.out.2.1;rw[zY] at this ⊢;exact fun x hx=>this x (zJ hx)
    have h2:=FU h1;rw[←RB,fk,QK,RE] at h2;rw[Bool.eq_iff_iff,decide_eq_true_eq,←h2,←RB,fk]
   rw[hz] at HZ;have HQ:=z7 (z8 e1 (z8 e2 (z8 ho (z8 hb RB))));have r0:=hR.c0;have r1:=hR.c1;have r2:=hR.c2;have y0:=hR.z0;have y1:=hR.z1;have y2:=hR.z2;clear e1 e2 ho hb RB uO hB hz hR HR
   cases nb
   ·go_wp2;obtain⟨e1,e2,ho,hb,RB⟩:=HQ.out;refine bodyPost_ret (v := .agg #[.bool false,.slice (some ⟨gd,j,none⟩) m c,.int .i64 (sc:Nat)]) ?_ rfl ?_
    ·simp[results,results131,go_sem,r0,r1,r2]
    ·refine⟨⟨_,rfl,?_⟩,?_⟩
     ·rw[Xj.out,O8.out];exact RO _ (xp (xp (xp (xp ho (by simp[zx];omega) _) (by simp[zx];omega) _) (by simp[zx];omega) _) (by simp[zx];omega) _) e1 e2 HD.out.1 HD.out.2.1 Wa RB
     ·rw[O8.out];exact(((hb.setCell (by show B<=O;omega) _).setCell (by show B<=B+1;omega) _).setCell (by show B<=B+1;omega) _).setCell (by show B<=B+1;omega) _
   ·go_wp2_with fail;refine HZ.out.mono ?_;rintro e w7 ⟨rfl,jD⟩;have lO:=zZ wc _ c0;have lR:=zZ wc _ r0;have c0':=(jD.cell (p:=⟨O,0,none⟩) lO).trans c0;have c1':=(jD.cell (p:=⟨O,1,none⟩) lO).trans c1;have c2':=(jD.cell (p:=⟨O,2,none⟩) lO).trans c2;have cz':∀ j,w7.frozen? ⟨O,j,none⟩=false:=fun j=>(zX (jD.block O lO)).trans (cz j)
    have r0':=(jD.cell (p:=⟨B+1,0,none⟩) lR).trans r0;have r1':=(jD.cell (p:=⟨B+1,1,none⟩) lR).trans r1;have r2':=(jD.cell (p:=⟨B+1,2,none⟩) lR).trans r2;have y0':=(jD.frozen (p:=⟨B+1,0,none⟩) lR).trans y0;have y1':=(jD.frozen (p:=⟨B+1,1,none⟩) lR).trans y1;have y2':=(jD.frozen (p:=⟨B+1,2,none⟩) lR).trans y2;have HB7:=z7 jD;clear c0 c1 c2 cz r0 r1 r2 y0 y1 y2 jD HZ;obtain⟨zz,Ms⟩:=xX (decide (r=0));rw[Ms];have HZZ:=z7 Ms;clear Ms;go_wp2;obtain⟨e1,e2,ho,hb,RB⟩:=HQ.out;refine bodyPost_ret (v := .agg #[.bool (!zz),.slice (some ⟨gd,j,none⟩) m c,.int .i64 (sc:Nat)]) ?_ rfl ?_
    ·simp[results,results131,go_sem,r0',r1',r2']
    ·refine⟨⟨_,rfl,?_⟩,?_⟩
     ·rw[Xj.out,O8.out,Bool.true_and,show decide (r≠0) = !zz by rw[←HZZ.out];simp];exact RO _ (xp (xp (xp (xp (fH ho HB7.out) (by simp[zx];omega) _) (by simp[zx];omega) _) (by simp[zx];omega) _) (by simp[zx];omega) _) e1 e2 HD.out.1 HD.out.2.1 Wa RB
     ·rw[O8.out];exact((((hb.trans (HB7.out.mono (by omega))).setCell (by show B<=O;omega) _).setCell (by show B<=B+1;omega) _).setCell (by show B<=B+1;omega) _).setCell (by show B<=B+1;omega) _
  case first =>
   go_wp2_with fail;go_loopw [] (fun wr=>∃ j m c,j+m=n'/\j+c=cp/\sc+1<=m/\wr.cell? ⟨O,0,none⟩=some (.bool nb)/\wr.cell? ⟨O,1,none⟩=some (.slice (some ⟨gd,j,none⟩) m c)/\wr.cell? ⟨O,2,none⟩=some (.int .i64 (sc:Nat))/\(∀ j,wr.frozen? ⟨O,j,none⟩=false)/\wr.cell? ⟨B,2,none⟩=some (.int .i64 (sc:Nat))/\dJ wr (B+1)/\wr.ownsRow B 5 1 (.slice (some ⟨gd,0,none⟩) n' cp) n' (xw d)/\Below B w wr/\xE (d.drop j)=r) (fun wr=>match wr.cell? ⟨O,1,none⟩ with|some (.slice _ n _)=>n|_=>0)
   case atStart=>exact⟨0,n',cp,by omega,by omega,Zk,c0,c1,c2,cz,cq,HR.out,HO.out,HBC.out,HD.out.2.2⟩
   case round =>
    clear c0 c1 c2 cz cq;obtain⟨j,m,c,e1,e2,e3,c0,c1,c2,cz,cq,hR,ho,hb,hv⟩:=hrel;obtain⟨dl1,dl2,-⟩:=HD.out;have U4:n'<=cp:=by
     rcases ho.2 with⟨hv,_⟩|⟨g2,uG,cur,hv,_,_,hh,_⟩
     ·cases hv
     ·cases hv;exact hh
    have hjd:j<d.length:=by omega
    have ph:=Yc ho hjd dl1;have xj:=kV (zY.1 dl2 _ (List.getElem_mem hjd));obtain⟨y,hy⟩:=xX (d[j].toNat - 48);rw[show((d[j].toNat:Int) - 48)=(y:Int) by omega] at ph;have hdd:(d.drop j).all xJ=true:=by
     rw[zY] at dl2 ⊢;exact fun x hx=>dl2 x (zJ hx)
    have uO:(d.drop j).length=m:=by rw[zE];omega
    have xc:d.drop j≠[]:=fun e=>by rw[e] at uO;simp at uO;omega
    have hdc:=List.drop_eq_getElem_cons hjd;by_cases hm:sc+1<m
    ·have k1:(sc:Int)+1<(m:Int):=by omega
     have k2:decide ((sc:Int)+1<(m:Int))=true:=decide_eq_true k1;by_cases h0:y=0
     ·subst h0;have TY:d[j]=48:=UInt8.toNat.inj (by show _=48;omega);have Pt:xE (d.drop (j+1))=r:=by
       rw[hdc,TY,qy] at hv;simpa using hv
      have xgd:¬(c=1):=by omega
      have qX:1<=c:=by omega
      have Vc:1<=m:=by omega
      have HQ:=z7 (z8 e1 (z8 e2 (z8 e3 (z8 hR (z8 ho (z8 hb Pt))))));have HM:=z7 hm;clear e1 e2 e3 hR ho hb Pt hv xj hy hdd uO xc hdc TY dl1 dl2 U4 hjd hm;go_wp2;obtain⟨e1,e2,e3,hR,ho,hb,Pt⟩:=HQ.out;have hm:=HM.out;refine⟨⟨j+1,m - 1,c - 1,by omega,by omega,by omega,by rw[xg,if_neg (by simp)];exact c0,vB c1 _,by rw[xg,if_neg (by simp)];exact c2,fun i=>by rw[zv];exact cz i,uZ cq _ (by show O≠B;omega),hR.other (by show O≠B+1;omega) _,xp ho (by simp[zx,Ne.symm hgO]) _,hb.setCell (by show B<=O;omega) _,Pt⟩,?_⟩;rw[vB c1,c1];show m - 1<m;omega
     ·have h0':((y:Int)==0)=false:=by simp;omega
      have HQ:=z7 (z8 e1 (z8 e2 (z8 hR (z8 ho (z8 hb (show fk (sc+1) (xI r)=d.drop j by
       rw[←hv];exact RI hdd xc (by omega) (.inr (by rw[hdc];intro q;apply h0;rw[←hy,show d[j]=48 from q];rfl))))))))
      clear e1 e2 e3 hR ho hb hv xj hy hdd uO xc hdc dl1 dl2 U4 hjd hm h0;go_wp2;go_meet
      obtain⟨e1,e2,hR,ho,hb,Pt⟩:=HQ.out;exact⟨j,m,c,e1,e2,c0,c1,c2,cz,hR,ho,hb,Pt⟩
    ·have k1:¬((sc:Int)+1<(m:Int)):=by omega
     have k2:decide ((sc:Int)+1<(m:Int))=false:=decide_eq_false k1;have HQ:=z7 (z8 e1 (z8 e2 (z8 hR (z8 ho (z8 hb (show fk (sc+1) (xI r)=d.drop j by
      rw[←hv];exact RI hdd xc (by omega) (.inl (by omega))))))))
     clear e1 e2 e3 hR ho hb hv xj hy hdd uO xc hdc dl1 dl2 U4 hjd hm ph;go_wp2;go_meet
     obtain⟨e1,e2,hR,ho,hb,Pt⟩:=HQ.out;exact⟨j,m,c,e1,e2,c0,c1,c2,cz,hR,ho,hb,Pt⟩
 case first =>
  obtain⟨l1,l2,d1,d2,v1,v2⟩:=HP.out
  cases neg
  ·by_cases xD:xE P1<xE P2
   ·have HM:=z7 (Bm P2 P1 sz cb ca ⟨gb,0,none⟩ ⟨ga,0,none⟩ rM l2 l1 (by omega) (by omega) d2 d1 (by omega) HB5.out HA5.out);have HVV:=z7 (z8 v1 v2);have kc:decide (cc<0)=true:=decide_eq_true (AZ.out.2 xD);clear l1 l2 d1 d2 v1 v2;go_wp2_with fail;refine HM.out.mono ?_;rintro e w6 ⟨⟨v6,d,rfl,Qm,hl6,Iu,Xu⟩,dE⟩;rw[Me.out] at Qm dE;obtain⟨g6,cp6,rfl,Ru,-,-⟩:=xl Qm (by omega);have e0:=(dE.cell (p:=⟨O,0,none⟩) (by show O<_;omega)).trans o0;have e1:=(dE.cell (p:=⟨O,1,none⟩) (by show O<_;omega)).trans o1;have e2:=(dE.cell (p:=⟨O,2,none⟩) (by show O<_;omega)).trans o2;have e3:=(dE.cell (p:=⟨B,2,none⟩) (by show B<_;omega)).trans u2;have ez:∀ j,w6.frozen? ⟨O,j,none⟩=false:=fun j=>(zX (dE.block O (by omega))).trans (fz j)
    have HOM:=z7 (ED.mk1 e0 e1 e2 ez e3 (HR5.out.below (by rw[Me.out];exact dE)) (by omega) (gP Qm (by omega)) (by omega) hl6 (by omega) (by omega) Iu Xu (rN.out.trans (dE.mono (by omega))) (by omega));clear Qm dE Xu Iu hl6 e3 fz o0 o1 o2 u0 u2;go_wp2;go_meet
    have NF:=Wh.out;try simp only at NF
    rw[HX.out.2.2,←HVV.out.1,←HVV.out.2] at NF;refine⟨true,_,HOM.out.X3 (by omega) (by omega) true,?_⟩;rw[NF,if_neg (by simp),if_pos xD,decide_eq_true (by omega)];rfl
   ·have HM:=z7 (Bm P1 P2 sz ca cb ⟨ga,0,none⟩ ⟨gb,0,none⟩ rM l1 l2 (by omega) (by omega) d1 d2 (by omega) HA5.out HB5.out);have HVV:=z7 (z8 v1 v2);have kc:decide (cc<0)=false:=decide_eq_false (fun q=>xD (AZ.out.1 q));clear l1 l2 d1 d2 v1 v2;go_wp2_with fail;refine HM.out.mono ?_;rintro e w6 ⟨⟨v6,d,rfl,Qm,hl6,Iu,Xu⟩,dE⟩;rw[Me.out] at Qm dE;obtain⟨g6,cp6,rfl,Ru,-,-⟩:=xl Qm (by omega);have e0:=(dE.cell (p:=⟨O,0,none⟩) (by show O<_;omega)).trans o0;have e1:=(dE.cell (p:=⟨O,1,none⟩) (by show O<_;omega)).trans o1;have e2:=(dE.cell (p:=⟨O,2,none⟩) (by show O<_;omega)).trans o2;have e3:=(dE.cell (p:=⟨B,2,none⟩) (by show B<_;omega)).trans u2;have ez:∀ j,w6.frozen? ⟨O,j,none⟩=false:=fun j=>(zX (dE.block O (by omega))).trans (fz j)
    have HOM:=z7 (ED.mk1 e0 e1 e2 ez e3 (HR5.out.below (by rw[Me.out];exact dE)) (by omega) (gP Qm (by omega)) (by omega) hl6 (by omega) (by omega) Iu Xu (rN.out.trans (dE.mono (by omega))) (by omega));clear Qm dE Xu Iu hl6 e3 fz o0 o1 o2 u0 u2;go_wp2;go_meet
    have NF:=Wh.out;try simp only at NF
    rw[HX.out.2.2,←HVV.out.1,←HVV.out.2] at NF;refine⟨false,_,HOM.out,?_⟩;rw[NF,if_neg (by simp),if_neg xD];rfl
  ·have HM:=z7 (eA P1 P2 sz ca cb ⟨ga,0,none⟩ ⟨gb,0,none⟩ rM l1 l2 (by omega) (by omega) d1 d2 HA5.out HB5.out);have HVV:=z7 (z8 v1 v2);clear l1 l2 d1 d2 v1 v2;go_wp2_with fail;refine HM.out.mono ?_;rintro e w6 ⟨⟨v6,d,rfl,Qm,hl6,Iu,Xu⟩,dE⟩;rw[Me.out] at Qm dE;obtain⟨g6,cp6,rfl,Ru,-,-⟩:=xl Qm (by omega);have e0:=(dE.cell (p:=⟨O,0,none⟩) (by show O<_;omega)).trans o0;have e1:=(dE.cell (p:=⟨O,1,none⟩) (by show O<_;omega)).trans o1;have e2:=(dE.cell (p:=⟨O,2,none⟩) (by show O<_;omega)).trans o2;have e3:=(dE.cell (p:=⟨B,2,none⟩) (by show B<_;omega)).trans u2;have ez:∀ j,w6.frozen? ⟨O,j,none⟩=false:=fun j=>(zX (dE.block O (by omega))).trans (fz j)
   have HOM:=z7 (ED.mk1 e0 e1 e2 ez e3 (HR5.out.below (by rw[Me.out];exact dE)) (by omega) (gP Qm (by omega)) (by omega) hl6 (by omega) (by omega) Iu Xu (rN.out.trans (dE.mono (by omega))) (by omega));clear Qm dE Xu Iu hl6 e3 fz o0 o1 o2 u0 u2;go_wp2;go_meet
   have NF:=Wh.out;try simp only at NF
   rw[HX.out.2.2,←HVV.out.1,←HVV.out.2] at NF;refine⟨true,_,HOM.out,?_⟩;rw[NF];simp
theorem iz(v:Value)(n:vq)(x:Nat)(w:World){M:Nat->Prop}(h:gT M w v n)(hx:x<=1000000000) :
  Calls Tryz.prog 134 #[v,.int .i64 (x:Nat)] w fun e w'=>e = .returned (.bool (dU n x))/\Below w.heap.size w w':=by
 have Jv:=h.num;obtain⟨neg,X⟩:=n;obtain⟨g,o,cap,rfl,-⟩:=h;simp only at Jv ⊢;have um:∀ ob,Below w.heap.size w (w.alloc ob):=fun ob=>(zG _ _).alloc (zQ _) _
 have HC:=fun ob=>z7 (Ju _ X x (w.alloc ob) (Jv.below (um ob)) hx)
 clear Jv
 cases neg
 ·obtain⟨cc,GX⟩:=xX (KX X x);have HS:=z7 (show dU (false,X) x=decide (cc=0) by unfold dU;rw[GX];rfl);rw[GX] at HC;clear GX;go_enter func134,ntmps134;go_wp2_with fail;refine(HC _).out.mono ?_;rintro e w1 ⟨rfl,xB⟩;have hb:=(um (.cells #[.bool false,.slice (some ⟨g,o,none⟩) (X.1.length+X.2.length) cap,.int .i64 X.2.length] 97)).trans (xB.mono (by simp));clear xB um HC;go_wp2;go_ret;rw[HS.out];exact⟨by first|rfl|(congr 2;simp) ,hb⟩
 ·have HS:=z7 (show dU (true,X) x=false from rfl);have hb:=um (.cells #[.bool true,.slice (some ⟨g,o,none⟩) (X.1.length+X.2.length) cap,.int .i64 X.2.length] 97);clear HC um;go_enter func134,ntmps134;go_wp2;go_ret;exact⟨by rw[HS.out];rfl,hb⟩
theorem iy:Zq Tryz.prog 195 272 (.agg #[.bool false,.slice none 0 0,.int .i64 0,.bool false,.slice none 0 0,.int .i64 0]) 6 80 :=
 ⟨underlying195,info_parts (by kernel_rfl),rfl,by decide,by decide⟩
def VR(nb:Bool)(g o n c k:Nat):List Value:=[.bool nb,.slice (some ⟨g,o,none⟩) n c,.int .i64 (k:Nat)]
abbrev LR(nb:Bool)(g o n c k:Nat):Value := .agg #[.bool nb,.slice (some ⟨g,o,none⟩) n c,.int .i64 (k:Nat)]
abbrev rO(b:Nat)(st:Value)(k:Nat):Prop:=k=b\/xZ st k
section
variable {b:Nat} {x0 x1 x2 st v:Value} {l:Wd} {w w':World}
theorem uh.stk(h:uh b x0 x1 x2 st v l w)(RP:Value):uh b x0 x1 x2 RP v l (w.setCell ⟨b,5,none⟩ RP):=by
 obtain⟨p,h1,h2,h3,h4,h5⟩:=h;exact⟨p,h1,by simp[zR,Array.getElem?_modify,h2],xp h3 (fun e=>h4 e.symm) _,h4,h5⟩
theorem uh.c5(h:uh b x0 x1 x2 st v l w):w.cell? ⟨b,5,none⟩=some st:=h.cell.2.2.2.1
theorem uh.z(h:uh b x0 x1 x2 st v l w)(j:Nat):w.frozen? ⟨b,j,none⟩=false:=h.cell.2.2.2.2 j
def LS(b:Nat)(x0 x1 x2 st v:Value)(l:Wd)(n:Nat)(cs:List Value)(w w':World):Prop :=
 ∃ RP,uh b x0 x1 x2 RP v l w'/\w'.ownsRow 0 272 6 RP n cs/\RP.ownBlock≠some b/\(∀ g,xZ v g->¬xZ RP g)/\Fr (rO b st) (rO b RP) w w'
theorem iu(h:uh b x0 x1 x2 st v l w){n:Nat}{cs:List Value}(vH:w.ownsRow 0 272 6 st n cs)(ZO:st.ownBlock≠some b)(Yw:∀ g,xZ v g->¬xZ st g)(hn:n<=1000000)(nb zb:Bool)(g o m c k g' o' m' c' k':Nat) :
  Calls Tryz.prog 130 #[.pointer (some ⟨b,5,none⟩),.agg #[.bool nb,.slice (some ⟨g,o,none⟩) m c,.int .i64 (k:Nat),.bool zb,.slice (some ⟨g',o',none⟩) m' c',.int .i64 (k':Nat)]] w fun e w'=>e = .returned (.tuple #[])/\LS b x0 x1 x2 st v l (n+1) (cs++(VR nb g o m c k++VR zb g' o' m' c' k')) w w':=by
 have HH:=z7 h;have xD:=h.lt;obtain⟨W,hW⟩:=xX (w.alloc (.cells #[.bool nb,.slice (some ⟨g,o,none⟩) m c,.int .i64 (k:Nat),.bool zb,.slice (some ⟨g',o',none⟩) m' c',.int .i64 (k':Nat)] 272));have hb:Below w.heap.size w W:=by rw[←hW];exact(zG _ _).alloc (zQ _) _
 have VQ:Fr xH xH w W:=Fr.of hb;have hWs:W.heap.size=w.heap.size+1:=by rw[←hW];simp
 have hOW:=h.fr VQ id (fun _ _ q=>q);have c5:=hOW.c5;have hc:∀ j,W.cell? ⟨w.heap.size,j,none⟩=(#[zI nb,.slice (some ⟨g,o,none⟩) m c,.int .i64 (k:Nat),.bool zb,.slice (some ⟨g',o',none⟩) m' c',.int .i64 (k':Nat)]:Array Value)[j]? := fun j=>by rw[←hW];exact xu _ _ _ _ _
 have e0:=hc 0;have e1:=hc 1;have e2:=hc 2;have e3:=hc 3;have e4:=hc 4;have e5:=hc 5;simp only[zg,zu,zk] at e0 e1 e2 e3 e4 e5;obtain⟨B,hB⟩:=xX w.heap.size;rw[hB] at e0 e1 e2 e3 e4 e5 hWs xD;have hoW:=VQ.own vH (fun _ _ q=>q);obtain⟨sa,sc,rfl⟩:=xd vH;have HO:=z7 hoW;have Vo:=z7 VQ;have L7:=z7 hOW;have JH:=z7 Yw;have HSB:=z7 ZO;have jX:=z7 vH;clear h hb VQ hOW hc vH Yw ZO hoW;go_enter func130,ntmps130;go_wp2_with fail;try rw[hB]
 have HWE:=z7 hW;have O8:=z7 hB;have Wo:=z7 hWs;clear hW hB hWs;refine rk (fun W':World=>W'.cell? ⟨b,5,none⟩=some (.slice sa n sc)/\W'.cell? ⟨B,0,none⟩=some (.bool nb)/\W'.cell? ⟨B,1,none⟩=some (.slice (some ⟨g,o,none⟩) m c)/\W'.cell? ⟨B,2,none⟩=some (.int .i64 (k:Nat))/\W'.cell? ⟨B,3,none⟩=some (.bool zb)/\W'.cell? ⟨B,4,none⟩=some (.slice (some ⟨g',o',none⟩) m' c')/\W'.cell? ⟨B,5,none⟩=some (.int .i64 (k':Nat))) 10 [0,1,2,3,4,5] 5 ⟨c5,e0,e1,e2,e3,e4,e5⟩ ?_;(iterate 6 (refine ty ?_;try simp only[pl]))
 refine xq ?_;refine Xf 6 (fun J hJ=>?_);go_simp;refine hJ.out _ _ ⟨xQ c5 _,xQ e0 _,xQ e1 _,xQ e2 _,xQ e3 _,xQ e4 _,xQ e5 _⟩ fun _=>?_
 clear hJ J;refine Xf 7 (fun J hJ=>?_);rw[if_pos (by rfl)];change Oper.wp _ _ _ (W.drew.alloc (.cells [_,_,_,_,_,_].toArray _)) _ _
 refine Xg iy [_,_,_,_,_,_] 1 (by exact HO.out) (by omega) ?_;intro v2 w2 QW vu;have vu:=vu.und;have nb':¬xZ (.slice sa n sc) b:=fun e=>HSB.out e
 have nB:¬xZ (.slice sa n sc) B:=fun e=>by have:=ud jX.out e;have:=O8.out;omega
 have f0:=vu.cell c5 nb';have f1:=vu.cell e0 nB;have f2:=vu.cell e1 nB;have f3:=vu.cell e2 nB;have f4:=vu.cell e3 nB;have f5:=vu.cell e4 nB;have f6:=vu.cell e5 nB;have z2:w2.frozen? ⟨b,5,none⟩=false:=(vu.frozen (zZ _ _ c5) nb').trans (L7.out.z 5);have nb2:v2.ownBlock≠some b:=fun e=>(vu.fp b e).elim nb' (fun q=>by have:=Wo.out;omega)
 have hO2:uh b x0 x1 x2 v2 v l (w2.setCell ⟨b,5,none⟩ v2):=(L7.out.fr vu nb' (fun g hg=>JH.out g hg)).stk v2;have vA:Fr (rO b (.slice sa n sc)) (rO b v2) w (w2.setCell ⟨b,5,none⟩ v2):=by
  have h1:Fr (rO b (.slice sa n sc)) (rO b (.slice sa n sc)) w w2:=(Vo.out.wide (G:=rO b (.slice sa n sc)) (fun _ q=>q.elim)).trans (vu.wide (fun k hk => .inr hk));refine(h1.set (a:=⟨b,5,none⟩) v2 (.inl (.inl rfl))).tg (fun k hk=>?_);rcases hk with rfl|hk
  ·exact .inl (.inl rfl)
  ·exact(vu.fp k hk).elim (fun q => .inl (.inr q)) (fun q => .inr (by have:=Vo.out.size;omega))
 have HQ:=z7 (show LS b x0 x1 x2 (.slice sa n sc) v l (n+1) (cs++(VR nb g o m c k++VR zb g' o' m' c' k')) w (w2.setCell ⟨b,5,none⟩ v2) from
  ⟨v2,hO2,xp QW (fun e=>nb2 e.symm) _,nb2,fun g hg e=>(vu.fp g e).elim (JH.out g hg) (fun q=>by have:=ud L7.out.row hg;omega),vA⟩)
 obtain⟨a2,cc2,rfl⟩:=xd QW;clear QW vu hO2 vA nb2;go_simp;refine hJ.out _ _ ⟨f0,f1,f2,f3,f4,f5,f6⟩ fun _=>?_
 clear hJ J;refine kx [8,9] 1 rfl (by intro _ _ d _ _ h;cases d<;>exact h) (by kernel_rfl) (by kernel_rfl) ⟨f0,f1,f2,f3,f4,f5,f6⟩ ?_;(iterate 2 (refine ty ?_;try simp only[pl]))
 refine xq ?_;refine DJ 10 (fun J hJ=>?_);go_simp;refine hJ.out _ _ ?_;clear hJ J;refine DG ?_ _;go_wp2;go_end0
 exact⟨rfl,HQ.out⟩
theorem iq{base e size g n c:Nat}{w:World}{xs:List Value}(h:w.ownsRow base e size (.slice (some ⟨g,0,none⟩) (n+1) c) (n+1) xs):w.ownsRow base e size (.slice (some ⟨g,0,none⟩) n c) n (xs.take (n*size)):=by
 rcases h with⟨h1,h2⟩;rcases h2 with⟨hv,_⟩|⟨g2,uG,cur,hv,k1,k2,k3,k4,k5,k6⟩
 ·cases hv
 ·cases hv;refine⟨by rw[zl,h1,Nat.succ_mul];omega,.inr ⟨g,c,cur,rfl,k1,k2,by omega,k4,k5,?_⟩⟩;rw[←k6,List.take_take,Nat.min_eq_left (Nat.mul_le_mul_right _ (by omega))]
theorem rP(h:uh b x0 x1 x2 st v l w){n:Nat}{cs tp:List Value}(vH:w.ownsRow 0 272 6 st (n+1) (cs++tp))(dB:cs.length=n*6)(ZO:st.ownBlock≠some b)(Yw:∀ g,xZ v g->¬xZ st g)(hn:n<=1000000) :
  Calls Tryz.prog 132 #[.pointer (some ⟨b,5,none⟩)] w fun e w'=>e = .returned (.tuple #[])/\LS b x0 x1 x2 st v l n cs w w':=by
 obtain⟨g,c,rfl,-,hgl,-⟩:=xl vH (by omega);have c5:=h.c5;have z5:=h.z 5;have ho:=iq vH;rw[←dB,zP] at ho;have dQ:n+1<=c:=by
  rcases vH.2 with⟨hv,_⟩|⟨g2,uG,cur,hv,_,_,hh,_⟩
  ·cases hv
  ·cases hv;exact hh
 have DL:b≠g:=fun e=>ZO (by simp[zx,e])
 have HQ:=z7 (show LS b x0 x1 x2 (.slice (some ⟨g,0,none⟩) (n+1) c) v l n cs w (w.setCell ⟨b,5,none⟩ (.slice (some ⟨g,0,none⟩) n c)) from
  ⟨_,h.stk _,xp ho (by simpa[zx] using DL) _,by simpa[zx] using Ne.symm DL,Yw,(Fr.refl _ _).set (a:=⟨b,5,none⟩) _ (.inl (.inl rfl))⟩)
 have k1:((n:Int)+1) - 1=(n:Int):=by omega
 have kw:zO.wrap (n:Int)=(n:Int):=by rw[zN];omega
 have k2:n<=c:=by omega
 have k3:(n:Int)<=(c:Int):=by omega
 clear h vH ho ZO Yw dQ dB hgl;go_enter func132,ntmps132;go_wp2_with fail;refine rk (fun W':World=>W'.cell? ⟨b,5,none⟩=some (.slice (some ⟨g,0,none⟩) (n+1) c)) 14 (zV 14) 1 c5 ?_;(iterate 14 (refine ty ?_;try simp only[pl]))
 refine xq ?_;refine DJ 14 (fun J hJ=>?_);go_simp;refine hJ.out _ _ ?_;clear hJ J;refine DG ?_ _;go_wp2;go_end0
 obtain⟨RP,a1,a2,a3,a4,a5⟩:=HQ.out;exact⟨rfl,RP,a1,a2,a3,a4,a5.drew⟩
theorem Jw(h:uh b x0 x1 x2 st v l w){n:Nat}{cs:List Value}(nb zb:Bool)(g o m c k g' o' m' c' k':Nat)(vH:w.ownsRow 0 272 6 st (n+1) (cs++(VR nb g o m c k++VR zb g' o' m' c' k')))(dB:cs.length=n*6)(hn:n<=1000000) :
  Calls Tryz.prog 133 #[.pointer (some ⟨b,5,none⟩)] w fun e w' =>
   e = .returned (.agg #[.bool nb,.slice (some ⟨g,o,none⟩) m c,.int .i64 (k:Nat),.bool zb,.slice (some ⟨g',o',none⟩) m' c',.int .i64 (k':Nat)])/\Below w.heap.size w w':=by
 obtain⟨q,cp,rfl,-,hql,hc⟩:=xl vH (by omega);have c5:=xQ h.c5 (.cells #[.bool false,.slice none 0 0,.int .i64 0,.bool false,.slice none 0 0,.int .i64 0] 272);have cc:∀ j,j<6->(w.alloc (.cells #[.bool false,.slice none 0 0,.int .i64 0,.bool false,.slice none 0 0,.int .i64 0] 272)).cell? ⟨q,n*6+j,none⟩=(VR nb g o m c k++VR zb g' o' m' c' k')[j]? := fun j hj=>by
  rw[zf _ _ _ hql,hc _ (by omega),List.getElem?_append_right (by omega),dB,Nat.add_sub_cancel_left]
 have e0:=cc 0 (by omega);have e1:=cc 1 (by omega);have e2:=cc 2 (by omega);have e3:=cc 3 (by omega);have e4:=cc 4 (by omega);have e5:=cc 5 (by omega);simp only[VR,List.cons_append,List.nil_append,zu,zk,Nat.add_zero] at e0 e1 e2 e3 e4 e5;have k1:((n:Int)+1) - 1=(n:Int):=by omega
 have kw:zO.wrap (n:Int)=(n:Int):=by rw[zN];omega
 have k2:(n:Int)<(n:Int)+1:=by omega
 obtain⟨W,hW⟩:=xX (w.alloc (.cells #[.bool false,.slice none 0 0,.int .i64 0,.bool false,.slice none 0 0,.int .i64 0] 272));rw[hW] at c5 e0 e1 e2 e3 e4 e5;have hb:Below w.heap.size w W:=by rw[←hW];exact(zG _ _).alloc (zQ _) _
 have hr:∀ j,W.cell? ⟨w.heap.size,j,none⟩=(#[zI false,.slice none 0 0,.int .i64 0,.bool false,.slice none 0 0,.int .i64 0]:Array Value)[j]? := fun j=>by rw[←hW];exact xu _ _ _ _ _
 have hz:∀ j,W.frozen? ⟨w.heap.size,j,none⟩=false:=fun j=>by rw[←hW];simp
 clear h vH hc cc dB;go_enter func133,ntmps133;go_wp2_with fail;try rw[hW]
 obtain⟨B,hB⟩:=xX w.heap.size;rw[hB] at hr hz hb ⊢;have r0:=hr 0;have r1:=hr 1;have r2:=hr 2;have r3:=hr 3;have r4:=hr 4;have r5:=hr 5;simp only[zg,zu,zk] at r0 r1 r2 r3 r4 r5;clear hr hW;refine rk (fun W':World=>W'.cell? ⟨b,5,none⟩=some (.slice (some ⟨q,0,none⟩) (n+1) cp)/\W'.cell? ⟨q,n*6,none⟩=some (.bool nb)/\W'.cell? ⟨q,n*6+1,none⟩=some (.slice (some ⟨g,o,none⟩) m c)/\W'.cell? ⟨q,n*6+2,none⟩=some (.int .i64 (k:Nat))/\W'.cell? ⟨q,n*6+3,none⟩=some (.bool zb)/\W'.cell? ⟨q,n*6+4,none⟩=some (.slice (some ⟨g',o',none⟩) m' c')/\W'.cell? ⟨q,n*6+5,none⟩=some (.int .i64 (k':Nat))) 12 (zV 12) 1 ⟨c5,e0,e1,e2,e3,e4,e5⟩ ?_;(iterate 12 (refine ty ?_;try simp only[pl]))
 refine xq ?_;refine DJ 12 (fun J hJ=>?_);go_simp;refine hJ.out _ _ ?_;clear hJ J;refine DG ?_ _;go_wp2;refine bodyPost_ret (v := .agg #[.bool nb,.slice (some ⟨g,o,none⟩) m c,.int .i64 (k:Nat),.bool zb,.slice (some ⟨g',o',none⟩) m' c',.int .i64 (k':Nat)]) ?_ rfl ?_
 ·simp[results,results133,go_sem,r0,r1,r2,r3,r4,r5]
 ·refine⟨rfl,?_⟩;rw[hB];(repeat(first|(with_reducible exact hb)|(with_reducible refine Below.drew ?_)|(with_reducible refine Below.setCell ?_ ?_ _;rotate_left;focus(exact zQ _))))
end
def zjd(o:zqg)(e:Ending):Prop :=
 match o with
 | .no=>∃ t b,e = .returned (.tuple #[.agg #[xk t,.bool b],.bool false])
 | .val t num=>t.length<=1000000/\e = .returned (.tuple #[.agg #[xk t,.bool num],.bool true])
 | .zqf=>False
section
variable {τ:Type}
def zp7(E:qL τ)(F S:τ->Nat->Prop)(Inv:τ->World->Prop)(n:Wd)(s:τ)(w:World)(e:Ending)(w':World):Prop :=
 zjd (E.get n s).1 e/\Inv (E.get n s).2 w'/\Fr (F s) (F (E.get n s).2) w w'/\∀ k,S (E.get n s).2 k->S s k\/w.heap.size<=k
structure EB(gv:Value)(E:qL τ)(F S:τ->Nat->Prop)(Inv:τ->World->Prop):Prop where
 call:∃ K cp,gv = .func (.func K) #[] cp/\(∀ args w,(callFunc K args).run Tryz.prog w = .ok (.enter K args) w)/\∀ W s n,Inv s W->n.length<=5000000->Calls Tryz.prog K (#[xk n]++cp) W (zp7 E F S Inv n s W)
 sub:∀ s k,F s k->S s k
 EC:∀ s W k,Inv s W->S s k->k<W.heap.size
 keep:∀ s W W',Inv s W->W.heap.size<=W'.heap.size->(∀ k,S s k->W'.heap[k]? = W.heap[k]?)->Inv s W'
theorem EB.fr{gv:Value}{E:qL τ}{F S:τ->Nat->Prop}{Inv:τ->World->Prop}(h:EB gv E F S Inv){s:τ}{w w':World}{D D':Nat->Prop}(hi:Inv s w)(hf:Fr D D' w w')(hd:∀ k,D k->¬S s k):Inv s w' :=
 h.keep s w w' hi hf.size (fun k hk=>hf.keep k (h.EC s w k hi hk) (fun q=>hd k q hk))
theorem Ol(A:Nat)(w:World)(hA:w.cell? ⟨A,0,none⟩=some (.bool true)):CallsD Tryz.prog 207 #[.pointer (some ⟨A,0,none⟩)] .returning w fun e u' w'=>e = .returned (.tuple #[])/\u' = .returning/\w'=w:=by
 refine callsD_of_wpS func207 rfl fun c₀ cs hu=>?_
 apply wpS_seq;apply wpS_region;simp[wpOpsS,go_sem,hu,hA,ntmps207,Exit.thenS];refine wpS_of_wp ?_;go_wp2
 cases c₀;simp_all [bodyPostS,results,results207]
theorem rR{gv:Value}{E:qL τ}{F S:τ->Nat->Prop}{Inv:τ->World->Prop}(hg:EB gv E F S Inv)(b:Nat)(n:Wd)(s:τ)(w:World)(c2:w.cell? ⟨b,2,none⟩=some gv)(hi:Inv s w)(hn:n.length<=5000000) :
  Calls Tryz.prog 165 #[.pointer (some ⟨b,0,none⟩),xk n] w (zp7 E F S Inv n s w):=by
 obtain⟨K,cp,rfl,CQ,vY⟩:=hg.call;have Sk:∀ (fn:Fn) (first cap:Array Value) (w:World),(Instr.makeFunc fn first cap).run Tryz.prog w = .ok (.func fn first cap) w:=fun _ _ _ _=>rfl
 obtain⟨A,hA⟩:=xX w.heap.size;obtain⟨V,hV⟩:=xX (((w.alloc (.cells #[.string ⟨#[]⟩,.bool false] 86)).alloc (.cells #[.bool false] 4)));obtain⟨W,hW⟩:=xX (V.setCell ⟨A+1,0,none⟩ (.bool false));have s1:(w.alloc (.cells #[.string ⟨#[]⟩,.bool false] 86)).heap.size=A+1:=by simp[hA]
 have VQ:Fr xH xH w W:=by
  rw[←hW,←hV];exact(((Fr.refl _ _).alloc _).alloc _).set _ (.inr (by rw[hA];exact zL _))
 have c2W:=VQ.cell c2 id;have Tl:W.heap.size=A+2:=by rw[←hW,←hV];simp[hA,zR]
 have v0:V.cell? ⟨A,0,none⟩=some (.string ⟨#[]⟩):=by rw[←hV,zf _ _ _ (by show A<_;omega),←hA];exact xu _ _ _ _ _
 have v1:V.cell? ⟨A,1,none⟩=some (.bool false):=by rw[←hV,zf _ _ _ (by show A<_;omega),←hA];exact xu _ _ _ _ _
 have v2:V.cell? ⟨A+1,0,none⟩=some (.bool false):=by rw[←hV,←s1];exact xu _ _ _ _ _
 have y0:∀ j,V.frozen? ⟨A,j,none⟩=false:=fun j=>by rw[←hV,zX (Below.heap_alloc _ _ _ (by show A<_;omega)),←hA];simp
 have y2:∀ j,V.frozen? ⟨A+1,j,none⟩=false:=fun j=>by rw[←hV,←s1];simp
 have a0:W.cell? ⟨A,0,none⟩=some (.string ⟨#[]⟩):=by rw[←hW];exact uZ v0 _ (by show A+1≠A;omega)
 have a1:W.cell? ⟨A,1,none⟩=some (.bool false):=by rw[←hW];exact uZ v1 _ (by show A+1≠A;omega)
 have a2:W.cell? ⟨A+1,0,none⟩=some (.bool false):=by rw[←hW];exact vB v2 _
 have z0:∀ j,W.frozen? ⟨A,j,none⟩=false:=fun j=>by rw[←hW,zv];exact y0 j
 have z2:∀ j,W.frozen? ⟨A+1,j,none⟩=false:=fun j=>by rw[←hW,zv];exact y2 j
 have c2V:V.cell? ⟨b,2,none⟩=some (.func (.func K) #[] cp):=by
  have:Fr xH xH w V:=by rw[←hV];exact((Fr.refl _ _).alloc _).alloc _
  exact this.cell c2 id
 have hsV:V.heap.size=A+2:=by rw[←hV];simp[hA]
 have hiW:=hg.fr hi VQ (fun _ q=>q.elim);have HC:=z7 (vY W s n hiW hn);have Vo:=z7 VQ;have HG:=z7 hg;have HSU:=z7 (fun k (hk:S s k)=>hg.EC s w k hi hk);have HSB:=z7 hg.sub;have HA:=z7 hA;have CH:=z7 Tl;clear VQ vY hiW c2 hi hg s1 Tl;go_enter_defers func165,ntmps165
 go_wp2_with fail;try rw[hW]
 clear hW hV v0 v1 v2 y0 y2 hsV c2V hA;refine HC.out.mono ?_;rintro e w1 ⟨hr,UN,uy,uL⟩;have hAS:∀ k,A<=k->¬S s k:=fun k hk q=>by have:=HSU.out k q;have:=HA.out;omega
 have nA:¬F s A:=fun q=>hAS A (zQ _) (HSB.out _ _ q)
 have nA1:¬F s (A+1):=fun q=>hAS (A+1) (by omega) (HSB.out _ _ q)
 have b0:=uy.cell a0 nA;have b1:=uy.cell a1 nA;have b2:=uy.cell a2 nA1;have k0:∀ j,w1.frozen? ⟨A,j,none⟩=false:=fun j=>(uy.frozen (a:=⟨A,j,none⟩) (by show A<_;have:=CH.out;omega) nA).trans (z0 j)
 have k2:∀ j,w1.frozen? ⟨A+1,j,none⟩=false:=fun j=>(uy.frozen (a:=⟨A+1,j,none⟩) (by show A+1<_;have:=CH.out;omega) nA1).trans (z2 j)
 obtain⟨t,bb,ok,rfl⟩:∃ t bb ok,e = .returned (.tuple #[.agg #[xk t,.bool bb],.bool ok]):=by
  unfold zjd at hr;split at hr
  ·obtain⟨t,b,h⟩:=hr;exact⟨t,b,_,h⟩
  ·exact⟨_,_,_,hr.2⟩
  ·exact hr.elim
 have HR:=z7 hr;have HI:=z7 (z8 UN (z8 uy uL));have HAS:=z7 hAS;clear hr UN uy uL hAS nA nA1 a0 a1 a2 z0 z2 HC;go_wp2_with fail;obtain⟨X,hX⟩:=xX ((((((w1.setCell ⟨A,0,none⟩ (xk t)).setCell ⟨A,1,none⟩ (.bool bb)).setCell ⟨A+1,0,none⟩ (.bool true)).setCell ⟨A,0,none⟩ (xk t)).setCell ⟨A,1,none⟩ (.bool bb)));rw[hX];have n01:(⟨A,0,none⟩:Addr)≠⟨A,1,none⟩:=by simp
 have e2:X.cell? ⟨A+1,0,none⟩=some (.bool true):=by
  rw[←hX];exact uZ (uZ (vB (uZ (uZ b2 _ (by simp)) _ (by simp)) _) _ (by simp)) _ (by simp)
 have e0:X.cell? ⟨A,0,none⟩=some (xk t):=by
  rw[←hX,xg,if_neg (by simp)];refine vB (v:=xk t) ?_ _;refine uZ ?_ _ (by simp);rw[xg,if_neg (by simp)];exact vB b0 _
 have e1:X.cell? ⟨A,1,none⟩=some (.bool bb):=by
  rw[←hX];refine vB (v := .bool bb) ?_ _;rw[xg,if_neg (by simp)];refine uZ ?_ _ (by simp);refine vB (v := .bool false) ?_ _;rw[xg,if_neg (by simp)];exact b1
 have hXf:Fr (fun k=>k=A\/k=A+1) (fun k=>k=A\/k=A+1) w1 X:=by
  rw[←hX];exact(((((Fr.refl _ _).set _ (.inl (.inl rfl))).set _ (.inl (.inl rfl))).set _ (.inl (.inr rfl))).set _ (.inl (.inl rfl))).set _ (.inl (.inl rfl))
 clear hX;refine leaves_cons (f:=207) (args:=#[.pointer (some ⟨A+1,0,none⟩)]) (by simp) (by simp[go_sem]) ?_;refine(Ol (A+1) _ e2).mono ?_;rintro e u' Vx ⟨rfl,rfl,rfl⟩;simp[Leaves,settle,results,results165,go_sem,e0,e1];obtain⟨UN,uy,uL⟩:=HI.out;have hsS:∀ k,(k=A\/k=A+1)->¬S (E.get n s).2 k:=by
  intro k hk q;rcases uL k q with q|q
  ·exact HAS.out k (by omega) q
  ·have:=CH.out;omega
 refine⟨HR.out,HG.out.fr UN hXf hsS,?_,fun k hk=>(uL k hk).imp id (fun q=>by have:=CH.out;have:=HA.out;omega)⟩;have h1:Fr (F s) (F (E.get n s).2) w w1:=((Vo.out.wide (G:=F s) (fun _ q=>q.elim)).trans uy);exact⟨hXf.os.trans h1.os,hXf.tape.trans h1.tape,hXf.output.trans h1.output,Nat.le_trans h1.size hXf.size,fun k hk hn=>(hXf.keep k (zF hk h1.size) (fun q=>by have:=HA.out;omega)).trans (h1.keep k hk hn),h1.fp⟩
end
theorem Bn(t:Wd)(num:Bool)(w:World)(ht:t.length<=1000000) :
  Calls Tryz.prog 84 #[.agg #[xk t,.bool num]] w fun e w'=>e = .returned (.bool (fG t num))/\Below w.heap.size w w':=by
 have hb:∀ ob,Below w.heap.size w (w.alloc ob):=fun ob=>(zG _ _).alloc (zQ _) _
 have qP:(⟨t.toArray⟩:ByteArray).size=t.length:=size_mk _
 cases num
 ·have k1:((t.length:Int)<=60)=(t.length<=60):=by simp only[eq_iff_iff];omega
  have HS:=z7 (show fG t false=decide (t.length<=60) from rfl);have HB:=z7 (hb (.cells #[xk t,.bool false] 86));clear hb;go_enter func84,ntmps84;go_wp2;go_ret;rw[HS.out];exact⟨by simp,HB.out⟩
 ·have HS:=z7 (show fG t true=uD t from rfl);have HP:=fun ob=>z7 (Y4 ⟨t.toArray⟩ (w.alloc ob) (by rw[qP];exact ht))
  go_enter func84,ntmps84;go_wp2_with fail;refine(HP _).out.mono ?_;rintro e w1 ⟨b,v,k,rfl,⟨va,vn,vk,rfl⟩,xB,-⟩;have HB:=z7 ((hb _).trans (xB.mono (by simp)));clear hb xB HP;go_wp2;go_ret;rw[HS.out];exact⟨rfl,HB.out.alloc HB.out.size _⟩
structure B0(b q j:Nat)(n:Wd)(w:World):Prop where
 b0:w.cell? ⟨b,0,none⟩=some (.pointer (some ⟨q,0,none⟩))
 c:∃ C m cc,w.cell? ⟨q,0,none⟩=some (.slice (some ⟨C,0,none⟩) m cc)/\w.cell? ⟨C,j,none⟩=some (xk n)/\j<m/\m<=1000000
theorem B0.fr{b q j:Nat}{n:Wd}{w w':World}{D D':Nat->Prop}(h:B0 b q j n w)(hf:Fr D D' w w')(hd:∀ k,¬D k):B0 b q j n w':=by
 obtain⟨b0,C,m,cc,h1,h2,h3⟩:=h;exact⟨hf.cell b0 (hd _),C,m,cc,hf.cell h1 (hd _),hf.cell h2 (hd _),h3⟩
def zg0(n:Nat)(e:Ending):Prop:=∃ uE:List PanicEntry,e = .panicked ({ v:=qW n,recovered:=false }::uE)/\uE.dropWhile (!·.goexit)=[]
section
variable {τ:Type}
def Xn{α:Type}(F S:τ->Nat->Prop)(Inv:τ->World->Prop)(s:τ)(w:World)(ok:α->τ->World->Ending->Prop)(r:Except (Nat×τ) (α×τ))(e:Ending)(w':World):Prop :=
 match r with
 | .ok (a,s')=>ok a s' w' e/\Inv s' w'/\Fr (F s) (F s') w w'/\∀ k,S s' k->S s k\/w.heap.size<=k
 | .error (n,s')=>zg0 n e/\Inv s' w'/\Fr (F s) (F s') w w'/\∀ k,S s' k->S s k\/w.heap.size<=k
theorem Xn.more{gv:Value}{E:qL τ}{F S:τ->Nat->Prop}{Inv:τ->World->Prop}(hg:EB gv E F S Inv){s s':τ}{w w1 w2:World}{D D':Nat->Prop}(h:Inv s' w1/\Fr (F s) (F s') w w1/\∀ k,S s' k->S s k\/w.heap.size<=k)(hf:Fr D D' w1 w2)(hd:∀ k,D k->¬S s' k/\w.heap.size<=k):Inv s' w2/\Fr (F s) (F s') w w2/\∀ k,S s' k->S s k\/w.heap.size<=k :=
 ⟨hg.fr h.1 hf (fun k q=>(hd k q).1),⟨hf.os.trans h.2.1.os,hf.tape.trans h.2.1.tape,hf.output.trans h.2.1.output,Nat.le_trans h.2.1.size hf.size,fun k hk hn=>(hf.keep k (zF hk h.2.1.size) (fun q=>by have:=(hd k q).2;omega)).trans (h.2.1.keep k hk hn),h.2.1.fp⟩,h.2.2⟩
def ycq(a:Wd×Bool)(_:τ)(_:World)(e:Ending):Prop:=a.1.length<=1000000/\e = .returned (.agg #[xk a.1,.bool a.2])
theorem EE{gv:Value}{E:qL τ}{F S:τ->Nat->Prop}{Inv:τ->World->Prop}(hg:EB gv E F S Inv)(b q j:Nat)(n:Wd)(s:τ)(w:World)(c2:w.cell? ⟨b,2,none⟩=some gv)(hc:B0 b q j n w)(hi:Inv s w)(hn:n.length<=5000000) :
  Calls Tryz.prog 127 #[.pointer (some ⟨b,0,none⟩),.int .i64 (j:Nat)] w (Xn F S Inv s w ycq (YL E n s)):=by
 obtain⟨W,hW⟩:=xX (w.alloc (.cells #[.string ⟨#[]⟩,.bool false] 86));have VQ:Fr xH xH w W:=by rw[←hW];exact(Fr.refl _ _).alloc _
 obtain⟨A,hA⟩:=xX w.heap.size;have a0:W.cell? ⟨A,0,none⟩=some (.string ⟨#[]⟩):=by rw[←hW,←hA];exact xu _ _ _ _ _
 have a1:W.cell? ⟨A,1,none⟩=some (.bool false):=by rw[←hW,←hA];exact xu _ _ _ _ _
 have z0:∀ j,W.frozen? ⟨A,j,none⟩=false:=fun j=>by rw[←hW,←hA];simp
 have Tl:W.heap.size=A+1:=by rw[←hW];simp[hA]
 have ik:∀ k,S s k->k<A:=fun k hk=>by rw[←hA];exact hg.EC s w k hi hk
 have hiW:=hg.fr hi VQ (fun _ q=>q.elim);obtain⟨b0,C,m,cc,q0,cj,hjm,hm⟩:=hc.fr VQ (fun _ q=>q);have HAK:=z7 (rR hg b n s W (VQ.cell c2 id) hiW hn);have k1:(j:Int)<(m:Int):=by omega
 have Vo:=z7 VQ;have HG:=z7 hg;have HSU:=z7 ik;have CH:=z7 Tl;clear VQ hiW c2 hc hi hg ik Tl;go_enter func127,ntmps127;go_wp2_with fail;refine HAK.out.mono ?_;rintro e w1 ⟨hr,UN,uy,uL⟩;have nA:¬F s A:=fun q=>by have:=HSU.out A (HG.out.sub _ _ q);omega
 have b0':=uy.cell a0 nA;have b1':=uy.cell a1 nA;have y0:∀ j,w1.frozen? ⟨A,j,none⟩=false:=fun j=>(uy.frozen (a:=⟨A,j,none⟩) (by show A<_;have:=CH.out;omega) nA).trans (z0 j)
 obtain⟨⟨o,s'⟩,ho⟩:∃ p,E.get n s=p:=⟨_,rfl⟩;rw[ho] at hr UN uy uL;have hFw:Fr (F s) (F s') w w1:=(Vo.out.wide (G:=F s) (fun _ q=>q.elim)).trans uy;have hSw:∀ k,S s' k->S s k\/w.heap.size<=k:=fun k hk=>(uL k hk).imp id (fun q=>by have:=Vo.out.size;omega)
 have HO:=z7 ho;have HI:=z7 (z8 UN (z8 hFw hSw));have zp8:¬S s' A:=fun q=>(uL A q).elim (fun q=>by have:=HSU.out A q;omega) (fun q=>by have:=CH.out;omega)
 have HAS:=z7 zp8;clear UN uy uL hFw hSw ho HAK a0 a1 z0 b0 q0 cj nA zp8
 cases o with
 | zqf=>exact hr.elim
 | no =>
  obtain⟨t,bb,rfl⟩:=hr;have HR:=z7 (show YL E n s = .error (12,s') by unfold YL;rw[HO.out]);go_wp2;refine⟨rfl,?_⟩;rw[HR.out];exact⟨⟨[],rfl,rfl⟩,Xn.more HG.out HI.out ((Fr.refl xH _).alloc _) (fun _ q=>q.elim)⟩
 | val t num =>
  obtain⟨ht,rfl⟩:=hr;have HT:=z7 ht;have HV:=fun W=>z7 (Bn t num W ht)
  go_wp2_with fail;refine(HV _).out.mono ?_;rintro e w2 ⟨rfl,xF⟩;have lA:A<w1.heap.size:=zZ w1 _ b0';have VH:Fr xH xH w1 w2:=((Fr.refl _ _).alloc _).trans (Fr.of xF);have d0:=VH.cell b0' id;have d1:=VH.cell b1' id;have d2:∀ j,w2.frozen? ⟨A,j,none⟩=false:=fun j=>(VH.frozen (a:=⟨A,j,none⟩) lA id).trans (y0 j)
  have e0:w2.cell? ⟨w1.heap.size,0,none⟩=some (xk t):=(xF.cell (by simp)).trans (xu _ _ _ _ 0);have e1:w2.cell? ⟨w1.heap.size,1,none⟩=some (.bool num):=(xF.cell (by simp)).trans (xu _ _ _ _ 1);have HFZ:=z7 VH;have xf2:¬(w1.heap.size=A):=fun e=>by omega
  have hAI:=Xn.more HG.out HI.out VH (fun _ q=>q.elim);have HAI:=z7 hAI;clear xF VH b0' b1' y0 HV hAI
  cases DW:fG t num
  ·have HR:=z7 (show YL E n s = .error (11,s') by unfold YL;rw[HO.out];simp only[DW];rfl);clear DW;go_wp2;refine⟨rfl,?_⟩;rw[HR.out];exact⟨⟨[],rfl,rfl⟩,HAI.out⟩
  ·have HR:=z7 (show YL E n s = .ok ((t,num),s') by unfold YL;rw[HO.out];simp only[DW];rfl);clear DW;go_wp2;refine bodyPost_ret (v := .agg #[xk t,.bool num]) ?_ rfl ?_
   ·simp[results,results127,go_sem,d0,d1]
   ·rw[HR.out];exact⟨⟨HT.out,rfl⟩,Xn.more HG.out HAI.out (D:=fun k=>k=A) (((Fr.refl (fun k=>k=A) _).set (a:=⟨A,0,none⟩) _ (.inl rfl)).set (a:=⟨A,1,none⟩) _ (.inl rfl)) (fun k hk=>by subst hk;exact⟨HAS.out,by omega⟩)⟩
end
theorem RR{B:Nat}{w:World}{v:Value}{wh fr:Wd}(neg:Bool)(ho:w.ownsRow B 5 1 v (wh.length+fr.length) (xw (wh++fr)))(h1:wh.all xJ=true)(h2:fr.all xJ=true)(h3:0<wh.length)(h4:wh.length+fr.length<=30) :
  gT (fun k=>k<B) w (.agg #[.bool neg,v,.int .i64 (fr.length:Nat)]) (neg,(wh,fr)):=by
 obtain⟨g,cap,rfl,hg,-,-⟩:=xl ho (by omega);have U4:wh.length+fr.length<=cap/\cap<=maxLen:=by
  rcases ho.2 with⟨hv,_⟩|⟨g2,uG,cur,hv,_,_,hh,hh2,_⟩
  ·cases hv
  ·cases hv;exact⟨hh,hh2⟩
 exact⟨g,0,cap,rfl,U4.1,U4.2,by omega,⟨_,Yc ho (m:=0) (by simp;omega) (by simp)⟩,qM ho (by simp),⟨h1,h2,fun e=>by have:=congrArg List.length e;simp at this;simp[this] at h3,by show wh.length<=100;omega,by show fr.length<=100;omega⟩⟩
section
variable {τ:Type}
theorem Bo{E:qL τ}{n t:Wd}{num:Bool}{s s':τ}(h:YL E n s = .ok ((t,num),s')):fG t num=true:=by
 unfold YL at h;split at h
 ·cases h
 ·cases h
 ·split at h
  ·cases h;assumption
  ·cases h
def zp9(S:τ->Nat->Prop)(w:World)(n:vq)(s':τ)(w':World)(e:Ending):Prop:=∃ v,e = .returned v/\gT (fun k=>k<w.heap.size\/S s' k) w' v n/\n.2.1.length+n.2.2.length<=30
def WdP(t:Wd)(_:τ)(_:World)(e:Ending):Prop:=t.length<=1000000/\e = .returned (xk t)
theorem ig{gv:Value}{E:qL τ}{F S:τ->Nat->Prop}{Inv:τ->World->Prop}(hg:EB gv E F S Inv)(b q j:Nat)(n:Wd)(s:τ)(w:World)(c2:w.cell? ⟨b,2,none⟩=some gv)(hc:B0 b q j n w)(hi:Inv s w)(hn:n.length<=5000000) :
  Calls Tryz.prog 172 #[.pointer (some ⟨b,0,none⟩),.int .i64 (j:Nat)] w (Xn F S Inv s w WdP (L5 E n s)):=by
 have HA:=z7 (EE hg b q j n s w c2 hc hi hn);obtain⟨r,hr⟩:=xX (YL E n s);rw[hr] at HA;have HR:=z7 hr;have HG:=z7 hg;clear hg c2 hc hi hr;go_enter func172,ntmps172;go_wp2_with fail;refine HA.out.mono ?_;intro e w1 hq
 cases r with
 | error er =>
  obtain⟨m,s'⟩:=er;obtain⟨⟨uE,rfl,hold⟩,hI⟩:=hq;have HQ:=z7 (show Xn F S Inv s w WdP (L5 E n s) (.panicked ({ v:=qW m,recovered:=false }::uE)) w1 by
   unfold L5;rw[HR.out];exact⟨⟨uE,rfl,hold⟩,hI⟩)
  clear hold hI HA;go_wp2;exact⟨rfl,HQ.out⟩
 | ok p =>
  obtain⟨⟨t,num⟩,s'⟩:=p;obtain⟨⟨ht,rfl⟩,hI⟩:=hq;have HI:=z7 hI;have HT:=z7 ht;clear hI HA
  cases num
  ·have HW:=z7 (show L5 E n s = .ok (t,s') by unfold L5;rw[HR.out];rfl);go_wp2;go_ret;rw[HW.out];exact⟨⟨HT.out,rfl⟩,Xn.more HG.out HI.out ((Fr.refl xH _).alloc _) (fun _ q=>q.elim)⟩
  ·have HW:=z7 (show L5 E n s = .error (13,s') by unfold L5;rw[HR.out];rfl);go_wp2;refine⟨rfl,?_⟩;rw[HW.out];exact⟨⟨[],rfl,rfl⟩,Xn.more HG.out HI.out ((Fr.refl xH _).alloc _) (fun _ q=>q.elim)⟩
theorem LW{gv:Value}{E:qL τ}{F S:τ->Nat->Prop}{Inv:τ->World->Prop}(hg:EB gv E F S Inv)(b q j:Nat)(n:Wd)(s:τ)(w:World)(c2:w.cell? ⟨b,2,none⟩=some gv)(hc:B0 b q j n w)(hi:Inv s w)(hn:n.length<=5000000) :
  Calls Tryz.prog 129 #[.pointer (some ⟨b,0,none⟩),.int .i64 (j:Nat)] w (Xn F S Inv s w (zp9 S w) (YM E n s)):=by
 obtain⟨W,hW⟩:=xX (w.alloc (.cells #[.bool false,.slice none 0 0,.int .i64 0] 97));have VQ:Fr xH xH w W:=by rw[←hW];exact(Fr.refl _ _).alloc _
 obtain⟨A,hA⟩:=xX w.heap.size;have hR:dJ W A:=by rw[←hW,←hA];exact⟨xu _ _ _ _ _,xu _ _ _ _ _,xu _ _ _ _ _,by simp,by simp,by simp,by simp⟩
 have Tl:W.heap.size=A+1:=by rw[←hW];simp[hA]
 have ik:∀ k,S s k->k<A:=fun k hk=>by rw[←hA];exact hg.EC s w k hi hk
 have hiW:=hg.fr hi VQ (fun _ q=>q.elim);have HAR:=z7 (EE hg b q j n s W (VQ.cell c2 id) (hc.fr VQ (fun _ q=>q)) hiW hn);obtain⟨r,hr⟩:=xX (YL E n s);rw[hr] at HAR;have gG:=z7 hr;have HG:=z7 hg;have Vo:=z7 VQ;have HSU:=z7 ik;have CH:=z7 Tl;have HR:=z7 hR;clear hg c2 hc hi hr VQ ik hiW Tl hR;go_enter func129,ntmps129;go_wp2_with fail;refine HAR.out.mono ?_;intro e w1 hq;have conv:∀ {s':τ},(Inv s' w1/\Fr (F s) (F s') W w1/\∀ k,S s' k->S s k\/W.heap.size<=k)->(Inv s' w1/\Fr (F s) (F s') w w1/\∀ k,S s' k->S s k\/w.heap.size<=k):=fun h=>⟨h.1,(Vo.out.wide (G:=F s) (fun _ q=>q.elim)).trans h.2.1,fun k hk=>(h.2.2 k hk).imp id (fun q=>by have:=Vo.out.size;omega)⟩
 cases r with
 | error er =>
  obtain⟨m,s'⟩:=er;obtain⟨⟨uE,rfl,hold⟩,hI⟩:=hq;have HQ:=z7 (show Xn F S Inv s w (zp9 S w) (YM E n s) (.panicked ({ v:=qW m,recovered:=false }::uE)) w1 by
   unfold YM;rw[gG.out];exact⟨⟨uE,rfl,hold⟩,conv hI⟩)
  clear hold hI HAR conv;go_wp2;exact⟨rfl,HQ.out⟩
 | ok p =>
  obtain⟨⟨t,num⟩,s'⟩:=p;obtain⟨⟨ht,rfl⟩,hI⟩:=hq;have HI:=z7 (conv hI);have nA:¬F s A:=fun q=>by have:=HSU.out A (HG.out.sub _ _ q);omega
  have hSA:¬S s' A:=fun q=>(hI.2.2 A q).elim (fun q=>by have:=HSU.out A q;omega) (fun q=>by have:=CH.out;omega)
  have uy:=hI.2.1;have lA:A<W.heap.size:=by have:=CH.out;omega
  have LK:dJ w1 A:=⟨uy.cell HR.out.c0 nA,uy.cell HR.out.c1 nA,uy.cell HR.out.c2 nA,(uy.frozen (a:=⟨A,0,none⟩) lA nA).trans HR.out.z0,(uy.frozen (a:=⟨A,1,none⟩) lA nA).trans HR.out.z1,(uy.frozen (a:=⟨A,2,none⟩) lA nA).trans HR.out.z2,zF lA uy.size⟩;have fX:=z7 LK;have HSA:=z7 hSA;have HT:=z7 ht;clear hI HAR conv uy LK hSA nA lA
  cases num
  ·have HW:=z7 (show YM E n s = .error (13,s') by unfold YM;rw[gG.out];rfl);go_wp2;refine⟨rfl,?_⟩;rw[HW.out];exact⟨⟨[],rfl,rfl⟩,Xn.more HG.out HI.out ((Fr.refl xH _).alloc _) (fun _ q=>q.elim)⟩
  ·have HW:=z7 (show YM E n s = .ok (numOf t,s') by unfold YM;rw[gG.out];rfl);have X7:uD t=true:=by have:=Bo gG.out;exact this
   have HN:=z7 X7;have qP:(⟨t.toArray⟩:ByteArray).size=t.length:=size_mk _;have HP:=fun W=>z7 (Y4 ⟨t.toArray⟩ W (by rw[qP];exact ht))
   clear X7;go_wp2_with fail;refine(HP _).out.mono ?_;rintro e w2 ⟨bb,v,k,rfl,⟨va,vn,vk,rfl⟩,xF,vV⟩;obtain⟨rfl,rfl,xV⟩:=vV HN.out;have VH:Fr xH xH w1 w2:=((Fr.refl _ _).alloc _).trans (Fr.of xF);have Mh:dJ w2 A:=⟨VH.cell fX.out.c0 id,VH.cell fX.out.c1 id,VH.cell fX.out.c2 id,(VH.frozen (a:=⟨A,0,none⟩) fX.out.lt id).trans fX.out.z0,(VH.frozen (a:=⟨A,1,none⟩) fX.out.lt id).trans fX.out.z1,(VH.frozen (a:=⟨A,2,none⟩) fX.out.lt id).trans fX.out.z2,Nat.lt_of_lt_of_le fX.out.lt VH.size⟩;have r0:=Mh.c0;have r1:=Mh.c1;have r2:=Mh.c2;have y0:=Mh.z0;have y1:=Mh.z1;have y2:=Mh.z2;have hAw:A<w2.heap.size:=Mh.lt;have Sg:A<w1.heap.size:=fX.out.lt;have XX:(w1.alloc (.cells #[xk t,.bool true] 86)).heap.size=w1.heap.size+1:=by simp
   rw[XX] at xV;have HO:=z7 xV;have HFZ:=z7 VH;clear xV vV xF VH Mh XX HP;go_wp2;obtain⟨X,hX⟩:=xX (((w2.setCell ⟨A,0,none⟩ (.bool (YH t))).setCell ⟨A,1,none⟩ (.slice va vn vk)).setCell ⟨A,2,none⟩ (.int .i64 ((u9 t).length:Nat)));have x0:X.cell? ⟨A,0,none⟩=some (.bool (YH t)):=by
    rw[←hX,xg,if_neg (by simp),xg,if_neg (by simp)];exact vB r0 _
   have x1:X.cell? ⟨A,1,none⟩=some (.slice va vn vk):=by
    rw[←hX,xg,if_neg (by simp)];refine vB (v := .slice none 0 0) ?_ _;rw[xg,if_neg (by simp)];exact r1
   have x2:X.cell? ⟨A,2,none⟩=some (.int .i64 ((u9 t).length:Nat)):=by
    rw[←hX];refine vB (v := .int .i64 0) ?_ _;rw[xg,if_neg (by simp),xg,if_neg (by simp)];exact r2
   have vD:X.ownsRow (w1.heap.size+1) 5 1 (.slice va vn vk) ((vL t).length+(u9 t).length) (xw (vL t++u9 t)):=by
    rw[←hX];exact xp (xp (xp HO.out (p:=⟨A,0,none⟩) (fun e=>by have:=(HO.out.lt A e.symm).1;omega) _) (p:=⟨A,1,none⟩) (fun e=>by have:=(HO.out.lt A e.symm).1;omega) _) (p:=⟨A,2,none⟩) (fun e=>by have:=(HO.out.lt A e.symm).1;omega) _
   have hfX:Fr (fun k=>k=A) (fun k=>k=A) w1 X:=by
    rw[←hX];exact(((HFZ.out.wide (G:=fun k=>k=A) (fun _ q=>q.elim)).set (a:=⟨A,0,none⟩) _ (.inl rfl)).set (a:=⟨A,1,none⟩) _ (.inl rfl)).set (a:=⟨A,2,none⟩) _ (.inl rfl)
   rw[hX];have f0:=fun ob=>xQ x0 ob
   have f1:=fun ob=>xQ x1 ob
   have f2:=fun ob=>xQ x2 ob
   clear hX;refine bodyPost_ret (v := .agg #[.bool (YH t),.slice va vn vk,.int .i64 ((u9 t).length:Nat)]) ?_ rfl ?_
   ·simp[results,results129,go_sem,f0,f1,f2]
   ·rw[HW.out];obtain⟨d1,d2,hw,h30⟩:=KI HN.out;have hn:=fun ob=>RR (YH t) (vD.alloc ob) d1 d2 hw h30
    refine⟨⟨_,rfl,?_,h30⟩,Xn.more HG.out HI.out (hfX.alloc _) (fun k hk=>by subst hk;exact⟨HSA.out,by omega⟩)⟩;refine(hn _).fr (Fr.refl xH _) (fun _ q=>q.elim) (fun k hk => .inl ?_);rcases hk with hk|hk
    ·show k<w1.heap.size+1;omega
    ·have:=HG.out.EC s' w1 k HI.out.1 hk;show k<w1.heap.size+1;omega
end
def Om(o:Option Nat):Int:=match o with|some k=>((k:Nat):Int)|none=>-1
theorem FG(q mb n p:Nat)(f:Nat->Option Nat)(w:World)(q2:w.cell? ⟨q,2,none⟩=some (.map (some mb)))(hm:ZX w mb n f)(hp:p<=4000000000) :
  Calls Tryz.prog 135 #[.pointer (some ⟨q,0,none⟩),.int .i64 (p:Nat)] w fun e w'=>e = .returned (.int .i64 (Om (f p)))/\w=w':=by
 have VF:=hm.look p hp;obtain⟨o,ho⟩:=xX (f p);rw[ho] at VF ⊢;clear ho hm
 cases o with
 | none =>
  go_enter func135,ntmps135;go_wp2;go_ret;exact⟨rfl,rfl⟩
 | some k =>
  go_enter func135,ntmps135;go_wp2;go_ret;exact⟨rfl,rfl⟩
section
variable {b:Nat} {x0 x2 st v:Value} {l:Wd} {w:World}
theorem Tn{g:Nat}{nv:Value}{n:vq}{t:Wd}(h:uh b x0 (.pointer (some ⟨g,0,none⟩)) x2 st v l w)(hn:gT (fun _=>False) w nv n)(hw:∀ W,Below w.heap.size w W->Calls Tryz.prog 45 #[.pointer (some ⟨g,0,none⟩),nv] W fun e w'=>e = .returned (xk t)/\Below W.heap.size W w')(hlen:l.length+t.length<=1000000000) :
  Calls Tryz.prog 128 #[.pointer (some ⟨b,0,none⟩),nv] w fun e w'=>e = .returned (.tuple #[])/\Gm b x0 (.pointer (some ⟨g,0,none⟩)) x2 st v (l++t) w w':=by
 obtain⟨gd,o,cap,rfl,-⟩:=hn;obtain⟨L,hL⟩:=xX (n.2.1.length+n.2.2.length);obtain⟨k,hk⟩:=xX n.2.2.length;rw[hL,hk] at hw ⊢;obtain⟨A,hA⟩:=xX w.heap.size;obtain⟨W,hW⟩:=xX (w.alloc (.cells #[.bool n.1,.slice (some ⟨gd,o,none⟩) L cap,.int .i64 (k:Nat)] 97));have hb:Below w.heap.size w W:=by rw[←hW];exact(zG _ _).alloc (zQ _) _
 have VQ:Fr xH xH w W:=Fr.of hb;have hc:∀ j,W.cell? ⟨A,j,none⟩=(#[zI n.1,.slice (some ⟨gd,o,none⟩) L cap,.int .i64 (k:Nat)]:Array Value)[j]? := fun j=>by rw[←hW,←hA];exact xu _ _ _ _ _
 have e0:=hc 0;have e1:=hc 1;have e2:=hc 2;simp only[zg,zu,zk] at e0 e1 e2;have hOW:=h.fr VQ id (fun _ _ q=>q);have b1:=hOW.cell.2.1;have Qz:=z7 (hw W.drew (hb.trans ⟨rfl,rfl,rfl,zQ _,fun _ _=>rfl⟩));have L7:=z7 hOW;have Vo:=z7 VQ;obtain⟨nb,DK⟩:=xX n.1;rw[DK] at e0 hW Qz ⊢;clear h hw hb hc hOW VQ hL hk DK;go_enter func128,ntmps128;go_wp2_with fail;try rw[hW]
 clear hW hA;refine rk (fun W':World=>W'.cell? ⟨b,1,none⟩=some (.pointer (some ⟨g,0,none⟩))/\W'.cell? ⟨A,0,none⟩=some (.bool nb)/\W'.cell? ⟨A,1,none⟩=some (.slice (some ⟨gd,o,none⟩) L cap)/\W'.cell? ⟨A,2,none⟩=some (.int .i64 (k:Nat))) 9 (zV 8) 2 ⟨b1,e0,e1,e2⟩ ?_;(iterate 8 (refine ty ?_;try simp only[pl]))
 refine xq ?_;refine Xf 8 (fun J hJ=>?_);go_simp;refine Qz.out.mono ?_;rintro e w1 ⟨rfl,xB⟩;have uy:Fr xH xH W w1:=(Fr.of xB).und;refine hJ.out _ _ ⟨uy.cell b1 id,uy.cell e0 id,uy.cell e1 id,uy.cell e2 id⟩ fun _=>?_
 clear hJ J;have Wo:=z7 (KY t (L7.out.fr uy id (fun _ _ q=>q)) hlen);have VD:=z7 uy;clear uy xB Qz;refine DJ 9 (fun J hJ=>?_);go_simp;refine Wo.out.mono ?_;rintro e w2 ⟨⟨u,rfl⟩,DU⟩;refine hJ.out _ _ ?_;clear hJ J;refine DG ?_ _;have HW2:=z7 DU;clear DU Wo;go_wp2;go_end0
 obtain⟨v',h1,h2⟩:=HW2.out;exact⟨rfl,v',h1,((Vo.out.trans VD.out).wide (G:=Ub b v) (fun _ q=>q.elim)).trans h2⟩
end
def fZ(M:Nat->Prop)(w:World):List (vq×vq)->List Value->Prop
 | [],cs=>cs=[]
 |(n,z)::r,cs=>∃ nb g o m c k zb g' o' m' c' k' t,cs=(VR nb g o m c k++VR zb g' o' m' c' k')++t/\gT M w (LR nb g o m c k) n/\gT M w (LR zb g' o' m' c' k') z/\fZ M w r t
theorem fZ.len{M:Nat->Prop}{w:World}:∀ {r:List (vq×vq)} {cs:List Value},fZ M w r cs->cs.length=r.length*6
 | [],cs,h=>by rw[show cs=[] from h];rfl
 | p::r,cs,h=>by
  obtain⟨nb,g,o,m,c,k,zb,g',o',m',c',k',t,rfl,_,_,ht⟩:=h;have:=fZ.len ht;simp[VR,this];omega
theorem fZ.fr{M M' F F':Nat->Prop}{w w':World}(hf:Fr F F' w w')(hF:∀ k,F k->M k)(hM:∀ k,M' k->M k\/w.heap.size<=k):∀ {r:List (vq×vq)} {cs:List Value},fZ M w r cs->fZ M' w' r cs
 | [],cs,h=>h
 | p::r,cs,h=>by
  obtain⟨nb,g,o,m,c,k,zb,g',o',m',c',k',t,rfl,h1,h2,ht⟩:=h;exact⟨nb,g,o,m,c,k,zb,g',o',m',c',k',t,rfl,h1.fr hf hF hM,h2.fr hf hF hM,fZ.fr hf hF hM ht⟩
theorem fZ.snoc{M:Nat->Prop}{w:World}{n z:vq}{nb zb:Bool}{g o m c k g' o' m' c' k':Nat}(h1:gT M w (LR nb g o m c k) n)(h2:gT M w (LR zb g' o' m' c' k') z):∀ {r:List (vq×vq)} {cs:List Value},fZ M w r cs->fZ M w (r++[(n,z)]) (cs++(VR nb g o m c k++VR zb g' o' m' c' k'))
 | [],cs,h=>by rw[show cs=[] from h];exact⟨nb,g,o,m,c,k,zb,g',o',m',c',k',[],by simp,h1,h2,rfl⟩
 | p::r,cs,h=>by
  obtain⟨nb',g1,o1,m1,c1,k1,zb',g2,o2,m2,c2,k2,t,rfl,a1,a2,ht⟩:=h;exact⟨nb',g1,o1,m1,c1,k1,zb',g2,o2,m2,c2,k2,_,by rw[zi],a1,a2,fZ.snoc h1 h2 ht⟩
theorem fZ.last{M:Nat->Prop}{w:World}{n z:vq}:∀ {r:List (vq×vq)} {cs:List Value},fZ M w (r++[(n,z)]) cs->∃ RS nb g o m c k zb g' o' m' c' k',cs=RS++(VR nb g o m c k++VR zb g' o' m' c' k')/\fZ M w r RS/\gT M w (LR nb g o m c k) n/\gT M w (LR zb g' o' m' c' k') z
 | [],cs,h=>by
  obtain⟨nb,g,o,m,c,k,zb,g',o',m',c',k',t,rfl,h1,h2,ht⟩:=h;rw[show t=[] from ht];exact⟨[],nb,g,o,m,c,k,zb,g',o',m',c',k',by simp,rfl,h1,h2⟩
 | p::r,cs,h=>by
  obtain⟨nb,g,o,m,c,k,zb,g',o',m',c',k',t,rfl,h1,h2,ht⟩:=h;obtain⟨RS,nb',g1,o1,m1,c1,k1,zb',g2,o2,m2,c2,k2,rfl,a0,a1,a2⟩:=fZ.last ht;exact⟨_,nb',g1,o1,m1,c1,k1,zb',g2,o2,m2,c2,k2,by simp only[zi],⟨nb,g,o,m,c,k,zb,g',o',m',c',k',RS,rfl,h1,h2,a0⟩,a1,a2⟩
abbrev FD(b:Nat)(v st:Value)(Sx:Nat->Prop)(k:Nat):Prop:=k=b\/xZ v k\/xZ st k\/Sx k
section
variable {τ:Type}
def vw(b A0 q g:Nat)(gv:Value)(G:Nat->Prop)(F S:τ->Nat->Prop)(Inv:τ->World->Prop)(r:bo τ)(w:World):Prop :=
 ∃ v st cs,uh b (.pointer (some ⟨q,0,none⟩)) (.pointer (some ⟨g,0,none⟩)) gv st v r.out w/\w.ownsRow 0 272 6 st r.stk.length cs/\fZ (FD b v st (S r.gs)) w r.stk cs/\Inv r.gs w /\
  st.ownBlock≠some b/\(∀ k,xZ v k->¬xZ st k)/\(∀ k,S r.gs k->(k+2<b\/b<k)/\¬xZ v k/\¬xZ st k)/\(∀ k,xZ v k\/xZ st k->A0<=k)/\∀ k,F r.gs k->G k
structure bd(w0:World)(A0 b:Nat)(G:Nat->Prop)(q mb g:Nat)(s:MkS)(vC vI:Value)(rs:List (Value×Value))(gv:Value)(E:qL τ)(F S:τ->Nat->Prop)(Inv:τ->World->Prop):Prop where
 prog:∀ W,Fr G G w0 W->qT q s vC vI rs mb W
 wr:∀ W nv n,Fr G G w0 W->gT (fun _=>False) W nv n->Calls Tryz.prog 45 #[.pointer (some ⟨g,0,none⟩),nv] W fun e w'=>e = .returned (xk (E.wr n))/\Below W.heap.size W w'
 wrl:∀ n:vq,EV n.2->(E.wr n).length<=5000
 set:∃ cv ov,(∀ W,Fr G G w0 W->W.cell? ⟨g,0,none⟩=some cv/\W.cell? ⟨g,1,none⟩=some ov) /\
  (∀ W nv d,Fr G G w0 W->uR W nv d->Calls Tryz.prog 60 #[cv,nv] W fun e w'=>e = .returned (.int .i64 (E.sort false d))/\Below W.heap.size W w') /\
  ∀ W nv d,Fr G G w0 W->uR W nv d->Calls Tryz.prog 60 #[ov,nv] W fun e w'=>e = .returned (.int .i64 (E.sort true d))/\Below W.heap.size W w'
 srt:∀ b d,E.sort b d<6
 get:EB gv E F S Inv
 n1:s.code.length<=1000000
 n2:s.cs.length<=1000000
 n3:∀ t∈s.cs,t.length<=5000
 n4:∀ x∈s.code,x.v<=1000000000/\∀ y∈x.tg,y<=4000000000
 gA:∀ k,A0<=k->G k
 gb:A0<=b
def VmQ(b A0 q g:Nat)(gv:Value)(G:Nat->Prop)(F S:τ->Nat->Prop)(Inv:τ->World->Prop)(r0:bo τ)(_:Nat)(r:bo τ)(w:World):Prop:=vw b A0 q g gv G F S Inv r w/\r.out.length<=r0.out.length+5000/\r.stk.length<=r0.stk.length+1
def EH(Inv:τ->World->Prop)(S:τ->Nat->Prop)(b:Nat)(r:bo τ)(w:World):Prop:=Inv r.gs w/\∀ k,S r.gs k->k+2<b\/b<k
section
variable {w0 W:World} {A0 b q mb g k:Nat} {G:Nat->Prop} {s:MkS} {vC vI gv:Value} {rs:List (Value×Value)} {E:qL τ} {F S:τ->Nat->Prop} {Inv:τ->World->Prop} {r:bo τ} {x:j8}
theorem vw.quiet(hE:bd w0 A0 b G q mb g s vC vI rs gv E F S Inv){w w':World}(h:vw b A0 q g gv G F S Inv r w)(hf:Fr xH xH w w'):vw b A0 q g gv G F S Inv r w':=by
 obtain⟨v,st,cs,hO,vH,fL,hi,ZO,Yw,hS,hA,hF⟩:=h;exact⟨v,st,cs,hO.fr hf id (fun _ _ q=>q),hf.own vH (fun _ _ q=>q),fZ.fr hf (fun _ q=>q.elim) (fun _ q => .inl q) fL,hE.get.fr hi hf (fun _ q=>q.elim),ZO,Yw,hS,hA,hF⟩
theorem vw.asked(hE:bd w0 A0 b G q mb g s vC vI rs gv E F S Inv){w w':World}(h:vw b A0 q g gv G F S Inv r w){s':τ}(hq:Inv s' w'/\Fr (F r.gs) (F s') w w'/\∀ k,S s' k->S r.gs k\/w.heap.size<=k) :
  vw b A0 q g gv G F S Inv { r with gs:=s' } w'/\Fr G G w w'/\∀ k,FD b (.slice none 0 0) (.slice none 0 0) (S s') k->k=b\/S r.gs k\/w.heap.size<=k:=by
 obtain⟨v,st,cs,hO,vH,fL,hi,ZO,Yw,hS,hA,hF⟩:=h;obtain⟨hi',hf,Wr⟩:=hq;have xD:=hO.lt;have nb:¬F r.gs b:=fun q=>by have:=(hS b (hE.get.sub _ _ q)).1;omega
 have nv:∀ k,xZ v k->¬F r.gs k:=fun k hk q=>(hS k (hE.get.sub _ _ q)).2.1 hk
 have nst:∀ k,xZ st k->¬F r.gs k:=fun k hk q=>(hS k (hE.get.sub _ _ q)).2.2 hk
 refine⟨⟨v,st,cs,hO.fr hf nb nv,hf.own vH nst,fZ.fr hf (fun k hk => .inr (.inr (.inr (hE.get.sub _ _ hk)))) (fun k hk=>?_) fL,hi',ZO,Yw,fun k hk=>?_,hA,fun k hk=>?_⟩,?_,fun k hk=>?_⟩
 ·rcases hk with h|h|h|h
  ·exact .inl (.inl h)
  ·exact .inl (.inr (.inl h))
  ·exact .inl (.inr (.inr (.inl h)))
  ·exact(Wr k h).imp (fun q => .inr (.inr (.inr q))) id
 ·rcases Wr k hk with h|h
  ·exact hS k h
  ·exact⟨by omega,fun q=>by have:=ud hO.row q;omega,fun q=>by have:=ud vH q;omega⟩
 ·rcases hf.fp k hk with h|h
  ·exact hF k h
  ·exact hE.gA k (by have:=hE.gb;omega)
 ·exact(hf.tg (F'':=F r.gs) (fun k hk => .inl hk)).wide (fun k hk=>hF k hk)
 ·rcases hk with h|h|h|h
  ·exact .inl h
  ·cases h
  ·cases h
  ·exact .inr (Wr k h)
theorem vw.wrote(hE:bd w0 A0 b G q mb g s vC vI rs gv E F S Inv){w w':World}{v st:Value}{cs:List Value}{t:Wd}(vH:w.ownsRow 0 272 6 st r.stk.length cs)(fL:fZ (FD b v st (S r.gs)) w r.stk cs)(hi:Inv r.gs w)(ZO:st.ownBlock≠some b)(Yw:∀ k,xZ v k->¬xZ st k)
  (hS:∀ k,S r.gs k->(k+2<b\/b<k)/\¬xZ v k/\¬xZ st k) (hA:∀ k,xZ v k\/xZ st k->A0<=k) (hF:∀ k,F r.gs k->G k) (xD:b<w.heap.size) (hq:Gm b (.pointer (some ⟨q,0,none⟩)) (.pointer (some ⟨g,0,none⟩)) gv st v (r.out++t) w w') :
  vw b A0 q g gv G F S Inv { r with out:=r.out++t } w'/\Fr G G w w':=by
 obtain⟨v',hO',hf⟩:=hq;have nst:∀ k,xZ st k->¬Ub b v k:=fun k hk q=>q.elim (fun e=>ZO (by rw[←e];exact hk)) (fun e=>Yw k e hk)
 have AA:∀ k,xZ v' k->xZ v k\/w.heap.size<=k:=fun k hk=>(hf.fp k (.inr hk)).elim (fun q=>q.elim (fun e=>absurd (show v'.ownBlock=some b by rw[←e];exact hk) (by obtain⟨_,_,_,_,h,_⟩:=hO';exact h)) .inl) .inr
 refine⟨⟨v',st,cs,hO',hf.own vH nst,fZ.fr hf (fun k hk=>hk.elim .inl (fun h => .inr (.inl h))) (fun k hk=>?_) fL,hE.get.fr hi hf (fun k hk q=>hk.elim (fun e=>by have:=(hS k q).1;omega) (fun e=>(hS k q).2.1 e)),ZO,fun k hk=>?_,fun k hk=>?_,fun k hk=>?_,hF⟩,?_⟩
 ·rcases hk with h|h|h|h
  ·exact .inl (.inl h)
  ·exact(AA k h).imp (fun q => .inr (.inl q)) id
  ·exact .inl (.inr (.inr (.inl h)))
  ·exact .inl (.inr (.inr (.inr h)))
 ·rcases AA k hk with h|h
  ·exact Yw k h
  ·exact fun q=>by have:=ud vH q;omega
 ·refine⟨(hS k hk).1,fun q=>?_,(hS k hk).2.2⟩;rcases AA k q with h|h
  ·exact(hS k hk).2.1 h
  ·have:=hE.get.EC r.gs w k hi hk;omega
 ·rcases hk with h|h
  ·rcases AA k h with h|h
   ·exact hA k (.inl h)
   ·have:=hE.gb;omega
  ·exact hA k (.inr h)
 ·exact(hf.tg (F'':=Ub b v) (fun k hk => .inl hk)).wide (fun k hk=>hE.gA k (hk.elim (fun e=>by rw[e];exact hE.gb) (fun e=>hA k (.inl e))))
theorem vw.RA(hE:bd w0 A0 b G q mb g s vC vI rs gv E F S Inv){w w':World}{v st:Value}{cs:List Value}{stk:List (vq×vq)}{n:Nat}(vH:w.ownsRow 0 272 6 st n cs){RS:List Value}(fL:fZ (FD b v st (S r.gs)) w stk RS)(hi:Inv r.gs w)
  (hS:∀ k,S r.gs k->(k+2<b\/b<k)/\¬xZ v k/\¬xZ st k) (hA:∀ k,xZ v k\/xZ st k->A0<=k) (hF:∀ k,F r.gs k->G k) (xD:b<w.heap.size) (hq:LS b (.pointer (some ⟨q,0,none⟩)) (.pointer (some ⟨g,0,none⟩)) gv st v r.out stk.length RS w w') :
  vw b A0 q g gv G F S Inv { r with stk:=stk } w'/\Fr G G w w':=by
 obtain⟨RP,a1,a2,a3,a4,a5⟩:=hq;have hm:∀ j,FD b v RP (S r.gs) j->FD b v st (S r.gs) j\/w.heap.size<=j:=by
  intro j hj;rcases hj with h|h|h|h
  ·exact .inl (.inl h)
  ·exact .inl (.inr (.inl h))
  ·rcases a5.fp j (.inr h) with(h|h)|h
   ·exact .inl (.inl h)
   ·exact .inl (.inr (.inr (.inl h)))
   ·exact .inr h
  ·exact .inl (.inr (.inr (.inr h)))
 have KF:∀ j,rO b st j->FD b v st (S r.gs) j:=fun j hj=>hj.elim .inl (fun h => .inr (.inr (.inl h)))
 have hl:=hE.get.EC r.gs w;refine⟨⟨v,RP,RS,a1,a2,fZ.fr a5 KF hm fL,hE.get.fr hi a5 (fun j hj=>?_),a3,a4,fun j hj=>⟨(hS j hj).1,(hS j hj).2.1,fun h=>?_⟩,fun j hj=>?_,hF⟩,?_⟩
 ·rcases hj with rfl|h
  ·exact fun q=>by have:=(hS _ q).1;omega
  ·exact fun q=>(hS _ q).2.2 h
 ·rcases a5.fp j (.inr h) with(h|h)|h
  ·have:=(hS j hj).1;omega
  ·exact(hS j hj).2.2 h
  ·have:=hl j hi hj;omega
 ·rcases hj with h|h
  ·exact hA j (.inl h)
  ·rcases a5.fp j (.inr h) with(h|h)|h
   ·rw[h];exact hE.gb
   ·exact hA j (.inr h)
   ·have:=hE.gb;omega
 ·exact(a5.tg (F'':=rO b st) (fun k hk => .inl hk)).wide (fun j hj=>hE.gA j (hj.elim (fun h=>by rw[h];exact hE.gb) (fun h=>hA j (.inr h))))
theorem On(hE:bd w0 A0 b G q mb g s vC vI rs gv E F S Inv)(hf:Fr G G w0 W)(hR:vw b A0 q g gv G F S Inv r W)(hk:s.code[k]? = some x)(uI:x.op=5){stk:List (vq×vq)}{tp:vq×vq}(hs:r.stk=stk++[tp])(fU:r.stk.length<=1000000) :
  Calls Tryz.prog 87 #[.pointer (some ⟨b,0,none⟩),.int .i64 (k:Nat)] W fun e w'=>e = .returned (.int .i64 ((k+1:Nat):Int))/\VmQ b A0 q g gv G F S Inv r (k+1) { r with stk:=stk } w'/\Fr G G W w':=by
 have hp:=hE.prog W hf;obtain⟨I,ic,kv,tv,q1,lt,i0,-⟩:=hp.ins hk;rw[uI] at i0;obtain⟨v,st,cs,hO,vH,fL,hi,ZO,Yw,hS,hA,hF⟩:=hR;obtain⟨tn,tz⟩:=tp;rw[hs] at fL vH;obtain⟨RS,nb,g1,o1,m1,c1,k1,zb,g2,o2,m2,c2,k2,rfl,Xz,-,-⟩:=fL.last;have hlen:(stk++[(tn,tz)]).length=stk.length+1:=by simp
 rw[hlen] at vH;have hn:stk.length<=1000000:=by rw[hs,hlen] at fU;omega
 have HP:=z7 (rP hO vH Xz.len ZO Yw hn);have b0:=hO.cell.1;obtain⟨n,hN⟩:=xX s.code.length;rw[hN] at q1 lt;have Zk:=hE.n1;rw[hN] at Zk;have k3:(k:Int)<(n:Int):=by omega
 have HH:=z7 (z8 vH (z8 Xz (z8 hi (z8 hS (z8 hA hF)))));have HE:=z7 hE;have HS:=z7 (z8 hs hO.lt);clear hE hf hp hk uI hO vH fL hi ZO Yw hS hA hF hs hlen Xz hN fU;go_enter func87,ntmps87;go_wp2_with fail;refine HP.out.mono ?_;rintro e w1 ⟨rfl,hq⟩;have HQ:=z7 hq;clear hq HP;go_wp2;go_ret;obtain⟨h0,h1,h2,h3,h4,h5⟩:=HH.out;obtain⟨hr,Zu⟩:=vw.RA HE.out h0 h1 h2 h3 h4 h5 HS.out.2 HQ.out;exact⟨by first|rfl|simp,⟨hr,zm _ _,by rw[HS.out.1];simp;omega⟩,Zu⟩
end
end
theorem UB(a0 a3:Bool)(p:Addr)(n c:Nat)(k:Int)(p':Addr)(n' c':Nat)(k':Int)(w:World):(Instr.field 272 (.agg #[.bool a0,.slice (some p) n c,.int .i64 k,.bool a3,.slice (some p') n' c',.int .i64 k']) 1).run Tryz.prog w = .ok (.agg #[.bool a3,.slice (some p') n' c',.int .i64 k']) w:=by kernel_rfl
theorem LA(a0 a3:Bool)(p:Addr)(n c:Nat)(k:Int)(p':Addr)(n' c':Nat)(k':Int)(w:World):(Instr.field 272 (.agg #[.bool a0,.slice (some p) n c,.int .i64 k,.bool a3,.slice (some p') n' c',.int .i64 k']) 0).run Tryz.prog w = .ok (.agg #[.bool a0,.slice (some p) n c,.int .i64 k]) w:=by kernel_rfl
theorem gT.any{M:Nat->Prop}{w:World}{v:Value}{n:vq}(h:gT M w v n):gT (fun _=>False) w v n:=h.fr (Fr.refl xH _) (fun _ q=>q.elim) (fun _ q=>q.elim)
theorem gT.ok{M:Nat->Prop}{w:World}{v:Value}{n:vq}(h:gT M w v n):EV n.2:=by
 obtain⟨_,_,_,_,_,_,_,_,_,h⟩:=h;exact h
section
variable {τ:Type} {w0 W:World} {A0 b q mb g k:Nat} {G:Nat->Prop} {s:MkS} {vC vI gv:Value} {rs:List (Value×Value)} {E:qL τ} {F S:τ->Nat->Prop} {Inv:τ->World->Prop} {r:bo τ} {x:j8}
theorem FB(hE:bd w0 A0 b G q mb g s vC vI rs gv E F S Inv)(hf:Fr G G w0 W)(hR:vw b A0 q g gv G F S Inv r W){nv:Value}{n:vq}{M:Nat->Prop}(hn:gT M W nv n)(hlen:r.out.length<=900000000) :
  Calls Tryz.prog 128 #[.pointer (some ⟨b,0,none⟩),nv] W fun e w'=>e = .returned (.tuple #[])/\vw b A0 q g gv G F S Inv { r with out:=r.out++E.wr n } w'/\Fr G G W w':=by
 obtain⟨v,st,cs,hO,vH,fL,hi,ZO,Yw,hS,hA,hF⟩:=hR;have hl:=hE.wrl n hn.ok;refine(Tn hO hn.any (fun W' hW'=>hE.wr W' nv n (hf.trans ((Fr.of hW').wide (F:=xH) (fun _ q=>q.elim))) (hn.any.fr (Fr.of (F:=xH) hW') (fun _ q=>q.elim) (fun _ q=>q.elim))) (by omega)).mono ?_;rintro e w' ⟨he,hq⟩;exact⟨he,vw.wrote hE vH fL hi ZO Yw hS hA hF hO.lt hq⟩
theorem To(hE:bd w0 A0 b G q mb g s vC vI rs gv E F S Inv)(hf:Fr G G w0 W)(hR:vw b A0 q g gv G F S Inv r W)(hk:s.code[k]? = some x)(uI:x.op=6){stk:List (vq×vq)}{tp:vq×vq}(hs:r.stk=stk++[tp])(fU:r.stk.length<=1000000)(hlen:r.out.length<=900000000) :
  Calls Tryz.prog 87 #[.pointer (some ⟨b,0,none⟩),.int .i64 (k:Nat)] W fun e w'=>e = .returned (.int .i64 ((k+1:Nat):Int))/\VmQ b A0 q g gv G F S Inv r (k+1) { r with out:=r.out++E.wr tp.2 } w'/\Fr G G W w':=by
 obtain⟨I,ic,kv,tv,q1,lt,i0,-⟩:=(hE.prog W hf).ins hk;rw[uI] at i0;have o7:=hR;obtain⟨v,st,cs,hO,vH,fL,hi,ZO,Yw,hS,hA,hF⟩:=hR;obtain⟨tn,tz⟩:=tp;have Xo:(stk++[(tn,tz)]).length=stk.length+1:=by simp
 rw[hs] at fL vH fU;rw[Xo] at vH fU;obtain⟨RS,nb,g1,o1,m1,c1,k1,zb,g2,o2,m2,c2,k2,rfl,Xz,-,hz⟩:=fL.last;have HT:=z7 (Jw hO nb zb g1 o1 m1 c1 k1 g2 o2 m2 c2 k2 vH Xz.len (by omega));have b0:=hO.cell.1;have Zk:=hE.n1;obtain⟨n,hN⟩:=xX s.code.length;rw[hN] at q1 lt Zk;have k3:(k:Int)<(n:Int):=by omega
 have eT:=UB;have Ja:=fun (W':World) (hb:Below W.heap.size W W')=>FB hE (hf.trans ((Fr.of hb).wide (F:=xH) (fun _ q=>q.elim))) (o7.quiet hE (Fr.of hb)) (hz.any.fr (Fr.of (F:=xH) hb) (fun _ q=>q.elim) (M':=fun _=>False) (fun _ q=>q.elim)) hlen
 have rS:=z7 Ja;have HE:=z7 hE;have HW:=z7 (hE.wrl tz hz.ok);clear hE hf hk uI hO vH fL hi ZO Yw hS hA hF hs Xz hN o7 Ja fU hlen Xo;go_enter func87,ntmps87;go_wp2_with fail;refine HT.out.mono ?_;rintro e w1 ⟨rfl,xB⟩;have HX:=z7 (rS.out w1 xB);have HB:=z7 xB;clear HT xB rS;go_wp2_with fail;refine HX.out.mono ?_;rintro e w2 ⟨rfl,hr,vu⟩;have HR:=z7 (z8 hr vu);clear hr vu HX;go_wp2;go_ret;refine⟨by first|rfl|simp,⟨HR.out.1,by have:=HW.out;simp;omega,by simp⟩,((Fr.of HB.out).wide (F:=xH) (fun _ q=>q.elim)).trans HR.out.2⟩
end
section
variable {τ:Type} {w0 W:World} {A0 b q mb g k:Nat} {G:Nat->Prop} {s:MkS} {vC vI gv:Value} {rs:List (Value×Value)} {E:qL τ} {F S:τ->Nat->Prop} {Inv:τ->World->Prop} {r:bo τ} {x:j8}
theorem vw.err(hE:bd w0 A0 b G q mb g s vC vI rs gv E F S Inv){w w':World}(h:vw b A0 q g gv G F S Inv r w){s':τ}(hq:Inv s' w'/\Fr (F r.gs) (F s') w w'/\∀ k,S s' k->S r.gs k\/w.heap.size<=k) :
  EH Inv S b { r with gs:=s' } w'/\Fr G G w w':=by
 obtain⟨h1,h2,h3⟩:=vw.asked hE h hq;obtain⟨v,st,cs,hO,vH,fL,hi,ZO,Yw,hS,hA,hF⟩:=h1;exact⟨⟨hi,fun k hk=>(hS k hk).1⟩,h2⟩
theorem Z1{n:Wd}(h:Y2 s x=some n):∃ j,x.k[0]? = some j/\s.cs[j]? = some n:=by
 unfold Y2 at h
 cases hx:x.k[0]? with
 | none=>rw[hx] at h;cases h
 | some j=>rw[hx] at h;exact⟨j,rfl,h⟩
theorem ib(hE:bd w0 A0 b G q mb g s vC vI rs gv E F S Inv)(hf:Fr G G w0 W)(hR:vw b A0 q g gv G F S Inv r W)(hk:s.code[k]? = some x)(uI:x.op=1){t:Wd}(hc:Y2 s x=some t)(hlen:r.out.length<=900000000) :
  Calls Tryz.prog 87 #[.pointer (some ⟨b,0,none⟩),.int .i64 (k:Nat)] W fun e w'=>e = .returned (.int .i64 ((k+1:Nat):Int))/\VmQ b A0 q g gv G F S Inv r (k+1) { r with out:=r.out++t } w'/\Fr G G W w':=by
 obtain⟨j,hj,ht⟩:=Z1 hc;obtain⟨v,st,cs,hO,vH,fL,hi,ZO,Yw,hS,hA,hF⟩:=hR;have h3:=hE.n3 t (zy ht);refine(T6 hO (hE.prog W hf) hk uI hj ht hE.n1 hE.n2 (by omega)).mono ?_;rintro e w' ⟨rfl,hq⟩;obtain⟨hr,Zu⟩:=vw.wrote hE vH fL hi ZO Yw hS hA hF hO.lt hq;exact⟨rfl,⟨hr,by simp;omega,zL _⟩,Zu⟩
def Oo(b A0 q g:Nat)(gv:Value)(G:Nat->Prop)(F S:τ->Nat->Prop)(Inv:τ->World->Prop)(r:bo τ)(k:Nat){α:Type}(fn:α->τ->bo τ)(res:Except (Nat×τ) (α×τ))(W:World)(e:Ending)(w':World):Prop :=
 (match res with
  | .ok (a,s')=>e = .returned (.int .i64 ((k+1:Nat):Int))/\VmQ b A0 q g gv G F S Inv r (k+1) (fn a s') w'
  | .error (n,s')=>zg0 n e/\EH Inv S b { r with gs:=s' } w')/\Fr G G W w'
theorem La(hE:bd w0 A0 b G q mb g s vC vI rs gv E F S Inv)(hf:Fr G G w0 W)(hR:vw b A0 q g gv G F S Inv r W)(hk:s.code[k]? = some x)(uI:x.op=3){t:Wd}(hc:Y2 s x=some t)(hlen:r.out.length<=900000000) :
  Calls Tryz.prog 87 #[.pointer (some ⟨b,0,none⟩),.int .i64 (k:Nat)] W (Oo b A0 q g gv G F S Inv r k (fun v s'=>{ r with out:=r.out++E.wr v,gs:=s' }) (YM E t r.gs) W):=by
 obtain⟨j,hj,ht⟩:=Z1 hc;have hp:=hE.prog W hf;obtain⟨I,ic,kv,tv,q1,lt,i0,-,i3,-,kr,-⟩:=hp.ins hk;obtain⟨C,cc,q0,cj,Qi⟩:=hp.nQ ht;obtain⟨K,kc,rfl,kj,Dj⟩:=kr.at_ hj;have h3:=hE.n3 t (zy ht);have Zk:=hE.n1;have dC:=hE.n2;obtain⟨n,hN⟩:=xX s.code.length;obtain⟨m,hM⟩:=xX s.cs.length;obtain⟨z,hZ⟩:=xX x.k.length;rw[hN] at q1 lt Zk;rw[hM] at q0 Qi dC;rw[hZ] at i3 Dj;rw[uI] at i0;have o7:=hR;obtain⟨v,st,cs,hO,vH,fL,hi,ZO,Yw,hS,hA,hF⟩:=hR;have b0:=hO.cell.1;have Xp:B0 b q j t W:=⟨b0,C,m,cc,q0,cj,Qi,dC⟩;have CL:=z7 (LW hE.get b q j t r.gs W hO.cell.2.2.1 Xp hi (by omega));have k1:(k:Int)<(n:Int):=by omega
 have k3:(0:Int)<(z:Int):=by omega
 obtain⟨res,vV⟩:=xX (YM E t r.gs);rw[vV] at CL ⊢;have HE:=z7 hE;have HR:=z7 o7;have HF:=z7 hf;have HL:=z7 hlen;clear hE hf hp hk uI hO vH fL hi ZO Yw hS hA hF hN hM hZ kr hj ht hc o7 Xp vV hlen;go_enter func87,ntmps87;go_wp2_with fail;refine CL.out.mono ?_;intro e w1 hq
 cases res with
 | error er =>
  obtain⟨c,s'⟩:=er;obtain⟨⟨uE,rfl,hold⟩,hI⟩:=hq;obtain⟨h1,h2⟩:=vw.err HE.out HR.out hI;have HQ:=z7 (show Oo b A0 q g gv G F S Inv r k (fun v s'=>{ r with out:=r.out++E.wr v,gs:=s' }) (.error (c,s'):Except (Nat×τ) (vq×τ)) W (.panicked ({ v:=qW c,recovered:=false }::uE)) w1 from⟨⟨⟨uE,rfl,hold⟩,h1⟩,h2⟩);clear hold hI CL h1 h2;go_wp2;exact⟨rfl,HQ.out⟩
 | ok p =>
  obtain⟨nn,s'⟩:=p;obtain⟨⟨nv,rfl,nD,qP⟩,hI⟩:=hq;obtain⟨h1,h2,-⟩:=vw.asked HE.out HR.out hI;have rS:=z7 (FB HE.out (HF.out.trans h2) h1 nD HL.out);have JE:=z7 h2;have HWL:=z7 (HE.out.wrl nn nD.ok);obtain⟨gd,o,cap,rfl,-⟩:=nD;clear hI CL h1 h2;go_wp2_with fail;refine rS.out.mono ?_;rintro e w2 ⟨rfl,hr,vu⟩;have gG:=z7 (z8 hr vu);clear hr vu rS;go_wp2;go_ret;exact⟨⟨by first|rfl|simp,gG.out.1,by have:=HWL.out;simp;omega,zL _⟩,JE.out.trans gG.out.2⟩
end
section
variable {τ:Type} {w0 W:World} {A0 b q mb g k:Nat} {G:Nat->Prop} {s:MkS} {vC vI gv:Value} {rs:List (Value×Value)} {E:qL τ} {F S:τ->Nat->Prop} {Inv:τ->World->Prop} {r:bo τ} {x:j8}
theorem iZ(hE:bd w0 A0 b G q mb g s vC vI rs gv E F S Inv)(hf:Fr G G w0 W)(hR:vw b A0 q g gv G F S Inv r W)(hk:s.code[k]? = some x)(uI:x.op=2){t:Wd}(hc:Y2 s x=some t)(hlen:r.out.length<=900000000) :
  Calls Tryz.prog 87 #[.pointer (some ⟨b,0,none⟩),.int .i64 (k:Nat)] W (Oo b A0 q g gv G F S Inv r k (fun (p:Wd×Bool) s'=>{ r with out:=r.out++Ty E p.1 p.2,gs:=s' }) (YL E t r.gs) W):=by
 obtain⟨j,hj,ht⟩:=Z1 hc;have hp:=hE.prog W hf;obtain⟨I,ic,kv,tv,q1,lt,i0,-,i3,-,kr,-⟩:=hp.ins hk;obtain⟨C,cc,q0,cj,Qi⟩:=hp.nQ ht;obtain⟨K,kc,rfl,kj,Dj⟩:=kr.at_ hj;have h3:=hE.n3 t (zy ht);have Zk:=hE.n1;have dC:=hE.n2;obtain⟨n,hN⟩:=xX s.code.length;obtain⟨m,hM⟩:=xX s.cs.length;obtain⟨z,hZ⟩:=xX x.k.length;rw[hN] at q1 lt Zk;rw[hM] at q0 Qi dC;rw[hZ] at i3 Dj;rw[uI] at i0;have o7:=hR;obtain⟨v,st,cs,hO,vH,fL,hi,ZO,Yw,hS,hA,hF⟩:=hR;have b0:=hO.cell.1;have Xp:B0 b q j t W:=⟨b0,C,m,cc,q0,cj,Qi,dC⟩;have CL:=z7 (EE hE.get b q j t r.gs W hO.cell.2.2.1 Xp hi (by omega));have k1:(k:Int)<(n:Int):=by omega
 have k3:(0:Int)<(z:Int):=by omega
 obtain⟨res,vV⟩:=xX (YL E t r.gs);rw[vV] at CL ⊢;have aa:=z7 vV;have HE:=z7 hE;have HR:=z7 o7;have HF:=z7 hf;have HL:=z7 hlen;clear hE hf hp hk uI hO vH fL hi ZO Yw hS hA hF hN hM hZ kr hj ht hc o7 Xp vV hlen;go_enter func87,ntmps87;go_wp2_with fail;refine CL.out.mono ?_;intro e w1 hq
 cases res with
 | error er =>
  obtain⟨c,s'⟩:=er;obtain⟨⟨uE,rfl,hold⟩,hI⟩:=hq;obtain⟨h1,h2⟩:=vw.err HE.out HR.out hI;have HQ:=z7 (show Oo b A0 q g gv G F S Inv r k (fun (p:Wd×Bool) s'=>{ r with out:=r.out++Ty E p.1 p.2,gs:=s' }) (.error (c,s'):Except (Nat×τ) ((Wd×Bool)×τ)) W (.panicked ({ v:=qW c,recovered:=false }::uE)) w1 from⟨⟨⟨uE,rfl,hold⟩,h1⟩,h2⟩);clear hold hI CL h1 h2;go_wp2;exact⟨rfl,HQ.out⟩
 | ok p =>
  obtain⟨⟨u,num⟩,s'⟩:=p;obtain⟨⟨hu,rfl⟩,hI⟩:=hq;obtain⟨h1,h2,-⟩:=vw.asked HE.out HR.out hI;have hv:=Bo aa.out;have qP:(⟨u.toArray⟩:ByteArray).size=u.length:=size_mk _;have HP:=fun W=>z7 (Y4 ⟨u.toArray⟩ W (by rw[qP];exact hu))
  have fX:=z7 h1;have JE:=z7 h2;have HV:=z7 hv;clear hI CL h1 h2 hv
  cases num
  ·go_wp2_with fail;refine(HP _).out.mono ?_;rintro e w2 ⟨bb,pv,pk,rfl,⟨va,vn,vk,rfl⟩,xF,-⟩;have VH:Fr xH xH w1 w2:=((Fr.refl _ _).alloc _).trans (Fr.of xF);have e0:w2.cell? ⟨w1.heap.size,0,none⟩=some (xk u):=(xF.cell (by simp)).trans (xu _ _ _ _ 0);have e1:w2.cell? ⟨w1.heap.size,1,none⟩=some (.bool false):=(xF.cell (by simp)).trans (xu _ _ _ _ 1);obtain⟨V,hVe⟩:=xX w1.heap.size;rw[hVe] at e0 e1;obtain⟨W3,kT⟩:=xX (w2.alloc (.cells #[.bool bb,.slice va vn vk,.int .i64 pk] 97));have jx:Fr xH xH w1 W3:=by rw[←kT];exact VH.alloc _
   have d0:W3.cell? ⟨V,0,none⟩=some (xk u):=by rw[←kT];exact xQ e0 _
   have d1:W3.cell? ⟨V,1,none⟩=some (.bool false):=by rw[←kT];exact xQ e1 _
   have h60:u.length<=60:=by have:=HV.out;simpa[fG] using this
   have hR3:=fX.out.quiet HE.out jx;have XY:=z7 jx;obtain⟨v',RP,RS,hO',zpx,Xz,hi',zpv,zpu,tM,hA',hF'⟩:=hR3;have Qz:=z7 (KY (w:=W3.drew) u hO' (by have:=HL.out;simp only;omega));have gG:=z7 (fun w' hq=>vw.wrote (t:=u) (w':=w') HE.out zpx Xz hi' zpv zpu tM hA' hF' hO'.lt hq);clear xF VH e0 e1 hO' zpx Xz hi' zpv zpu tM hA' hF' jx HP
   cases uD u;all_goals
    go_wp2_with fail;try rw[kT]
    refine rk (fun W':World=>W'.cell? ⟨V,0,none⟩=some (xk u)) 5 (zV 5) 1 d0 ?_;(iterate 5 (refine ty ?_;try simp only[pl]))
    refine xq ?_;refine DJ 5 (fun J hJ=>?_);go_simp;refine Qz.out.mono ?_;rintro e w4 ⟨⟨uu,rfl⟩,Tp⟩;refine hJ.out _ _ ?_;clear hJ J;refine DG ?_ _;obtain⟨Gk,iY⟩:=gG.out w4 (by obtain⟨v4,a1,a2⟩:=Tp;exact⟨v4,a1,a2.und⟩);have H4:=z7 (z8 Gk iY);clear Tp Gk iY kT;go_wp2;go_ret;exact⟨⟨by first|rfl|simp,H4.out.1,by simp[Ty];omega,zL _⟩,(JE.out.trans (XY.out.wide (fun _ q=>q.elim))).trans H4.out.2⟩
  ·have X7:uD u=true:=by have:=HV.out;exact this
   have HN:=z7 X7;clear X7;go_wp2_with fail;refine(HP _).out.mono ?_;rintro e w2 ⟨bb,pv,pk,rfl,⟨va,vn,vk,rfl⟩,xF,vV⟩;obtain⟨rfl,rfl,xV⟩:=vV HN.out;obtain⟨d1',d2',hw',h30⟩:=KI HN.out;have VH:Fr xH xH w1 w2:=((Fr.refl _ _).alloc _).trans (Fr.of xF);have e0:w2.cell? ⟨w1.heap.size,0,none⟩=some (xk u):=(xF.cell (by simp)).trans (xu _ _ _ _ 0);have e1:w2.cell? ⟨w1.heap.size,1,none⟩=some (.bool true):=(xF.cell (by simp)).trans (xu _ _ _ _ 1);obtain⟨V,hVe⟩:=xX w1.heap.size;rw[hVe] at e0 e1;obtain⟨W3,kT⟩:=xX (w2.alloc (.cells #[.bool (YH u),.slice va vn vk,.int .i64 ((u9 u).length:Nat)] 97));have jx:Fr xH xH w1 W3:=by rw[←kT];exact VH.alloc _
   have d1:W3.cell? ⟨V,1,none⟩=some (.bool true):=by rw[←kT];exact xQ e1 _
   have gp:=RR (YH u) (w:=W3) (by rw[←kT];exact xV.alloc _) d1' d2' hw' h30;have hR3:=fX.out.quiet HE.out jx;have rS:=z7 (FB HE.out ((HF.out.trans JE.out).trans (jx.wide (fun _ q=>q.elim))) hR3 gp HL.out);have HWL:=z7 (HE.out.wrl _ gp.ok);have XY:=z7 jx;have n0:∀ j,W3.cell? ⟨w2.heap.size,j,none⟩=(#[zI (YH u),.slice va vn vk,.int .i64 ((u9 u).length:Nat)]:Array Value)[j]? := fun j=>by rw[←kT];exact xu _ _ _ _ _
   have m0:=n0 0;have m1:=n0 1;have m2:=n0 2;simp only[zg,zu,zk] at m0 m1 m2;clear xF VH e0 e1 gp hR3 jx HP vV xV n0;rw[HN.out];go_wp2_with fail;refine rS.out.mono ?_;rintro e w4 ⟨rfl,Gk,YY⟩;have H4:=z7 (z8 Gk YY);clear Gk YY rS;go_wp2;go_ret;exact⟨⟨by first|rfl|simp,H4.out.1,by have:=HWL.out;simp[Ty,numOf];omega,zL _⟩,(JE.out.trans (XY.out.wide (fun _ q=>q.elim))).trans H4.out.2⟩
end
section
variable {τ:Type} {w0 W:World} {A0 b q mb g k:Nat} {G:Nat->Prop} {s:MkS} {vC vI gv:Value} {rs:List (Value×Value)} {E:qL τ} {F S:τ->Nat->Prop} {Inv:τ->World->Prop} {r:bo τ} {x:j8}
structure EI(b A0 q g:Nat)(gv:Value)(G:Nat->Prop)(F S:τ->Nat->Prop)(Inv:τ->World->Prop)(r:bo τ)(v st:Value)(cs:List Value)(w:World):Prop where
 o:uh b (.pointer (some ⟨q,0,none⟩)) (.pointer (some ⟨g,0,none⟩)) gv st v r.out w
 row:w.ownsRow 0 272 6 st r.stk.length cs
 en:fZ (FD b v st (S r.gs)) w r.stk cs
 inv:Inv r.gs w
 sb:st.ownBlock≠some b
 sv:∀ k,xZ v k->¬xZ st k
 ds:∀ k,S r.gs k->(k+2<b\/b<k)/\¬xZ v k/\¬xZ st k
 da:∀ k,xZ v k\/xZ st k->A0<=k
 df:∀ k,F r.gs k->G k
theorem EI.asked(hE:bd w0 A0 b G q mb g s vC vI rs gv E F S Inv){v st:Value}{cs:List Value}{w w':World}(h:EI b A0 q g gv G F S Inv r v st cs w){s':τ}(hq:Inv s' w'/\Fr (F r.gs) (F s') w w'/\∀ k,S s' k->S r.gs k\/w.heap.size<=k) :
  EI b A0 q g gv G F S Inv { r with gs:=s' } v st cs w'/\Fr G G w w':=by
 obtain⟨hO,vH,fL,hi,ZO,Yw,hS,hA,hF⟩:=h;obtain⟨hi',hf,Wr⟩:=hq;have xD:=hO.lt;have nb:¬F r.gs b:=fun q=>by have:=(hS b (hE.get.sub _ _ q)).1;omega
 have nv:∀ k,xZ v k->¬F r.gs k:=fun k hk q=>(hS k (hE.get.sub _ _ q)).2.1 hk
 have nst:∀ k,xZ st k->¬F r.gs k:=fun k hk q=>(hS k (hE.get.sub _ _ q)).2.2 hk
 refine⟨⟨hO.fr hf nb nv,hf.own vH nst,fZ.fr hf (fun k hk => .inr (.inr (.inr (hE.get.sub _ _ hk)))) (fun k hk=>?_) fL,hi',ZO,Yw,fun k hk=>?_,hA,fun k hk=>?_⟩,?_⟩
 ·rcases hk with h|h|h|h
  ·exact .inl (.inl h)
  ·exact .inl (.inr (.inl h))
  ·exact .inl (.inr (.inr (.inl h)))
  ·exact(Wr k h).imp (fun q => .inr (.inr (.inr q))) id
 ·rcases Wr k hk with h|h
  ·exact hS k h
  ·exact⟨by omega,fun q=>by have:=ud hO.row q;omega,fun q=>by have:=ud vH q;omega⟩
 ·rcases hf.fp k hk with h|h
  ·exact hF k h
  ·exact hE.gA k (by have:=hE.gb;omega)
 ·exact(hf.tg (F'':=F r.gs) (fun k hk => .inl hk)).wide (fun k hk=>hF k hk)
theorem EI.quiet(hE:bd w0 A0 b G q mb g s vC vI rs gv E F S Inv){v st:Value}{cs:List Value}{w w':World}(h:EI b A0 q g gv G F S Inv r v st cs w)(hf:Fr xH xH w w'):EI b A0 q g gv G F S Inv r v st cs w' :=
 ⟨h.o.fr hf id (fun _ _ q=>q),hf.own h.row (fun _ _ q=>q),fZ.fr hf (fun _ q=>q.elim) (fun _ q => .inl q) h.en,hE.get.fr h.inv hf (fun _ q=>q.elim),h.sb,h.sv,h.ds,h.da,h.df⟩
theorem Ot(hE:bd w0 A0 b G q mb g s vC vI rs gv E F S Inv)(hf:Fr G G w0 W)(hR:vw b A0 q g gv G F S Inv r W)(hk:s.code[k]? = some x)(uI:x.op=4){t:Wd}(hc:Y2 s x=some t)(fU:r.stk.length<=900000) :
  Calls Tryz.prog 87 #[.pointer (some ⟨b,0,none⟩),.int .i64 (k:Nat)] W (Oo b A0 q g gv G F S Inv r k (fun v s'=>{ r with stk:=r.stk++[(v,Vh v x.v)],gs:=s' }) (YM E t r.gs) W):=by
 obtain⟨j,hj,ht⟩:=Z1 hc;have hp:=hE.prog W hf;obtain⟨I,ic,kv,tv,q1,lt,i0,i2,i3,-,kr,-⟩:=hp.ins hk;obtain⟨C,cc,q0,cj,Qi⟩:=hp.nQ ht;obtain⟨K,kc,rfl,kj,Dj⟩:=kr.at_ hj;have h3:=hE.n3 t (zy ht);have hv9:=(hE.n4 x (zy hk)).1;have Zk:=hE.n1;have dC:=hE.n2;obtain⟨n,hN⟩:=xX s.code.length;obtain⟨m,hM⟩:=xX s.cs.length;obtain⟨z,hZ⟩:=xX x.k.length;obtain⟨xv,hXV⟩:=xX x.v;rw[hN] at q1 lt Zk;rw[hM] at q0 Qi dC;rw[hZ] at i3 Dj;rw[hXV] at i2 hv9 ⊢;rw[uI] at i0;obtain⟨v,st,cs,hO,vH,fL,hi,ZO,Yw,hS,hA,hF⟩:=hR;have Lc:EI b A0 q g gv G F S Inv r v st cs W:=⟨hO,vH,fL,hi,ZO,Yw,hS,hA,hF⟩;have b0:=hO.cell.1;have tS:=hO.lt;have Xp:B0 b q j t W:=⟨b0,C,m,cc,q0,cj,Qi,dC⟩;have CL:=z7 (LW hE.get b q j t r.gs W hO.cell.2.2.1 Xp hi (by omega));have k1:(k:Int)<(n:Int):=by omega
 have k3:(0:Int)<(z:Int):=by omega
 obtain⟨res,vV⟩:=xX (YM E t r.gs);rw[vV] at CL ⊢;have HVI:=z7 (zW (hp.q1.symm.trans (show W.cell? ⟨q,1,none⟩=some (.slice (some ⟨I,0,none⟩) s.code.length ic) by rw[hN];exact q1)));have HK:=z7 hk;have HXV:=z7 hXV;have HLB:=z7 (z8 tS (z8 (fun k (hk:xZ v k)=>ud hO.row hk) (fun k (hk:xZ st k)=>ud vH hk)));have HE:=z7 hE;have Iz:=z7 Lc;have HF:=z7 hf;have HSL:=z7 fU;clear hE hf hp hk uI hO vH fL hi ZO Yw hS hA hF hN hM hZ kr hj ht hc Xp vV tS Lc hXV fU;go_enter func87,ntmps87;go_wp2_with fail;refine CL.out.mono ?_;intro e w1 hq
 cases res with
 | error er =>
  obtain⟨c,s'⟩:=er;obtain⟨⟨uE,rfl,hold⟩,hI⟩:=hq;obtain⟨h1,h2⟩:=Iz.out.asked HE.out hI;have HQ:=z7 (show Oo b A0 q g gv G F S Inv r k (fun v s'=>{ r with stk:=r.stk++[(v,Vh v xv)],gs:=s' }) (.error (c,s'):Except (Nat×τ) (vq×τ)) W (.panicked ({ v:=qW c,recovered:=false }::uE)) w1 from⟨⟨⟨uE,rfl,hold⟩,h1.inv,fun k hk=>(h1.ds k hk).1⟩,h2⟩);clear hold hI CL h1 h2;go_wp2;exact⟨rfl,HQ.out⟩
 | ok p =>
  obtain⟨nn,s'⟩:=p;obtain⟨⟨nv,rfl,nD,qP⟩,hI⟩:=hq;obtain⟨h1,h2⟩:=Iz.out.asked HE.out hI;have zg2:gT (FD b v st (S s')) w1 nv nn:=nD.fr (Fr.refl xH _) (fun _ q=>q.elim) (fun k hk => .inl (by
   rcases hk with rfl|h|h|h
   ·exact .inl HLB.out.1
   ·exact .inl (HLB.out.2.1 k h)
   ·exact .inl (HLB.out.2.2 k h)
   ·exact .inr h))
  have Va:=HE.out.prog w1 (HF.out.trans h2);have JE:=z7 h2;have zg3:=z7 h1;have HNN:=z7 zg2;have du:=z7 qP;obtain⟨gd,o,cap,zpj,-⟩:=nD;obtain⟨nb,DK⟩:=xX nn.1;obtain⟨LL,hLL⟩:=xX (nn.2.1.length+nn.2.2.length);obtain⟨sc,hsc⟩:=xX nn.2.2.length;rw[DK,hLL,hsc] at zpj;subst zpj;obtain⟨I2,ic2,kv2,tv2,q1',-,-,i2',-⟩:=Va.ins HK.out;have hIe:=zW (Va.q1.symm.trans q1');rw[HVI.out] at hIe;simp only[Value.slice.injEq,Option.some.injEq,Addr.mk.injEq,and_true,true_and] at hIe;rw[←hIe.1,HXV.out] at i2';obtain⟨B9,wW⟩:=xX w1.heap.size;obtain⟨W2,Nx⟩:=xX (w1.alloc (.cells #[.bool nb,.slice (some ⟨gd,o,none⟩) LL cap,.int .i64 (sc:Nat)] 97));have vu:Fr xH xH w1 W2:=by rw[←Nx];exact(Fr.refl _ _).alloc _
  have n0:∀ j,W2.cell? ⟨B9,j,none⟩=(#[zI nb,.slice (some ⟨gd,o,none⟩) LL cap,.int .i64 (sc:Nat)]:Array Value)[j]? := fun j=>by rw[←Nx,←wW];exact xu _ _ _ _ _
  have m0:=n0 0;have m1:=n0 1;have m2:=n0 2;simp only[zg,zu,zk] at m0 m1 m2;have i2W:=vu.cell i2' id;have zpg:=Te _ nn xv W2.drew ((zg2.any.fr vu (fun _ q=>q.elim) (M':=fun _=>False) (fun _ q=>q.elim)).fr (w':=W2.drew) (F:=xH) (F':=xH) ((Fr.refl _ _).drew) (fun _ q=>q.elim) (M':=fun _=>False) (fun _ q=>q.elim)) hv9 (by omega);have zpf:=z7 zpg;have fy:=z7 vu;clear h1 h2 hI CL zg2 Va zpg vu n0 hIe q1' i2' b0 q0 q1 i0 i2 i3 cj kj qP;go_wp2_with fail;try rw[Nx]
  clear Nx wW DK hLL hsc;refine rk (fun W':World=>W'.cell? ⟨B9,0,none⟩=some (.bool nb)/\W'.cell? ⟨B9,1,none⟩=some (.slice (some ⟨gd,o,none⟩) LL cap)/\W'.cell? ⟨B9,2,none⟩=some (.int .i64 (sc:Nat))/\W'.cell? ⟨I,k*5+2,none⟩=some (.int .i64 xv)) 11 (zV 9) 3 ⟨m0,m1,m2,i2W⟩ ?_;(iterate 9 (refine ty ?_;try simp only[pl]))
  refine xq ?_;refine Xf 9 (fun J hJ=>?_);go_simp;refine zpf.out.mono ?_;rintro e w3 ⟨⟨v3,rfl,Mr⟩,uP⟩;have jx:Fr xH xH W2 w3:=(Fr.of uP).und;have HZ:=z7 Mr;have HOK:=z7 Mr.ok;obtain⟨zz,Ms⟩:=xX (Vh nn xv);rw[Ms] at Mr HZ;obtain⟨g3,o3,zpd,hv3,-⟩:=Mr;obtain⟨zb,hzb⟩:=xX zz.1;obtain⟨L3,hL3⟩:=xX (zz.2.1.length+zz.2.2.length);obtain⟨sc3,zpb⟩:=xX zz.2.2.length;rw[hzb,hL3,zpb] at hv3;subst hv3;have rc:=zg3.out.quiet HE.out (fy.out.trans jx);have DD:=zg3.out.o.lt;have h1:gT (FD b v st (S s')) w3 (LR nb gd o LL cap sc) nn:=HNN.out.fr (fy.out.trans jx) (fun _ q=>q.elim) (fun _ q => .inl q);have h2:gT (FD b v st (S s')) w3 (LR zb g3 o3 L3 zpd sc3) zz:=HZ.out.fr (Fr.refl xH _) (fun _ q=>q.elim) (fun k hk => .inl (by
   have Nx:=fy.out.size;have Vu:=JE.out.size;show k<W2.heap.size;rcases hk with rfl|h|h|h
   ·omega
   ·have:=HLB.out.2.1 k h;omega
   ·have:=HLB.out.2.2 k h;omega
   ·have:=HE.out.get.EC s' w1 k zg3.out.inv h;omega))
  have fL:=fZ.snoc h1 h2 rc.en;have HPU:=z7 (iu rc.o rc.row rc.sb rc.sv (by have:=HSL.out;simp only;omega) nb zb gd o LL cap sc g3 o3 L3 zpd sc3);have jX:=z7 (fun w' hq=>vw.RA (r:={ r with gs:=s' }) (w:=w3) (w':=w') (stk:=r.stk++[(nn,zz)]) HE.out rc.row fL rc.inv rc.ds rc.da rc.df rc.o.lt (by rw[zU];exact hq));have c0:=jx.cell m0 id;have c1:=jx.cell m1 id;have c2:=jx.cell m2 id;have c3:=jx.cell i2W id;have XY:=z7 jx;have HZZ:=z7 Ms;clear jx rc h1 h2 fL uP zpf hzb hL3 zpb DD Ms m0 m1 m2 i2W;refine hJ.out _ _ ⟨c0,c1,c2,c3⟩ fun _=>?_
  clear hJ J;refine kx [10] 1 rfl (by intro _ _ d _ _ h;cases d<;>exact h) (by kernel_rfl) (by kernel_rfl) ⟨c0,c1,c2,c3⟩ ?_;refine ty ?_;try simp only[pl]
  refine xq ?_;refine DJ 11 (fun J hJ=>?_);go_simp;refine HPU.out.mono ?_;rintro e w4 ⟨rfl,Tp⟩;refine hJ.out _ _ ?_;clear hJ J;refine DG ?_ _;obtain⟨Gk,iY⟩:=jX.out w4 Tp;have H4:=z7 (z8 Gk iY);clear Tp Gk iY HPU jX;go_wp2;go_ret;have fY:=H4.out.1;rw[←HZZ.out] at fY;exact⟨⟨by first|rfl|simp,fY,zm _ _,by simp⟩,(JE.out.trans ((fy.out.trans XY.out).wide (fun _ q=>q.elim))).trans H4.out.2⟩
end
def JL(s:MkS)(p:Nat):Int:=Om (dV s.code s.code.length p)
section
variable {τ:Type} {w0 W:World} {A0 b q mb g k:Nat} {G:Nat->Prop} {s:MkS} {vC vI gv:Value} {rs:List (Value×Value)} {E:qL τ} {F S:τ->Nat->Prop} {Inv:τ->World->Prop} {r:bo τ} {x:j8}
theorem step_goto(hE:bd w0 A0 b G q mb g s vC vI rs gv E F S Inv)(hf:Fr G G w0 W)(hR:vw b A0 q g gv G F S Inv r W)(hk:s.code[k]? = some x)(uI:x.op=11){p:Nat}(Oh:x.tg[0]? = some p) :
  Calls Tryz.prog 87 #[.pointer (some ⟨b,0,none⟩),.int .i64 (k:Nat)] W fun e w'=>e = .returned (.int .i64 (JL s p))/\Fr xH xH W w':=by
 have hp:=hE.prog W hf;obtain⟨I,ic,kv,tv,q1,lt,i0,-,-,i4,-,tr⟩:=hp.ins hk;obtain⟨T,tc,rfl,tj,Ja⟩:=tr.at_ Oh;have G0:=(hE.n4 x (zy hk)).2 p (zy Oh);have Qa:=z7 (FG q mb s.code.length p _ W.drew hp.q2 (hp.mp.keep rfl) G0);have Zk:=hE.n1;obtain⟨jv,Bp⟩:=xX (JL s p);have HJ:=z7 Bp;rw[show Om (dV s.code s.code.length p)=jv from Bp] at Qa;rw[Bp];obtain⟨n,hN⟩:=xX s.code.length;obtain⟨z,hZ⟩:=xX x.tg.length;rw[hN] at q1 lt Zk;rw[hZ] at i4 Ja;rw[uI] at i0;obtain⟨v,st,cs,hO,-⟩:=hR;have b0:=hO.cell.1;have k1:(k:Int)<(n:Int):=by omega
 have k3:(0:Int)<(z:Int):=by omega
 clear hE hf hp hk uI hO hN hZ tr Oh Bp;go_enter func87,ntmps87;go_wp2_with fail;refine rt (fun W':World=>W'.cell? ⟨b,0,none⟩=some (.pointer (some ⟨q,0,none⟩))/\W'.cell? ⟨I,k*5+4,none⟩=some (.slice (some ⟨T,0,none⟩) z tc)/\W'.cell? ⟨T,0,none⟩=some (.int .i64 p)) (zV 10) 2 ⟨b0,i4,tj⟩ ?_;(iterate 10 (refine ty ?_;try simp only[pl]))
 refine xq ?_;refine kR 10 (fun J hJ=>?_);go_simp;refine Qa.out.mono ?_;rintro e w1 ⟨rfl,rfl⟩;refine hJ.out _ _ ⟨b0,i4,tj⟩ fun _=>?_
 clear hJ J;refine Vv [11] 0 ⟨b0,i4,tj⟩ ?_;refine ty ?_;try simp only[pl]
 refine xq ?_;refine bX ?_ _;go_wp2;go_ret;exact⟨rfl,(Fr.refl _ _).drew⟩
theorem Ow(hE:bd w0 A0 b G q mb g s vC vI rs gv E F S Inv)(hf:Fr G G w0 W)(hR:vw b A0 q g gv G F S Inv r W)(hk:s.code[k]? = some x)(uI:x.op=7){p:Nat}(Oh:x.tg[0]? = some p){stk:List (vq×vq)}{tp:vq×vq}(hs:r.stk=stk++[tp])(fU:r.stk.length<=1000000) :
  Calls Tryz.prog 87 #[.pointer (some ⟨b,0,none⟩),.int .i64 (k:Nat)] W fun e w'=>e = .returned (.int .i64 (if dU tp.1 x.v then JL s p else ((k+1:Nat):Int)))/\Fr xH xH W w':=by
 have hp:=hE.prog W hf;obtain⟨I,ic,kv,tv,q1,lt,i0,i2,-,i4,-,tr⟩:=hp.ins hk;obtain⟨T,tc,rfl,tj,Ja⟩:=tr.at_ Oh;obtain⟨hv9,G0⟩:=hE.n4 x (List.mem_of_getElem? hk);have G0:=G0 p (List.mem_of_getElem? Oh);have Qa:=Lib.hid (fun (w:World) (hq:w.cell? ⟨q,2,none⟩=some (.map (some mb))) (hm:ZX w mb s.code.length (dV s.code s.code.length))=>FG q mb s.code.length p (dV s.code s.code.length) w hq hm G0);have Qs:=Lib.hid (And.intro hp.q2 hp.mp);have Zk:=hE.n1;obtain⟨jv,Bp⟩:=xX (JL s p);rw[show Om (dV s.code s.code.length p)=jv from Bp] at Qa;rw[Bp];obtain⟨n,hN⟩:=xX s.code.length;obtain⟨z,hZ⟩:=xX x.tg.length;obtain⟨xv,hXV⟩:=xX x.v;rw[hN] at q1 lt Zk Qs Qa;rw[hZ] at i4 Ja;rw[hXV] at i2 hv9 ⊢;rw[uI] at i0;obtain⟨v,st,cs,hO,vH,fL,-⟩:=hR;obtain⟨tn,tz⟩:=tp;obtain⟨JJ,hJJ⟩:=xX ((if dU tn xv=true then jv else ((k+1:Nat):Int)));have HJJ:=Lib.hid hJJ;rw[show(if dU (tn,tz).1 xv=true then jv else ((k+1:Nat):Int))=JJ from hJJ];clear hJJ;have Xo:(stk++[(tn,tz)]).length=stk.length+1:=by simp
 rw[hs] at fL vH fU;rw[Xo] at vH fU;obtain⟨RS,nb,g1,o1,m1,c1,pK,zb,g2,o2,m2,c2,k2,rfl,Xz,hn,-⟩:=fL.last;have HT:=z7 (Jw (w:=W.drew) hO nb zb g1 o1 m1 c1 pK g2 o2 m2 c2 k2 vH Xz.len (by omega));have b0:=hO.cell.1;have k1:(k:Int)<(n:Int):=by omega
 have k3:(0:Int)<(z:Int):=by omega
 have eT:=LA;have HSM:=z7 (fun (w:World) (hb:Fr xH xH W w)=>iz _ tn xv w (hn.any.fr hb (fun _ q=>q.elim) (M':=fun _=>False) (fun _ q=>q.elim)) hv9);clear hE hf hp hk uI hO hN hZ tr Oh Bp vH fL Xz hs fU Xo hXV hn;go_enter func87,ntmps87;go_wp2_with fail;refine rt (fun W':World=>W'.cell? ⟨I,k*5+2,none⟩=some (.int .i64 xv)) [0,1,2,5,6,7,8] 4 i2 ?_;(iterate 7 (refine ty ?_;try simp only[pl]))
 refine xq ?_;refine kR 3 (fun J hJ=>?_);go_simp;refine HT.out.mono ?_;rintro e w1 ⟨rfl,xB⟩;have uy:Fr xH xH W w1:=(Fr.of xB).und;have i2a:=uy.cell i2 id;refine hJ.out _ _ i2a fun _=>?_
 clear hJ J;refine Vv [4] 2 i2a ?_;refine ty ?_;try simp only[pl]
 refine xq ?_;refine kR 9 (fun J hJ=>?_);go_simp;refine(HSM.out w1 uy).mono ?_;rintro e w2 ⟨rfl,xF⟩;have vu:Fr xH xH W w2:=uy.trans (Fr.of xF);have i2b:=vu.cell i2 id;have b0b:=vu.cell b0 id;have i4b:=vu.cell i4 id;have rT:=vu.cell tj id;have q2b:=vu.cell Qs.out.1 id;have O7:=z7 (Qs.out.2.keep (vu.keep mb Qs.out.2.lt id));refine hJ.out _ _ i2b fun _=>?_
 clear hJ J;refine Vv [10] 0 i2b ?_;refine ty ?_;try simp only[pl]
 refine xq ?_;refine bX ?_ _;have fy:=z7 vu;clear uy xB vu xF i2a HT HSM eT b0 i4 tj i2
 cases VV:dU tn xv
 ·have HSE:=z7 (show((k+1:Nat):Int)=JJ by rw[←HJJ.out,VV];rfl);clear VV;go_wp2;go_ret;exact⟨by rw[←HSE.out];first|rfl|simp,fy.out⟩
 ·have HSE:=z7 (show jv=JJ by rw[←HJJ.out,VV];rfl);have MT:=z7 (Qa.out w2.drew q2b (O7.out.keep rfl));clear VV Qa;go_wp2_with fail;refine rt (fun W':World=>W'.cell? ⟨b,0,none⟩=some (.pointer (some ⟨q,0,none⟩))/\W'.cell? ⟨I,k*5+4,none⟩=some (.slice (some ⟨T,0,none⟩) z tc)/\W'.cell? ⟨T,0,none⟩=some (.int .i64 p)) (zV 10) 2 ⟨b0b,i4b,rT⟩ ?_;(iterate 10 (refine ty ?_;try simp only[pl]))
  refine xq ?_;refine kR 10 (fun J hJ=>?_);go_simp;refine MT.out.mono ?_;rintro e w3 ⟨rfl,rfl⟩;refine hJ.out _ _ ⟨b0b,i4b,rT⟩ fun _=>?_
  clear hJ J;refine Vv [11] 0 ⟨b0b,i4b,rT⟩ ?_;refine ty ?_;try simp only[pl]
  refine xq ?_;refine bX ?_ _;go_wp2;go_ret;exact⟨by rw[←HSE.out];rfl,fy.out.drew⟩
end
section
variable {τ:Type} {w0 W:World} {A0 b q mb g k:Nat} {G:Nat->Prop} {s:MkS} {vC vI gv:Value} {rs:List (Value×Value)} {E:qL τ} {F S:τ->Nat->Prop} {Inv:τ->World->Prop} {r:bo τ} {x:j8}
theorem Tr(hE:bd w0 A0 b G q mb g s vC vI rs gv E F S Inv)(hf:Fr G G w0 W)(hR:vw b A0 q g gv G F S Inv r W)(hk:s.code[k]? = some x)(uI:x.op=8){p:Nat}{stk:List (vq×vq)}{tp:vq×vq}(hs:r.stk=stk++[tp])(Oh:x.tg[E.sort false tp.2.2]? = some p)(fU:r.stk.length<=1000000) :
  Calls Tryz.prog 87 #[.pointer (some ⟨b,0,none⟩),.int .i64 (k:Nat)] W fun e w'=>e = .returned (.int .i64 (JL s p))/\Fr xH xH W w':=by
 have hp:=hE.prog W hf;obtain⟨I,ic,kv,tv,q1,lt,i0,i2,-,i4,-,tr⟩:=hp.ins hk;obtain⟨T,tc,rfl,tj,Ja⟩:=tr.at_ Oh;have G0:=(hE.n4 x (List.mem_of_getElem? hk)).2 p (List.mem_of_getElem? Oh);have Qa:=Lib.hid (fun (w:World) (hq:w.cell? ⟨q,2,none⟩=some (.map (some mb))) (hm:ZX w mb s.code.length (dV s.code s.code.length))=>FG q mb s.code.length p (dV s.code s.code.length) w hq hm G0);have Qs:=Lib.hid (And.intro hp.q2 hp.mp);have Zk:=hE.n1;obtain⟨jv,Bp⟩:=xX (JL s p);rw[show Om (dV s.code s.code.length p)=jv from Bp] at Qa;rw[Bp];obtain⟨n,hN⟩:=xX s.code.length;obtain⟨z,hZ⟩:=xX x.tg.length;rw[hN] at q1 lt Zk Qs Qa;rw[hZ] at i4 Ja;rw[uI] at i0;obtain⟨v,st,cs,hO,vH,fL,-⟩:=hR;obtain⟨tn,tz⟩:=tp;have Xo:(stk++[(tn,tz)]).length=stk.length+1:=by simp
 rw[hs] at fL vH fU;rw[Xo] at vH fU;obtain⟨RS,nb,g1,o1,m1,c1,pK,zb,g2,o2,m2,c2,k2,rfl,Xz,-,hz⟩:=fL.last;have HT:=z7 (Jw (w:=W.drew) hO nb zb g1 o1 m1 c1 pK g2 o2 m2 c2 k2 vH Xz.len (by omega));obtain⟨cv,ov,hcv,qX,jJ⟩:=hE.set;have g0:=(hcv W hf).1;obtain⟨ix,Im⟩:=xX (E.sort false tz.2);have DQ:=z7 (fun (w:World) (hb:Fr xH xH W w)=>qX w _ tz.2 (hf.trans (hb.wide (G:=G) (fun _ q=>q.elim))) ((hz.any.fr hb (fun _ q=>q.elim) (M':=fun _=>False) (fun _ q=>q.elim))).num);simp only[Im] at DQ tj Ja;have b0:=hO.cell.1;have b1:=hO.cell.2.1;have k1:(k:Int)<(n:Int):=by omega
 have k3:(ix:Int)<(z:Int):=by omega
 have eT:=UB;clear hE hf hp hk uI hO hN hZ tr Oh Bp vH fL Xz hs fU Xo hz hcv qX jJ Im;go_enter func87,ntmps87;go_wp2_with fail;refine rt (fun W':World=>W'.cell? ⟨b,0,none⟩=some (.pointer (some ⟨q,0,none⟩))/\W'.cell? ⟨b,1,none⟩=some (.pointer (some ⟨g,0,none⟩))/\W'.cell? ⟨g,0,none⟩=some cv/\W'.cell? ⟨I,k*5+4,none⟩=some (.slice (some ⟨T,0,none⟩) z tc)/\W'.cell? ⟨T,ix,none⟩=some (.int .i64 p)) (zV 18) 7 ⟨b0,b1,g0,i4,tj⟩ ?_;(iterate 18 (refine ty ?_;try simp only[pl]))
 refine xq ?_;refine kR 18 (fun J hJ=>?_);go_simp;refine HT.out.mono ?_;rintro e w1 ⟨rfl,xB⟩;have uy:Fr xH xH W w1:=(Fr.of xB).und;have a1:=uy.cell b0 id;have a2:=uy.cell b1 id;have a3:=uy.cell g0 id;have a4:=uy.cell i4 id;have a5:=uy.cell tj id;refine hJ.out _ _ ⟨a1,a2,a3,a4,a5⟩ fun _=>?_
 clear hJ J;refine Vv [19] 5 ⟨a1,a2,a3,a4,a5⟩ ?_;refine ty ?_;try simp only[pl]
 refine xq ?_;refine kR 20 (fun J hJ=>?_);go_simp;refine(DQ.out w1 uy).mono ?_;rintro e w2 ⟨rfl,xF⟩;have vu:Fr xH xH W w2:=uy.trans (Fr.of xF);have d1:=vu.cell b0 id;have d2:=vu.cell b1 id;have d3:=vu.cell g0 id;have d4:=vu.cell i4 id;have d5:=vu.cell tj id;have q2b:=vu.cell Qs.out.1 id;have MT:=z7 (Qa.out w2 q2b (Qs.out.2.keep (vu.keep mb Qs.out.2.lt id)));have fy:=z7 vu;clear a1 a2 a3 a4 a5 uy xB vu xF b0 b1 g0 i4 tj HT DQ Qa Qs q2b;refine hJ.out _ _ ⟨d1,d2,d3,d4,d5⟩ fun _=>?_
 clear hJ J;refine Vv [21,22] 2 ⟨d1,d2,d3,d4,d5⟩ ?_;(iterate 2 (refine ty ?_;try simp only[pl]))
 refine xq ?_;refine kR 23 (fun J hJ=>?_);go_simp;refine MT.out.mono ?_;rintro e w3 ⟨rfl,rfl⟩;refine hJ.out _ _ ⟨d1,d2,d3,d4,d5⟩ fun _=>?_
 clear hJ J;refine Vv [24] 0 ⟨d1,d2,d3,d4,d5⟩ ?_;refine ty ?_;try simp only[pl]
 refine xq ?_;refine bX ?_ _;go_wp2;go_ret;exact⟨rfl,fy.out⟩
theorem Tt(hE:bd w0 A0 b G q mb g s vC vI rs gv E F S Inv)(hf:Fr G G w0 W)(hR:vw b A0 q g gv G F S Inv r W)(hk:s.code[k]? = some x)(uI:x.op=9){p:Nat}{stk:List (vq×vq)}{tp:vq×vq}(hs:r.stk=stk++[tp])(Oh:x.tg[E.sort true tp.2.2]? = some p)(fU:r.stk.length<=1000000) :
  Calls Tryz.prog 87 #[.pointer (some ⟨b,0,none⟩),.int .i64 (k:Nat)] W fun e w'=>e = .returned (.int .i64 (JL s p))/\Fr xH xH W w':=by
 have hp:=hE.prog W hf;obtain⟨I,ic,kv,tv,q1,lt,i0,i2,-,i4,-,tr⟩:=hp.ins hk;obtain⟨T,tc,rfl,tj,Ja⟩:=tr.at_ Oh;have G0:=(hE.n4 x (List.mem_of_getElem? hk)).2 p (List.mem_of_getElem? Oh);have Qa:=Lib.hid (fun (w:World) (hq:w.cell? ⟨q,2,none⟩=some (.map (some mb))) (hm:ZX w mb s.code.length (dV s.code s.code.length))=>FG q mb s.code.length p (dV s.code s.code.length) w hq hm G0);have Qs:=Lib.hid (And.intro hp.q2 hp.mp);have Zk:=hE.n1;obtain⟨jv,Bp⟩:=xX (JL s p);rw[show Om (dV s.code s.code.length p)=jv from Bp] at Qa;rw[Bp];obtain⟨n,hN⟩:=xX s.code.length;obtain⟨z,hZ⟩:=xX x.tg.length;rw[hN] at q1 lt Zk Qs Qa;rw[hZ] at i4 Ja;rw[uI] at i0;obtain⟨v,st,cs,hO,vH,fL,-⟩:=hR;obtain⟨tn,tz⟩:=tp;have Xo:(stk++[(tn,tz)]).length=stk.length+1:=by simp
 rw[hs] at fL vH fU;rw[Xo] at vH fU;obtain⟨RS,nb,g1,o1,m1,c1,pK,zb,g2,o2,m2,c2,k2,rfl,Xz,-,hz⟩:=fL.last;have HT:=z7 (Jw (w:=W.drew) hO nb zb g1 o1 m1 c1 pK g2 o2 m2 c2 k2 vH Xz.len (by omega));obtain⟨cv,ov,hcv,qX,jJ⟩:=hE.set;have g0:=(hcv W hf).2;obtain⟨ix,Im⟩:=xX (E.sort true tz.2);have DQ:=z7 (fun (w:World) (hb:Fr xH xH W w)=>jJ w _ tz.2 (hf.trans (hb.wide (G:=G) (fun _ q=>q.elim))) ((hz.any.fr hb (fun _ q=>q.elim) (M':=fun _=>False) (fun _ q=>q.elim))).num);simp only[Im] at DQ tj Ja;have b0:=hO.cell.1;have b1:=hO.cell.2.1;have k1:(k:Int)<(n:Int):=by omega
 have k3:(ix:Int)<(z:Int):=by omega
 have eT:=UB;clear hE hf hp hk uI hO hN hZ tr Oh Bp vH fL Xz hs fU Xo hz hcv qX jJ Im;go_enter func87,ntmps87;go_wp2_with fail;refine rt (fun W':World=>W'.cell? ⟨b,0,none⟩=some (.pointer (some ⟨q,0,none⟩))/\W'.cell? ⟨b,1,none⟩=some (.pointer (some ⟨g,0,none⟩))/\W'.cell? ⟨g,1,none⟩=some ov/\W'.cell? ⟨I,k*5+4,none⟩=some (.slice (some ⟨T,0,none⟩) z tc)/\W'.cell? ⟨T,ix,none⟩=some (.int .i64 p)) (zV 18) 7 ⟨b0,b1,g0,i4,tj⟩ ?_;(iterate 18 (refine ty ?_;try simp only[pl]))
 refine xq ?_;refine kR 18 (fun J hJ=>?_);go_simp;refine HT.out.mono ?_;rintro e w1 ⟨rfl,xB⟩;have uy:Fr xH xH W w1:=(Fr.of xB).und;have a1:=uy.cell b0 id;have a2:=uy.cell b1 id;have a3:=uy.cell g0 id;have a4:=uy.cell i4 id;have a5:=uy.cell tj id;refine hJ.out _ _ ⟨a1,a2,a3,a4,a5⟩ fun _=>?_
 clear hJ J;refine Vv [19] 5 ⟨a1,a2,a3,a4,a5⟩ ?_;refine ty ?_;try simp only[pl]
 refine xq ?_;refine kR 20 (fun J hJ=>?_);go_simp;refine(DQ.out w1 uy).mono ?_;rintro e w2 ⟨rfl,xF⟩;have vu:Fr xH xH W w2:=uy.trans (Fr.of xF);have d1:=vu.cell b0 id;have d2:=vu.cell b1 id;have d3:=vu.cell g0 id;have d4:=vu.cell i4 id;have d5:=vu.cell tj id;have q2b:=vu.cell Qs.out.1 id;have MT:=z7 (Qa.out w2 q2b (Qs.out.2.keep (vu.keep mb Qs.out.2.lt id)));have fy:=z7 vu;clear a1 a2 a3 a4 a5 uy xB vu xF b0 b1 g0 i4 tj HT DQ Qa Qs q2b;refine hJ.out _ _ ⟨d1,d2,d3,d4,d5⟩ fun _=>?_
 clear hJ J;refine Vv [21,22] 2 ⟨d1,d2,d3,d4,d5⟩ ?_;(iterate 2 (refine ty ?_;try simp only[pl]))
 refine xq ?_;refine kR 23 (fun J hJ=>?_);go_simp;refine MT.out.mono ?_;rintro e w3 ⟨rfl,rfl⟩;refine hJ.out _ _ ⟨d1,d2,d3,d4,d5⟩ fun _=>?_
 clear hJ J;refine Vv [24] 0 ⟨d1,d2,d3,d4,d5⟩ ?_;refine ty ?_;try simp only[pl]
 refine xq ?_;refine bX ?_ _;go_wp2;go_ret;exact⟨rfl,fy.out⟩
end
end Go.Proofs.YthpldolmpinnhaaGreatDoor
