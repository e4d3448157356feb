import Derived.Test.YthpldolmpinnhaaGreatDoorJK33
import Derived.Deep.CutBlock
set_option maxHeartbeats 64000000
open Go.Lib renaming hid→z7
open And renaming intro→z8
open List renaming mem_of_getElem?→zy,getElem?_cons_zero→zu,getElem?_cons_succ→zk,replicate→zj,getElem?_toArray→zg,all_eq_true→zY,range→zV,length_append→zU,mem_of_mem_drop→zJ,length_drop→zE,take_left→zP,eq_of_mem_replicate→zS,length_replicate→za,length_pos_iff→ze,append_assoc→zi,length_take→zl,all_append→zn
open Go.Value renaming ownBlock→zx,int→zD,bool→zI
open Go.World renaming frozen?_setCell→zv,cell?_alloc_lt→zf,block_lt_of_cell?→zZ,frozen?_of_block→zX,setCell→zR
open Nat renaming le_refl→zQ,lt_of_lt_of_le→zF,le_succ→zL,le_add_right→zm
open Go.RowKit.Below renaming refl→zG
open Go.Builtin renaming append_→zH,zeroCells→zM
open Go.IntKind renaming wrap_i64→zN,i64→zO
open Option.some renaming inj→zW
open Array renaming toList_append→zc
open Go.Proofs.Tryz
namespace Go.Proofs.YthpldolmpinnhaaGreatDoor
open Go Go.RowKit
set_option maxRecDepth 10000
def gL(M:Nat->Prop)(w:World)(v:Value)(n:vg):Prop :=
 ∃ g o cap,v = .agg #[.bool n.1,.slice (some ⟨g,o,none⟩) (n.2.1.length+n.2.2.length) cap,.int .i64 n.2.2.length]/\n.2.1.length+n.2.2.length<=cap/\cap<=maxLen/\¬M g/\(∃ c,w.cell? ⟨g,0,none⟩=some (.int .u8 c))/\xK w (some ⟨g,o,none⟩) (xl (n.2.1++n.2.2))/\CC n.2
theorem gL.num{M:Nat->Prop}{w:World}{v:Value}{n:vg}(h:gL M w v n):uM w v n.2:=by
 obtain⟨g,o,cap,h1,h2,h3,_,h4,h5,h6⟩:=h;exact⟨n.1,g,o,cap,h1,h2,h3,h4,h5,h6⟩
theorem xK.fr{F F':Nat->Prop}{w w':World}{a:Addr}{l:List Int}(h:xK w (some a) l)(hf:Fr F F' w w')(ha:¬F a.block):xK w' (some a) l:=fun j hj=>by
 obtain⟨b,hb,hc⟩:=h j hj
 cases hb;have e:(a.add j).block=a.block:=by unfold Addr.add;split<;>rfl
 exact⟨a,rfl,hf.cell hc (by rw[e];exact ha)⟩
theorem gL.fr{M M' F F':Nat->Prop}{w w':World}{v:Value}{n:vg}(h:gL M w v n)(hf:Fr F F' w w')(hF:∀ k,F k->M k)(hM:∀ k,M' k->M k\/w.heap.size<=k):gL M' w' v n:=by
 obtain⟨g,o,cap,h1,h2,h3,hg,⟨c,h4⟩,h5,h6⟩:=h;have hl:=zZ w _ h4;exact⟨g,o,cap,h1,h2,h3,fun q=>(hM g q).elim hg (fun q=>by simp only at hl;omega),⟨c,hf.cell h4 (fun q=>hg (hF g q))⟩,h5.fr hf (fun q=>hg (hF g q)),h6⟩
theorem PQ(l:Wd)(a:Addr)(c sz:Nat)(w:World)(hs:l.length<=sz)(h0:0<sz)(hk:sz<=300)(hB:xK w (some a) (xl l)) :
  Calls Tryz.prog 167 #[.slice (some a) l.length c,.int .i64 (sz:Int)] w fun e w'=>(∃ g cp,e = .returned (.slice (some ⟨g,0,none⟩) sz cp)/\xK w' (some ⟨g,0,none⟩) (xl (gW sz l))/\w.heap.size<=g)/\Below w.heap.size w w':=by
 obtain⟨k,rfl⟩:∃ k,sz=l.length+k:=⟨sz - l.length,by omega⟩;refine(aO l a c k w (by omega) (by omega) hB).mono ?_;rintro e w' ⟨⟨v,rfl,ho⟩,hb⟩;have Mm:(gW (l.length+k) l).length=l.length+k:=by rw[JF];omega
 obtain⟨g,cp,rfl,hg,-,-⟩:=vU ho h0;exact⟨⟨g,cp,rfl,qL ho Mm.symm,hg⟩,hb⟩
theorem SD(w:World)(B g cap n:Nat)(l:Wd)(xV:w.ownsRow B 5 1 (.slice (some ⟨g,0,none⟩) n cap) n (xh l))(k:Nat)(hn:n+k<=1000000)(ty:TypeId) :
  ∃ v' w',(zH #[48,3] ty #[.slice (some ⟨g,0,none⟩) n cap,.int .i64 (k:Int)]).run Tryz.prog w = .ok v' w'/\w'.ownsRow B 5 1 v' (n+k) (xh (l++zj k 48))/\w.grownBy w' (some g):=by
 obtain⟨i,hi,hz,h2,h3⟩:=xr.info;have ht:=xr.under;have lb:=underlying3;rcases xV.2 with⟨hv,_⟩|⟨g',vh,cur,hv,Fh,hg,tM,jG,dJ,YP⟩
 ·cases hv
 cases hv;have EY:l.length=n:=by have:=xV.1;simpa[xh] using this
 have yk1:cur.size=cap:=by simpa using dJ
 have hw:zO.wrap (k:Int)=k:=by rw[zN];omega
 have yg0:¬((k:Int)<0):=by omega
 have S6:¬(281474976710656<(k:Int)*(i.bytes:Int)):=by rw[h3];omega
 have hzc:(zM (zD .u8 0).cells k)=(zj k (zD .u8 0)).toArray:=by
  apply Array.ext';apply List.ext_getElem
  ·simp[zM,Value.cells]
  ·intro j h1 h2;simp[zM,Value.cells];rw[Nat.mod_one];rfl
 by_cases Jo:n+k<=cap
 ·by_cases h0:k=0
  ·subst h0;refine⟨_,w,?_,by simpa using xV,World.grownBy.refl _ _⟩;have hw0:zO.wrap 0=0:=by decide
   have yg1:n<=cap:=tM;simp[zH,run_underlying ht,run_underlying lb,sizeOf,typeInfo,hi,h2,h3,asInt,asIntOf,hw0,yg1];rfl
  ·have vL:=run_storeCells_at Tryz.prog g n 5 (zj k (zD .u8 0)) 0 cur w hg (by simp;omega) (by intro v hv;rw[zS hv];rfl);simp only[Nat.add_zero,za] at vL;refine⟨.slice (some ⟨g,0,none⟩) (n+k) cap,w.setRow g (cur.toList.take n++zj k (zD .u8 0)++cur.toList.drop (n+k)).toArray,?_,⟨by simp[xh,EY],.inr ⟨g,cap,_,rfl,Fh,setRow_heap w g cur _ _ _ hg,Jo,jG,?_,?_⟩⟩,⟨rfl,rfl,rfl,by simp,fun j _ hj=>setRow_other w g j _ (fun e=>hj (by simp[e]))⟩⟩
   ·simp[zH,run_underlying ht,run_underlying lb,sizeOf,typeInfo,zeroValue,hi,hz,h2,h3,asInt,asIntOf,hw,yg0,h0,Jo,hzc,Addr.add_lit,vL];intro xv7;omega
   ·simp;omega
   ·have ht':cur.toList.take n=xh l:=by simpa using YP
    rw[ht',Gl,XG];have:(xh l++zj k (zD .u8 0)).length=(n+k)*1:=by simp[xh,EY]
    rw[←this];exact zP
 ·have holds:∀ j u,(xh l)[j]? = some u->w.cell? ((⟨g,0,none⟩:Addr).add j)=some u:=xV.cells (g:=g) rfl;have KB:=run_firstCells_some (P:=Tryz.prog) w.drew i.size n ⟨g,0,none⟩ n cap (xh l) (by rw[h2];simp[xh,EY]) (by simpa using holds);have hr:=Lib.run_append_grow_zeros (P:=Tryz.prog) w _ _ ty _ i _ .i64 .i64 ht lb hi hz (some ⟨g,0,none⟩) n cap (xh l) KB k (by omega) (by omega) (by omega) (by omega) (by rw[h3];omega) (by rw[h3];exact growslice_fits (by omega) (by omega));have xC:=(Array.getElem?_eq_some_iff.1 hg).1;have hge:=grownCap_ge w (n+k) cap 5;refine⟨_,_,hr,⟨by simp[xh,EY],.inr ⟨w.heap.size,_,_,rfl,by omega,heap_alloc_new w.drew _,hge,grownCap_le_maxLen w (n+k) cap 5 (by unfold maxLen;omega),?_,?_⟩⟩,⟨rfl,rfl,rfl,by simp,fun k hk _=>heap_alloc_old w.drew _ hk⟩⟩
  ·have UL:(zD IntKind.u8 0).cells.size=1:=rfl;simp only[Array.size_append,List.size_toArray,size_zeroCells,UL];simp[xh,EY];omega
  ·rw[hzc,zc,zc,Gl,XG];have:(xh l++zj k (zD .u8 0)).length=(n+k)*1:=by simp[xh,EY]
   rw[←this];exact zP
theorem aS(n:vg)(v:Nat):VJ n v=if n.1 then (decide (xH (n.2.1++n.2.2)+v*10 ^ n.2.2.length≠0),Dq (xH (n.2.1++n.2.2)+v*10 ^ n.2.2.length) n.2.2.length)
 else if xH (n.2.1++n.2.2)<v*10 ^ n.2.2.length then (true,Dq (v*10 ^ n.2.2.length - xH (n.2.1++n.2.2)) n.2.2.length)
 else (false,Dq (xH (n.2.1++n.2.2) - v*10 ^ n.2.2.length) n.2.2.length):=rfl
def CN(B O q sc:Nat)(nb:Bool)(r:Nat)(w wc:World):Prop :=
 ∃ g n' cap d,wc.cell? ⟨O,0,none⟩=some (.bool nb)/\wc.cell? ⟨O,1,none⟩=some (.slice (some ⟨g,0,none⟩) n' cap)/\wc.cell? ⟨O,2,none⟩=some (.int .i64 (sc:Nat))/\(∀ j,wc.frozen? ⟨O,j,none⟩=false) /\
  wc.cell? ⟨q,2,none⟩=some (.int .i64 (sc:Nat))/\fh wc (q+1)/\wc.ownsRow B 5 1 (.slice (some ⟨g,0,none⟩) n' cap) n' (xh d)/\g≠O/\d.length=n'/\sc+1<=n'/\n'<=61/\d.all xF=true/\xH d=r/\Below B w wc
theorem fh.other{w:World}{q:Nat}(h:fh w q){a:Addr}(ha:a.block≠q)(u:Value):fh (w.setCell a u) q :=
 ⟨ub h.c0 _ ha,ub h.c1 _ ha,ub h.c2 _ ha,by rw[zv];exact h.z0,by rw[zv];exact h.z1,by rw[zv];exact h.z2,by simpa[zR] using h.lt⟩
theorem CN.mk1{B O q sc r n' cap g:Nat}{nb:Bool}{w w6:World}{u:Value}{d:Wd}(c0:w6.cell? ⟨O,0,none⟩=some (.bool nb))(c1:w6.cell? ⟨O,1,none⟩=some u)(c2:w6.cell? ⟨O,2,none⟩=some (.int .i64 (sc:Nat)))(fz:∀ j,w6.frozen? ⟨O,j,none⟩=false)
  (cq:w6.cell? ⟨q,2,none⟩=some (.int .i64 (sc:Nat))) (hR:fh w6 (q+1)) (hq:q+1<O) (ho:w6.ownsRow B 5 1 (.slice (some ⟨g,0,none⟩) n' cap) n' (xh d)) (hg:g≠O) (hl:d.length=n') (h1:sc+1<=n') (h3:n'<=61) (hd:d.all xF=true) (hr:xH d=r) (hb:Below B w w6) (hO:B<=O) :
  CN B O q sc nb r w (w6.setCell ⟨O,1,none⟩ (.slice (some ⟨g,0,none⟩) n' cap)) :=
 ⟨g,n',cap,d,by rw[xf,if_neg (by simp)];exact c0,u9 c1 _,by rw[xf,if_neg (by simp)];exact c2,fun j=>by rw[zv];exact fz j,ub cq _ (by show O≠q;omega),hR.other (by show O≠q+1;omega) _,xc ho (by simp[zx,Ne.symm hg]) _,hg,hl,h1,h3,hd,hr,hb.setCell hO _⟩
theorem CN.Ya{B O q sc r:Nat}{nb:Bool}{w wc:World}(h:CN B O q sc nb r w wc)(hq:q+1<O)(hO:B<=O)(b:Bool):CN B O q sc b r w (wc.setCell ⟨O,0,none⟩ (.bool b)):=by
 obtain⟨g,n',cap,d,c0,c1,c2,fz,cq,hR,ho,hg,hl,h1,h3,hd,hr,hb⟩:=h;exact⟨g,n',cap,d,u9 c0 _,by rw[xf,if_neg (by simp)];exact c1,by rw[xf,if_neg (by simp)];exact c2,fun j=>by rw[zv];exact fz j,ub cq _ (by show O≠q;omega),hR.other (by show O≠q+1;omega) _,xc ho (by simp[zx,Ne.symm hg]) _,hg,hl,h1,h3,hd,hr,hb.setCell hO _⟩
theorem PK{B gd j m c n' cp sc r:Nat}{w:World}{d:Wd}(fb:Bool)(ho:w.ownsRow B 5 1 (.slice (some ⟨gd,0,none⟩) n' cp) n' (xh d))(e1:j+m=n')(e2:j+c=cp)(hl:d.length=n')(hd:d.all xF=true)(h3:n'<=61)(hp:gW (sc+1) (xL r)=d.drop j) :
  gL (fun k=>k<B) w (.agg #[.bool fb,.slice (some ⟨gd,j,none⟩) m c,.int .i64 (sc:Nat)]) (fb,Dq r sc):=by
 have VE:n'<=cp/\cp<=maxLen:=by
  rcases ho.2 with⟨hv,_⟩|⟨g2,uB,cur,hv,_,_,hh,hh2,_⟩
  ·cases hv
  ·cases hv;exact⟨hh,hh2⟩
 have uA:(d.drop j).length=m:=by rw[zE];omega
 have hm:sc+1<=m:=by rw[←uA,←hp,JF];omega
 have hdd:(d.drop j).all xF=true:=by
  rw[zY] at hd ⊢;exact fun x hx=>hd x (zJ hx)
 have hf:Dq r sc=((d.drop j).take (m - sc),(d.drop j).drop (m - sc)):=by unfold Dq;rw[hp,uA]
 have hB:=(qL ho hl.symm).drop j;rw[Nat.zero_add,show(xl d).drop j=xl (d.drop j) by simp[xl]] at hB;have l1:((d.drop j).take (m - sc)).length=m - sc:=by rw[zl];omega
 have l2:((d.drop j).drop (m - sc)).length=sc:=by rw[zE];omega
 refine⟨gd,j,c,?_,?_,by omega,by have:=(ho.lt gd rfl).1;omega,⟨_,YD ho (m:=0) (by omega) hl⟩,?_,?_⟩
 ·rw[hf,l1,l2,show m - sc+sc=m by omega]
 ·rw[hf,l1,l2];omega
 ·rw[hf,List.take_append_drop];exact hB
 ·rw[hf];refine⟨?_,?_,fun e=>?_,by rw[l1];omega,by rw[l2];omega⟩
  ·rw[zY] at hdd ⊢;exact fun x hx=>hdd x (List.mem_of_mem_take hx)
  ·rw[zY] at hdd ⊢;exact fun x hx=>hdd x (zJ hx)
  ·have:=congrArg List.length e;rw[l1] at this;simp at this;omega
theorem SB(v:Value)(n:vg)(x:Nat)(w:World)(h:gL (fun _=>False) w v n)(hx:x<=1000000000)(hl:n.2.1.length+n.2.2.length<=40) :
  Calls Tryz.prog 131 #[v,.int .i64 (x:Nat)] w fun e w'=>(∃ v',e = .returned v'/\gL (fun k=>k<w.heap.size) w' v' (VJ n x))/\Below w.heap.size w w':=by
 obtain⟨neg,X⟩:=n;obtain⟨g,o,cap,rfl,YK,jG,-,h0,hB,ku⟩:=h;simp only at hl YK hB ku ⊢;obtain⟨B,hBe⟩:∃ B,w.heap.size=B:=⟨_,rfl⟩;obtain⟨L,hL⟩:∃ L,X.1.length+X.2.length=L:=⟨_,rfl⟩;obtain⟨sc,hsc⟩:∃ sc,X.2.length=sc:=⟨_,rfl⟩;have hL1:sc+1<=L:=by have:=ze.2 ku.ne;omega
 rw[hL] at hl YK ⊢;rw[hsc] at ⊢;obtain⟨W,hW⟩:∃ W,(w.alloc (.cells #[.bool neg,.slice (some ⟨g,o,none⟩) L cap,.int .i64 (sc:Nat)] 97)).alloc (.cells #[.bool false,.slice none 0 0,.int .i64 0] 97)=W:=⟨_,rfl⟩;have s1:(w.alloc (.cells #[.bool neg,.slice (some ⟨g,o,none⟩) L cap,.int .i64 (sc:Nat)] 97)).heap.size=B+1:=by simp[hBe]
 have b1:Below B w (w.alloc (.cells #[.bool neg,.slice (some ⟨g,o,none⟩) L cap,.int .i64 (sc:Nat)] 97)):=(zG _ _).alloc (by omega) _;have b2:Below B w W:=by rw[←hW];exact b1.alloc (by omega) _
 have cW:∀ j,j<3->W.cell? ⟨B,j,none⟩=(#[zI neg,.slice (some ⟨g,o,none⟩) L cap,.int .i64 (sc:Nat)]:Array Value)[j]? := fun j hj=>by
  rw[←hW,zf _ _ _ (by show B<_;omega),←hBe];exact xu _ _ _ _ _
 have hRW:fh W (B+1):=by
  rw[←hW,←s1];exact⟨xu _ _ _ _ _,xu _ _ _ _ _,xu _ _ _ _ _,by simp,by simp,by simp,by simp⟩
 have Le:=z7 hRW;have q0:=cW 0 (by omega);have q1:=cW 1 (by omega);have q2:=cW 2 (by omega);simp only[zg,zu,zk] at q0 q1 q2;have sW:W.heap.size=B+2:=by rw[←hW];simp[hBe]
 have HB:=z7 hB;have HX:=z7 (z8 ku (z8 hL hsc));have HW:=z7 b2;have Mt:=z7 hBe;have Br:=z7 sW;clear hB ku hL hsc b1 b2 s1 cW h0 hRW;go_enter func131,ntmps131;go_wp2_with fail;have HWE:=z7 hW;clear hW hBe;refine rt (fun W':World=>W'.cell? ⟨B,2,none⟩=some (.int .i64 (sc:Nat))) [0,3,4] 4 q2 ?_;(iterate 3 (refine ty ?_;try simp only[pl]))
 refine xq ?_;refine xg 1 (by kernel_rfl) rfl (fun J hJ=>?_);go_simp;refine(Zl x W.drew hx).mono ?_;rintro e w1 ⟨⟨g1,o9,rfl,D3⟩,xB⟩;have SC:Below W.heap.size W w1:=⟨xB.os,xB.tape,xB.output,xB.size,xB.block⟩;have r0:=(SC.cell (p:=⟨B,0,none⟩) (by show B<_;omega)).trans q0;have r1:=(SC.cell (p:=⟨B,1,none⟩) (by show B<_;omega)).trans q1;have r2:=(SC.cell (p:=⟨B,2,none⟩) (by show B<_;omega)).trans q2;have aN:=Q7;have uF:=SC.size;have uA:=qR 9 x (by omega);obtain⟨w2,v2,EC,QZ,dV⟩:∃ w2 v2,(zH #[48,3] 48 #[.slice (some ⟨g1,0,none⟩) (xL x).length o9,.int .i64 (sc:Int)]).run Tryz.prog w1 = .ok v2 w2/\w2.ownsRow (B+2) 5 1 v2 ((xL x).length+sc) (xh (xL x++zj sc 48))/\w1.grownBy w2 (some g1):=by
  obtain⟨v2,w2,a,b,c⟩:=SD w1 _ g1 o9 _ _ D3 sc (by omega) 48;exact⟨w2,v2,a,by rw[←Br.out];exact b,c⟩
 have Y9:B+2<=g1:=by
  have:=(D3.lt g1 rfl).1;rw[show W.drew.heap.size=W.heap.size from rfl,Br.out] at this;exact this
 have Vx:Below (B+2) W w2:=(SC.mono (by omega)).grown dV (by omega) (fun q hq=>by cases hq;exact Y9);have u0:=(Vx.cell (p:=⟨B,0,none⟩) (by show B<_;omega)).trans q0;have u1:=(Vx.cell (p:=⟨B,1,none⟩) (by show B<_;omega)).trans q1;have u2:=(Vx.cell (p:=⟨B,2,none⟩) (by show B<_;omega)).trans q2;obtain⟨dl,oC⟩:∃ dl,(xL x).length=dl:=⟨_,rfl⟩;have Ev:1<=dl:=by have:=ze.2 (di x);omega
 rw[oC] at QZ uA EC;have IE:=z7 oC;have HO2:=z7 QZ;have Ko:=z7 Vx;clear D3 xB SC dV Vx QZ;rw[oC];clear oC;refine hJ.out _ _ r2 fun _=>?_
 clear hJ J;refine xG [2] 2 rfl (by intro _ _ d _ _ h;cases d<;>exact h) (by kernel_rfl) (by kernel_rfl) r2 ?_;refine ty ?_;try simp only[pl]
 refine xq ?_;refine xg 5 (by kernel_rfl) rfl (fun J hJ=>?_);refine Lib.wp_append_run _ _ _ _ _ rfl _ _ rfl rfl _ _ EC ?_;refine hJ.out _ _ u2 fun _=>?_
 clear hJ J;refine xG [6] 0 rfl (by intro _ _ d _ _ h;cases d<;>exact h) (by kernel_rfl) (by kernel_rfl) u2 ?_;refine ty ?_;try simp only[pl]
 refine xq ?_;refine wpAnyH_done (by kernel_rfl) ?_ _;have OS:=vU HO2.out (by omega);obtain⟨g2,cp2,rfl,dV,yg5,-⟩:=OS;obtain⟨sz,qa⟩:∃ sz:Nat,max (L:Int) ((dl:Int)+(sc:Int))=(sz:Int):=⟨max L (dl+sc),by omega⟩;have z1:L<=sz:=by omega
 have z2:dl+sc<=sz:=by omega
 have z3:sz<=60:=by omega
 clear EC r0 r1 r2 q0 q1 q2;have qX:Below B w w2:=HW.out.trans (Ko.out.mono (by omega));have R3:=PQ (X.1++X.2) ⟨g,o,none⟩ cap sz w2 (by rw[zU,HX.out.2.1];exact z1) (by omega) (by omega) (HB.out.below (by rw[Mt.out];exact qX));rw[zU,HX.out.2.1] at R3;have HW1:=z7 R3;have ziz:=z7 qX;clear R3 qX;go_wp2_with fail;refine HW1.out.mono ?_;rintro e w3 ⟨⟨ga,ca,rfl,mg,hga⟩,uD⟩;have uw:=uD.size;have Z8:Below B w w3:=ziz.out.trans (uD.mono (by have:=Ko.out.size;omega));have Li:Below (B+2) W w3:=Ko.out.trans (uD.mono (by have:=Ko.out.size;omega));have EY:(xL x++zj sc 48).length=dl+sc:=by rw[zU,za,IE.out]
 have FO:=PQ (xL x++zj sc 48) ⟨g2,0,none⟩ cp2 sz w3 (by rw[EY];exact z2) (by omega) (by omega) ((qL HO2.out EY.symm).below uD);rw[EY] at FO;have HW2:=z7 FO;have iL:=z7 mg;have ziy:=z7 Z8;have HZ3:=z7 Li;have dN:=z7 uw;clear FO mg uD Z8 Li HW1 Ko ziz uw;go_wp2_with fail;refine HW2.out.mono ?_;rintro e w4 ⟨⟨gb,cb,rfl,oE,hgb⟩,uW⟩;have LN:=uW.size;have hz4:Below (B+2) W w4:=HZ3.out.trans (uW.mono (by have:=HZ3.out.size;omega));have bP:Below B w w4:=ziy.out.trans (uW.mono (by have:=HZ3.out.size;omega));have t0:w4.cell? ⟨B,0,none⟩=some (.bool neg):=by
  rw[hz4.cell (p:=⟨B,0,none⟩) (by show B<B+2;omega),←HWE.out,zf _ _ _ (by simp[Mt.out]),←Mt.out];exact xu _ _ _ _ _
 have t2:w4.cell? ⟨B,2,none⟩=some (.int .i64 (sc:Nat)):=by
  rw[hz4.cell (p:=⟨B,2,none⟩) (by show B<B+2;omega),←HWE.out,zf _ _ _ (by simp[Mt.out]),←Mt.out];exact xu _ _ _ _ _
 have EB:fh w4 (B+1):=Le.out.below (by rw[Br.out];exact hz4);have hA4:=iL.out.below uW;obtain⟨P1,mS⟩:∃ P1,gW sz (X.1++X.2)=P1:=⟨_,rfl⟩;obtain⟨P2,hP2⟩:∃ P2,gW sz (xL x++zj sc 48)=P2:=⟨_,rfl⟩;have dX:(X.1++X.2).all xF=true:=by rw[zn,HX.out.1.aC,HX.out.1.SZ];rfl
 have dZ:(xL x++zj sc 48).all xF=true:=by rw[zn,XK,Bool.true_and,zY];intro c hc;rw[zS hc];rfl
 have l1:P1.length=sz:=by rw[←mS,JF,zU,HX.out.2.1];omega
 have l2:P2.length=sz:=by rw[←hP2,JF,EY];omega
 have d1:P1.all xF=true:=by rw[←mS];exact PV dX
 have d2:P2.all xF=true:=by rw[←hP2];exact PV dZ
 have v1:xH P1=xH (X.1++X.2):=by rw[←mS];exact Uw _ _
 have v2:xH P2=x*10 ^ sc:=by rw[←hP2,gW,Uw,IF,PZ]
 rw[mS] at hA4;rw[hP2] at oE;have HA4:=z7 hA4;have Ep:=z7 oE;have HP:=z7 (z8 l1 (z8 l2 (z8 d1 (z8 d2 (z8 v1 v2)))));have HZ4:=z7 hz4;have ie:=z7 EB;have ziv:=z7 bP;have t4:B+2<=w4.heap.size:=by have:=hz4.size;omega
 clear hA4 oE l1 l2 d1 d2 v1 v2 mS hP2 dX dZ uW hz4 EB bP iL ziy HZ3 dN HW2 EY LN aN u0 u1 u2;go_wp2_with fail;obtain⟨l1,l2,d1,d2,v1,v2⟩:=HP.out;refine(Zm P1 P2 sz ca sz cb ⟨ga,0,none⟩ ⟨gb,0,none⟩ _ l1.symm l2.symm (HA4.out.alloc _) (Ep.out.alloc _) (l1.trans l2.symm) d1 d2).mono ?_;rintro e oH ⟨rfl,hw5⟩;obtain⟨O,hO⟩:∃ O,w4.heap.size=O:=⟨_,rfl⟩;obtain⟨cc,OD⟩:∃ cc,CL P1 P2=cc:=⟨_,rfl⟩;have Z0:cc<0 ↔ xH P1<xH P2:=by rw[←OD];exact aL (l1.trans l2.symm) d1 d2
 rw[OD];have o0:oH.cell? ⟨O,0,none⟩=some (.bool neg):=by rw[←hw5,←hO];exact xu _ _ _ _ _
 have o1:oH.cell? ⟨O,1,none⟩=some (.slice none 0 0):=by rw[←hw5,←hO];exact xu _ _ _ _ _
 have o2:oH.cell? ⟨O,2,none⟩=some (.int .i64 (sc:Nat)):=by rw[←hw5,←hO];exact xu _ _ _ _ _
 have b45:Below O w4 oH:=by rw[←hw5];exact(zG _ _).alloc (by omega) _
 have u0:=(b45.cell (p:=⟨B,0,none⟩) (by show B<O;omega)).trans t0;have u2:=(b45.cell (p:=⟨B,2,none⟩) (by show B<O;omega)).trans t2;have fz:∀ j,oH.frozen? ⟨O,j,none⟩=false:=by intro j;rw[←hw5,←hO];simp
 have s5:oH.heap.size=O+1:=by rw[←hw5,←hO];simp
 have HA5:=z7 (HA4.out.below (by rw[hO];exact b45));have lx:=z7 (Ep.out.below (by rw[hO];exact b45));have oI:=z7 (ziv.out.trans (b45.mono (by omega)));have HR5:=z7 (ie.out.below (by rw[hO];exact b45));have Wq:=z7 Z0;have TN:=z7 (aS (neg,X) x);rw[hO] at t4 ⊢;have LO:=z7 s5;clear Z0 hw5 OD b45 HA4 Ep ziv HZ4 t0 t2 hO l1 l2 d1 d2 v1 v2 s5 hgb hga yg5 dV;go_upto_block 0 with fail
 go_cut [] (fun wc=>∃ nb r,CN B O B sc nb r w wc/\VJ (neg,X) x=(nb && decide (r≠0),Dq r sc))
 case rest =>
  obtain⟨nb,r,⟨gd,n',cp,d,c0,c1,c2,cz,cq,hR,ho,hgO,ziu,Zz,TV,hdd,hdr,D0⟩,j5⟩:=hcut;clear o0 o1 o2 u0 u2 fz HA5 lx oI Wq TN HP HO2 LO IE;have HO:=z7 ho;have HD:=z7 (z8 ziu (z8 hdd hdr));have Yp:=z7 j5;have HBC:=z7 D0;clear ho ziu hdd hdr j5 D0;have HR:=z7 hR;clear hR HR5 ie Le;go_upto_block 1 with fail
  go_cut [] (fun wl=>∃ j m c,j+m=n'/\j+c=cp/\wl.cell? ⟨O,0,none⟩=some (.bool nb)/\wl.cell? ⟨O,1,none⟩=some (.slice (some ⟨gd,j,none⟩) m c)/\wl.cell? ⟨O,2,none⟩=some (.int .i64 (sc:Nat))/\(∀ j,wl.frozen? ⟨O,j,none⟩=false)/\fh wl (B+1)/\wl.ownsRow B 5 1 (.slice (some ⟨gd,0,none⟩) n' cp) n' (xh d)/\Below B w wl /\
   gW (sc+1) (xL r)=d.drop j)
  case rest =>
   obtain⟨j,m,c,e1,e2,c0,c1,c2,cz,hR,ho,hb,Pb⟩:=hcut;have hgB:gd≠B+1:=by
    rintro rfl;have h1:=YD ho (m:=0) (by have:=HD.out.1;omega) HD.out.1;rw[hR.c0] at h1
    cases h1
   have uA:(d.drop j).length=m:=by rw[zE,HD.out.1];omega
   have hB:=(qL ho HD.out.1.symm).drop j;rw[Nat.zero_add,show(xl d).drop j=xl (d.drop j) by simp[xl]] at hB;have HZ:=z7 (Qw (d.drop j) m uA.symm (some ⟨gd,j,none⟩) c nb (sc:Int) wc (by omega) hB);have hz:(d.drop j).all (· == 48)=decide (r=0):=by
    have h1:(d.drop j).all xF=true:=by
     have:=HD.out.2.1;rw[zY] at this ⊢;exact fun x hx=>this x (zJ hx)
    have h2:=Ge h1;rw[←Pb,gW,Uw,PZ] at h2;rw[Bool.eq_iff_iff,decide_eq_true_eq,←h2,←Pb,gW]
   rw[hz] at HZ;have HQ:=z7 (z8 e1 (z8 e2 (z8 ho (z8 hb Pb))));have r0:=hR.c0;have r1:=hR.c1;have r2:=hR.c2;have y0:=hR.z0;have y1:=hR.z1;have y2:=hR.z2;clear e1 e2 ho hb Pb uA hB hz hR HR
   cases nb
   ·go_wp2;obtain⟨e1,e2,ho,hb,Pb⟩:=HQ.out;refine bodyPost_ret (v := .agg #[.bool false,.slice (some ⟨gd,j,none⟩) m c,.int .i64 (sc:Nat)]) ?_ rfl ?_
    ·simp[results,results131,go_sem,r0,r1,r2]
    ·refine⟨⟨_,rfl,?_⟩,?_⟩
     ·rw[Yp.out,Mt.out];exact PK _ (xc (xc (xc (xc ho (by simp[zx];omega) _) (by simp[zx];omega) _) (by simp[zx];omega) _) (by simp[zx];omega) _) e1 e2 HD.out.1 HD.out.2.1 TV Pb
     ·rw[Mt.out];exact(((hb.setCell (by show B<=O;omega) _).setCell (by show B<=B+1;omega) _).setCell (by show B<=B+1;omega) _).setCell (by show B<=B+1;omega) _
   ·go_wp2_with fail;refine HZ.out.mono ?_;rintro e w7 ⟨rfl,jQ⟩;have lO:=zZ wc _ c0;have lR:=zZ wc _ r0;have c0':=(jQ.cell (p:=⟨O,0,none⟩) lO).trans c0;have c1':=(jQ.cell (p:=⟨O,1,none⟩) lO).trans c1;have TO:=(jQ.cell (p:=⟨O,2,none⟩) lO).trans c2;have cz':∀ j,w7.frozen? ⟨O,j,none⟩=false:=fun j=>(zX (jQ.block O lO)).trans (cz j)
    have r0':=(jQ.cell (p:=⟨B+1,0,none⟩) lR).trans r0;have r1':=(jQ.cell (p:=⟨B+1,1,none⟩) lR).trans r1;have r2':=(jQ.cell (p:=⟨B+1,2,none⟩) lR).trans r2;have y0':=(jQ.frozen (p:=⟨B+1,0,none⟩) lR).trans y0;have y1':=(jQ.frozen (p:=⟨B+1,1,none⟩) lR).trans y1;have y2':=(jQ.frozen (p:=⟨B+1,2,none⟩) lR).trans y2;have HB7:=z7 jQ;clear c0 c1 c2 cz r0 r1 r2 y0 y1 y2 jQ HZ;obtain⟨zz,Ll⟩:∃ zz,decide (r=0)=zz:=⟨_,rfl⟩;rw[Ll];have HZZ:=z7 Ll;clear Ll;go_wp2;obtain⟨e1,e2,ho,hb,Pb⟩:=HQ.out;refine bodyPost_ret (v := .agg #[.bool (!zz),.slice (some ⟨gd,j,none⟩) m c,.int .i64 (sc:Nat)]) ?_ rfl ?_
    ·simp[results,results131,go_sem,r0',r1',r2']
    ·refine⟨⟨_,rfl,?_⟩,?_⟩
     ·rw[Yp.out,Mt.out,Bool.true_and,show decide (r≠0) = !zz by rw[←HZZ.out];simp];exact PK _ (xc (xc (xc (xc (bu ho HB7.out) (by simp[zx];omega) _) (by simp[zx];omega) _) (by simp[zx];omega) _) (by simp[zx];omega) _) e1 e2 HD.out.1 HD.out.2.1 TV Pb
     ·rw[Mt.out];exact((((hb.trans (HB7.out.mono (by omega))).setCell (by show B<=O;omega) _).setCell (by show B<=B+1;omega) _).setCell (by show B<=B+1;omega) _).setCell (by show B<=B+1;omega) _
  case first =>
   go_wp2_with fail;go_loopw [] (fun wr=>∃ j m c,j+m=n'/\j+c=cp/\sc+1<=m/\wr.cell? ⟨O,0,none⟩=some (.bool nb)/\wr.cell? ⟨O,1,none⟩=some (.slice (some ⟨gd,j,none⟩) m c)/\wr.cell? ⟨O,2,none⟩=some (.int .i64 (sc:Nat))/\(∀ j,wr.frozen? ⟨O,j,none⟩=false)/\wr.cell? ⟨B,2,none⟩=some (.int .i64 (sc:Nat))/\fh wr (B+1)/\wr.ownsRow B 5 1 (.slice (some ⟨gd,0,none⟩) n' cp) n' (xh d)/\Below B w wr/\xH (d.drop j)=r) (fun wr=>match wr.cell? ⟨O,1,none⟩ with|some (.slice _ n _)=>n|_=>0)
   case atStart=>exact⟨0,n',cp,by omega,by omega,Zz,c0,c1,c2,cz,cq,HR.out,HO.out,HBC.out,HD.out.2.2⟩
   case round =>
    clear c0 c1 c2 cz cq;obtain⟨j,m,c,e1,e2,e3,c0,c1,c2,cz,cq,hR,ho,hb,hv⟩:=hrel;obtain⟨dl1,dl2,-⟩:=HD.out;have VE:n'<=cp:=by
     rcases ho.2 with⟨hv,_⟩|⟨g2,uB,cur,hv,_,_,hh,_⟩
     ·cases hv
     ·cases hv;exact hh
    have hjd:j<d.length:=by omega
    have ph:=YD ho hjd dl1;have xj:=kU (zY.1 dl2 _ (List.getElem_mem hjd));obtain⟨y,hy⟩:∃ y,d[j].toNat - 48=y:=⟨_,rfl⟩;rw[show((d[j].toNat:Int) - 48)=(y:Int) by omega] at ph;have hdd:(d.drop j).all xF=true:=by
     rw[zY] at dl2 ⊢;exact fun x hx=>dl2 x (zJ hx)
    have uA:(d.drop j).length=m:=by rw[zE];omega
    have vx:d.drop j≠[]:=fun e=>by rw[e] at uA;simp at uA;omega
    have hdc:=List.drop_eq_getElem_cons hjd;by_cases hm:sc+1<m
    ·have k1:(sc:Int)+1<(m:Int):=by omega
     have k2:decide ((sc:Int)+1<(m:Int))=true:=decide_eq_true k1;by_cases h0:y=0
     ·subst h0;have S6:d[j]=48:=UInt8.toNat.inj (by show _=48;omega);have OS:xH (d.drop (j+1))=r:=by
       rw[hdc,S6,qx] at hv;simpa using hv
      have xvk:¬(c=1):=by omega
      have qY:1<=c:=by omega
      have Vf:1<=m:=by omega
      have HQ:=z7 (z8 e1 (z8 e2 (z8 e3 (z8 hR (z8 ho (z8 hb OS))))));have HM:=z7 hm;clear e1 e2 e3 hR ho hb OS hv xj hy hdd uA vx hdc S6 dl1 dl2 VE hjd hm;go_wp2;obtain⟨e1,e2,e3,hR,ho,hb,OS⟩:=HQ.out;have hm:=HM.out;refine⟨⟨j+1,m - 1,c - 1,by omega,by omega,by omega,by rw[xf,if_neg (by simp)];exact c0,u9 c1 _,by rw[xf,if_neg (by simp)];exact c2,fun i=>by rw[zv];exact cz i,ub cq _ (by show O≠B;omega),hR.other (by show O≠B+1;omega) _,xc ho (by simp[zx,Ne.symm hgO]) _,hb.setCell (by show B<=O;omega) _,OS⟩,?_⟩;rw[u9 c1,c1];show m - 1<m;omega
     ·have h0':((y:Int)==0)=false:=by simp;omega
      have HQ:=z7 (z8 e1 (z8 e2 (z8 hR (z8 ho (z8 hb (show gW (sc+1) (xL r)=d.drop j by
       rw[←hv];exact PX hdd vx (by omega) (.inr (by rw[hdc];intro q;apply h0;rw[←hy,show d[j]=48 from q];rfl))))))))
      clear e1 e2 e3 hR ho hb hv xj hy hdd uA vx hdc dl1 dl2 VE hjd hm h0;go_wp2;go_meet
      obtain⟨e1,e2,hR,ho,hb,OS⟩:=HQ.out;exact⟨j,m,c,e1,e2,c0,c1,c2,cz,hR,ho,hb,OS⟩
    ·have k1:¬((sc:Int)+1<(m:Int)):=by omega
     have k2:decide ((sc:Int)+1<(m:Int))=false:=decide_eq_false k1;have HQ:=z7 (z8 e1 (z8 e2 (z8 hR (z8 ho (z8 hb (show gW (sc+1) (xL r)=d.drop j by
      rw[←hv];exact PX hdd vx (by omega) (.inl (by omega))))))))
     clear e1 e2 e3 hR ho hb hv xj hy hdd uA vx hdc dl1 dl2 VE hjd hm ph;go_wp2;go_meet
     obtain⟨e1,e2,hR,ho,hb,OS⟩:=HQ.out;exact⟨j,m,c,e1,e2,c0,c1,c2,cz,hR,ho,hb,OS⟩
 case first =>
  obtain⟨l1,l2,d1,d2,v1,v2⟩:=HP.out
  cases neg
  ·by_cases xC:xH P1<xH P2
   ·have HM:=z7 (Bu P2 P1 sz cb ca ⟨gb,0,none⟩ ⟨ga,0,none⟩ oH l2 l1 (by omega) (by omega) d2 d1 (by omega) lx.out HA5.out);have sf:=z7 (z8 v1 v2);have kc:decide (cc<0)=true:=decide_eq_true (Wq.out.2 xC);clear l1 l2 d1 d2 v1 v2;go_wp2_with fail;refine HM.out.mono ?_;rintro e w6 ⟨⟨v6,d,rfl,QK,sZ,Ea,V3⟩,dv⟩;rw[LO.out] at QK dv;obtain⟨g6,cp6,rfl,P7,-,-⟩:=vU QK (by omega);have e0:=(dv.cell (p:=⟨O,0,none⟩) (by show O<_;omega)).trans o0;have e1:=(dv.cell (p:=⟨O,1,none⟩) (by show O<_;omega)).trans o1;have e2:=(dv.cell (p:=⟨O,2,none⟩) (by show O<_;omega)).trans o2;have e3:=(dv.cell (p:=⟨B,2,none⟩) (by show B<_;omega)).trans u2;have ez:∀ j,w6.frozen? ⟨O,j,none⟩=false:=fun j=>(zX (dv.block O (by omega))).trans (fz j)
    have HOM:=z7 (CN.mk1 e0 e1 e2 ez e3 (HR5.out.below (by rw[LO.out];exact dv)) (by omega) (gH QK (by omega)) (by omega) sZ (by omega) (by omega) Ea V3 (oI.out.trans (dv.mono (by omega))) (by omega));clear QK dv V3 Ea sZ e3 fz o0 o1 o2 u0 u2;go_wp2;go_meet
    have MX:=TN.out;try simp only at MX
    rw[HX.out.2.2,←sf.out.1,←sf.out.2] at MX;refine⟨true,_,HOM.out.Ya (by omega) (by omega) true,?_⟩;rw[MX,if_neg (by simp),if_pos xC,decide_eq_true (by omega)];rfl
   ·have HM:=z7 (Bu P1 P2 sz ca cb ⟨ga,0,none⟩ ⟨gb,0,none⟩ oH l1 l2 (by omega) (by omega) d1 d2 (by omega) HA5.out lx.out);have sf:=z7 (z8 v1 v2);have kc:decide (cc<0)=false:=decide_eq_false (fun q=>xC (Wq.out.1 q));clear l1 l2 d1 d2 v1 v2;go_wp2_with fail;refine HM.out.mono ?_;rintro e w6 ⟨⟨v6,d,rfl,QK,sZ,Ea,V3⟩,dv⟩;rw[LO.out] at QK dv;obtain⟨g6,cp6,rfl,P7,-,-⟩:=vU QK (by omega);have e0:=(dv.cell (p:=⟨O,0,none⟩) (by show O<_;omega)).trans o0;have e1:=(dv.cell (p:=⟨O,1,none⟩) (by show O<_;omega)).trans o1;have e2:=(dv.cell (p:=⟨O,2,none⟩) (by show O<_;omega)).trans o2;have e3:=(dv.cell (p:=⟨B,2,none⟩) (by show B<_;omega)).trans u2;have ez:∀ j,w6.frozen? ⟨O,j,none⟩=false:=fun j=>(zX (dv.block O (by omega))).trans (fz j)
    have HOM:=z7 (CN.mk1 e0 e1 e2 ez e3 (HR5.out.below (by rw[LO.out];exact dv)) (by omega) (gH QK (by omega)) (by omega) sZ (by omega) (by omega) Ea V3 (oI.out.trans (dv.mono (by omega))) (by omega));clear QK dv V3 Ea sZ e3 fz o0 o1 o2 u0 u2;go_wp2;go_meet
    have MX:=TN.out;try simp only at MX
    rw[HX.out.2.2,←sf.out.1,←sf.out.2] at MX;refine⟨false,_,HOM.out,?_⟩;rw[MX,if_neg (by simp),if_neg xC];rfl
  ·have HM:=z7 (aP P1 P2 sz ca cb ⟨ga,0,none⟩ ⟨gb,0,none⟩ oH l1 l2 (by omega) (by omega) d1 d2 HA5.out lx.out);have sf:=z7 (z8 v1 v2);clear l1 l2 d1 d2 v1 v2;go_wp2_with fail;refine HM.out.mono ?_;rintro e w6 ⟨⟨v6,d,rfl,QK,sZ,Ea,V3⟩,dv⟩;rw[LO.out] at QK dv;obtain⟨g6,cp6,rfl,P7,-,-⟩:=vU QK (by omega);have e0:=(dv.cell (p:=⟨O,0,none⟩) (by show O<_;omega)).trans o0;have e1:=(dv.cell (p:=⟨O,1,none⟩) (by show O<_;omega)).trans o1;have e2:=(dv.cell (p:=⟨O,2,none⟩) (by show O<_;omega)).trans o2;have e3:=(dv.cell (p:=⟨B,2,none⟩) (by show B<_;omega)).trans u2;have ez:∀ j,w6.frozen? ⟨O,j,none⟩=false:=fun j=>(zX (dv.block O (by omega))).trans (fz j)
   have HOM:=z7 (CN.mk1 e0 e1 e2 ez e3 (HR5.out.below (by rw[LO.out];exact dv)) (by omega) (gH QK (by omega)) (by omega) sZ (by omega) (by omega) Ea V3 (oI.out.trans (dv.mono (by omega))) (by omega));clear QK dv V3 Ea sZ e3 fz o0 o1 o2 u0 u2;go_wp2;go_meet
   have MX:=TN.out;try simp only at MX
   rw[HX.out.2.2,←sf.out.1,←sf.out.2] at MX;refine⟨true,_,HOM.out,?_⟩;rw[MX];simp
theorem aW(v:Value)(n:vg)(x:Nat)(w:World){M:Nat->Prop}(h:gL M w v n)(hx:x<=1000000000) :
  Calls Tryz.prog 134 #[v,.int .i64 (x:Nat)] w fun e w'=>e = .returned (.bool (fe n x))/\Below w.heap.size w w':=by
 have KP:=h.num;obtain⟨neg,X⟩:=n;obtain⟨g,o,cap,rfl,-⟩:=h;simp only at KP ⊢;have qz:∀ ob,Below w.heap.size w (w.alloc ob):=fun ob=>(zG _ _).alloc (zQ _) _
 have HC:=fun ob=>z7 (KR _ X x (w.alloc ob) (KP.below (qz ob)) hx)
 clear KP
 cases neg
 ·obtain⟨cc,OD⟩:∃ cc,Qr X x=cc:=⟨_,rfl⟩;have HS:=z7 (show fe (false,X) x=decide (cc=0) by unfold fe;rw[OD];rfl);rw[OD] at HC;clear OD;go_enter func134,ntmps134;go_wp2_with fail;refine(HC _).out.mono ?_;rintro e w1 ⟨rfl,xB⟩;have hb:=(qz (.cells #[.bool false,.slice (some ⟨g,o,none⟩) (X.1.length+X.2.length) cap,.int .i64 X.2.length] 97)).trans (xB.mono (by simp));clear xB qz HC;go_wp2;go_ret;rw[HS.out];exact⟨by first|rfl|(congr 2;simp) ,hb⟩
 ·have HS:=z7 (show fe (true,X) x=false from rfl);have hb:=qz (.cells #[.bool true,.slice (some ⟨g,o,none⟩) (X.1.length+X.2.length) cap,.int .i64 X.2.length] 97);clear HC qz;go_enter func134,ntmps134;go_wp2;go_ret;exact⟨by rw[HS.out];rfl,hb⟩
theorem aA:ZV Tryz.prog 195 272 (.agg #[.bool false,.slice none 0 0,.int .i64 0,.bool false,.slice none 0 0,.int .i64 0]) 6 80 :=
 ⟨underlying195,info_parts (by kernel_rfl),rfl,by decide,by decide⟩
def Vu(nb:Bool)(g o n c k:Nat):List Value:=[.bool nb,.slice (some ⟨g,o,none⟩) n c,.int .i64 (k:Nat)]
abbrev IH(nb:Bool)(g o n c k:Nat):Value := .agg #[.bool nb,.slice (some ⟨g,o,none⟩) n c,.int .i64 (k:Nat)]
abbrev oL(b:Nat)(st:Value)(k:Nat):Prop:=k=b\/xX st k
section
variable {b:Nat} {x0 x1 x2 st v:Value} {l:Wd} {w w':World}
theorem uo.stk(h:uo b x0 x1 x2 st v l w)(PJ:Value):uo b x0 x1 x2 PJ v l (w.setCell ⟨b,5,none⟩ PJ):=by
 obtain⟨p,h1,h2,h3,h4,h5⟩:=h;exact⟨p,h1,by simp[zR,Array.getElem?_modify,h2],xc h3 (fun e=>h4 e.symm) _,h4,h5⟩
theorem uo.c5(h:uo b x0 x1 x2 st v l w):w.cell? ⟨b,5,none⟩=some st:=h.cell.2.2.2.1
theorem uo.z(h:uo b x0 x1 x2 st v l w)(j:Nat):w.frozen? ⟨b,j,none⟩=false:=h.cell.2.2.2.2 j
def II(b:Nat)(x0 x1 x2 st v:Value)(l:Wd)(n:Nat)(cs:List Value)(w w':World):Prop :=
 ∃ PJ,uo b x0 x1 x2 PJ v l w'/\w'.ownsRow 0 272 6 PJ n cs/\PJ.ownBlock≠some b/\(∀ g,xX v g->¬xX PJ g)/\Fr (oL b st) (oL b PJ) w w'
theorem ae(h:uo b x0 x1 x2 st v l w){n:Nat}{cs:List Value}(vL:w.ownsRow 0 272 6 st n cs)(ZJ:st.ownBlock≠some b)(YS:∀ g,xX v g->¬xX st g)(hn:n<=1000000)(nb zb:Bool)(g o m c k g' o' m' c' k':Nat) :
  Calls Tryz.prog 130 #[.pointer (some ⟨b,5,none⟩),.agg #[.bool nb,.slice (some ⟨g,o,none⟩) m c,.int .i64 (k:Nat),.bool zb,.slice (some ⟨g',o',none⟩) m' c',.int .i64 (k':Nat)]] w fun e w'=>e = .returned (.tuple #[])/\II b x0 x1 x2 st v l (n+1) (cs++(Vu nb g o m c k++Vu zb g' o' m' c' k')) w w':=by
 have HH:=z7 h;have xC:=h.lt;obtain⟨W,hW⟩:∃ W,w.alloc (.cells #[.bool nb,.slice (some ⟨g,o,none⟩) m c,.int .i64 (k:Nat),.bool zb,.slice (some ⟨g',o',none⟩) m' c',.int .i64 (k':Nat)] 272)=W:=⟨_,rfl⟩;have hb:Below w.heap.size w W:=by rw[←hW];exact(zG _ _).alloc (zQ _) _
 have Jz:Fr xN xN w W:=Fr.of hb;have sY:W.heap.size=w.heap.size+1:=by rw[←hW];simp
 have hOW:=h.fr Jz id (fun _ _ q=>q);have c5:=hOW.c5;have hc:∀ j,W.cell? ⟨w.heap.size,j,none⟩=(#[zI nb,.slice (some ⟨g,o,none⟩) m c,.int .i64 (k:Nat),.bool zb,.slice (some ⟨g',o',none⟩) m' c',.int .i64 (k':Nat)]:Array Value)[j]? := fun j=>by rw[←hW];exact xu _ _ _ _ _
 have e0:=hc 0;have e1:=hc 1;have e2:=hc 2;have e3:=hc 3;have e4:=hc 4;have e5:=hc 5;simp only[zg,zu,zk] at e0 e1 e2 e3 e4 e5;obtain⟨B,hB⟩:∃ B,w.heap.size=B:=⟨_,rfl⟩;rw[hB] at e0 e1 e2 e3 e4 e5 sY xC;have hoW:=Jz.own vL (fun _ _ q=>q);obtain⟨sa,sc,rfl⟩:=xZ vL;have HO:=z7 hoW;have FN:=z7 Jz;have I5:=z7 hOW;have If:=z7 YS;have HSB:=z7 ZJ;have jF:=z7 vL;clear h hb Jz hOW hc vL YS ZJ hoW;go_enter func130,ntmps130;go_wp2_with fail;try rw[hB]
 have HWE:=z7 hW;have Mt:=z7 hB;have TH:=z7 sY;clear hW hB sY;refine rk (fun W':World=>W'.cell? ⟨b,5,none⟩=some (.slice sa n sc)/\W'.cell? ⟨B,0,none⟩=some (.bool nb)/\W'.cell? ⟨B,1,none⟩=some (.slice (some ⟨g,o,none⟩) m c)/\W'.cell? ⟨B,2,none⟩=some (.int .i64 (k:Nat))/\W'.cell? ⟨B,3,none⟩=some (.bool zb)/\W'.cell? ⟨B,4,none⟩=some (.slice (some ⟨g',o',none⟩) m' c')/\W'.cell? ⟨B,5,none⟩=some (.int .i64 (k':Nat))) 10 [0,1,2,3,4,5] 5 ⟨c5,e0,e1,e2,e3,e4,e5⟩ ?_;(iterate 6 (refine ty ?_;try simp only[pl]))
 refine xq ?_;refine xI 6 (by kernel_rfl) rfl (fun J hJ=>?_);go_simp;refine hJ.out _ _ ⟨xQ c5 _,xQ e0 _,xQ e1 _,xQ e2 _,xQ e3 _,xQ e4 _,xQ e5 _⟩ fun _=>?_
 clear hJ J;refine xI 7 (by kernel_rfl) rfl (fun J hJ=>?_);rw[if_pos (by rfl)];change Oper.wp _ _ _ (W.drew.alloc (.cells [_,_,_,_,_,_].toArray _)) _ _
 refine Yr aA [_,_,_,_,_,_] 1 (by exact HO.out) (by omega) ?_;intro v2 w2 QZ vG;have vG:=vG.und;have sX:¬xX (.slice sa n sc) b:=fun e=>HSB.out e
 have nB:¬xX (.slice sa n sc) B:=fun e=>by have:=uS jF.out e;have:=Mt.out;omega
 have f0:=vG.cell c5 sX;have f1:=vG.cell e0 nB;have f2:=vG.cell e1 nB;have f3:=vG.cell e2 nB;have f4:=vG.cell e3 nB;have f5:=vG.cell e4 nB;have f6:=vG.cell e5 nB;have z2:w2.frozen? ⟨b,5,none⟩=false:=(vG.frozen (zZ _ _ c5) sX).trans (I5.out.z 5);have nb2:v2.ownBlock≠some b:=fun e=>(vG.fp b e).elim sX (fun q=>by have:=TH.out;omega)
 have hO2:uo b x0 x1 x2 v2 v l (w2.setCell ⟨b,5,none⟩ v2):=(I5.out.fr vG sX (fun g hg=>If.out g hg)).stk v2;have vS:Fr (oL b (.slice sa n sc)) (oL b v2) w (w2.setCell ⟨b,5,none⟩ v2):=by
  have h1:Fr (oL b (.slice sa n sc)) (oL b (.slice sa n sc)) w w2:=(FN.out.wide (G:=oL b (.slice sa n sc)) (fun _ q=>q.elim)).trans (vG.wide (fun k hk => .inr hk));refine(h1.set (a:=⟨b,5,none⟩) v2 (.inl (.inl rfl))).tg (fun k hk=>?_);rcases hk with rfl|hk
  ·exact .inl (.inl rfl)
  ·exact(vG.fp k hk).elim (fun q => .inl (.inr q)) (fun q => .inr (by have:=FN.out.size;omega))
 have HQ:=z7 (show II b x0 x1 x2 (.slice sa n sc) v l (n+1) (cs++(Vu nb g o m c k++Vu zb g' o' m' c' k')) w (w2.setCell ⟨b,5,none⟩ v2) from
  ⟨v2,hO2,xc QZ (fun e=>nb2 e.symm) _,nb2,fun g hg e=>(vG.fp g e).elim (If.out g hg) (fun q=>by have:=uS I5.out.row hg;omega),vS⟩)
 obtain⟨a2,cc2,rfl⟩:=xZ QZ;clear QZ vG hO2 vS nb2;go_simp;refine hJ.out _ _ ⟨f0,f1,f2,f3,f4,f5,f6⟩ fun _=>?_
 clear hJ J;refine kx [8,9] 1 rfl (by intro _ _ d _ _ h;cases d<;>exact h) (by kernel_rfl) (by kernel_rfl) ⟨f0,f1,f2,f3,f4,f5,f6⟩ ?_;(iterate 2 (refine ty ?_;try simp only[pl]))
 refine xq ?_;refine xw 10 (by kernel_rfl) (by kernel_rfl) rfl (fun J hJ=>?_);go_simp;refine hJ.out _ _ ?_;clear hJ J;refine vz (by kernel_rfl) ?_ _;go_wp2;go_end0
 exact⟨rfl,HQ.out⟩
theorem ai{base e size g n c:Nat}{w:World}{xs:List Value}(h:w.ownsRow base e size (.slice (some ⟨g,0,none⟩) (n+1) c) (n+1) xs):w.ownsRow base e size (.slice (some ⟨g,0,none⟩) n c) n (xs.take (n*size)):=by
 rcases h with⟨h1,h2⟩;rcases h2 with⟨hv,_⟩|⟨g2,uB,cur,hv,k1,k2,k3,k4,k5,k6⟩
 ·cases hv
 ·cases hv;refine⟨by rw[zl,h1,Nat.succ_mul];omega,.inr ⟨g,c,cur,rfl,k1,k2,by omega,k4,k5,?_⟩⟩;rw[←k6,List.take_take,Nat.min_eq_left (Nat.mul_le_mul_right _ (by omega))]
theorem oM(h:uo b x0 x1 x2 st v l w){n:Nat}{cs tp:List Value}(vL:w.ownsRow 0 272 6 st (n+1) (cs++tp))(dJ:cs.length=n*6)(ZJ:st.ownBlock≠some b)(YS:∀ g,xX v g->¬xX st g)(hn:n<=1000000) :
  Calls Tryz.prog 132 #[.pointer (some ⟨b,5,none⟩)] w fun e w'=>e = .returned (.tuple #[])/\II b x0 x1 x2 st v l n cs w w':=by
 obtain⟨g,c,rfl,-,hgl,-⟩:=vU vL (by omega);have c5:=h.c5;have z5:=h.z 5;have ho:=ai vL;rw[←dJ,zP] at ho;have YK:n+1<=c:=by
  rcases vL.2 with⟨hv,_⟩|⟨g2,uB,cur,hv,_,_,hh,_⟩
  ·cases hv
  ·cases hv;exact hh
 have Fh:b≠g:=fun e=>ZJ (by simp[zx,e])
 have HQ:=z7 (show II b x0 x1 x2 (.slice (some ⟨g,0,none⟩) (n+1) c) v l n cs w (w.setCell ⟨b,5,none⟩ (.slice (some ⟨g,0,none⟩) n c)) from
  ⟨_,h.stk _,xc ho (by simpa[zx] using Fh) _,by simpa[zx] using Ne.symm Fh,YS,(Fr.refl _ _).set (a:=⟨b,5,none⟩) _ (.inl (.inl rfl))⟩)
 have k1:((n:Int)+1) - 1=(n:Int):=by omega
 have kw:zO.wrap (n:Int)=(n:Int):=by rw[zN];omega
 have k2:n<=c:=by omega
 have k3:(n:Int)<=(c:Int):=by omega
 clear h vL ho ZJ YS YK dJ hgl;go_enter func132,ntmps132;go_wp2_with fail;refine rk (fun W':World=>W'.cell? ⟨b,5,none⟩=some (.slice (some ⟨g,0,none⟩) (n+1) c)) 14 (zV 14) 1 c5 ?_;(iterate 14 (refine ty ?_;try simp only[pl]))
 refine xq ?_;refine xw 14 (by kernel_rfl) (by kernel_rfl) rfl (fun J hJ=>?_);go_simp;refine hJ.out _ _ ?_;clear hJ J;refine vz (by kernel_rfl) ?_ _;go_wp2;go_end0
 obtain⟨PJ,a1,a2,a3,a4,a5⟩:=HQ.out;exact⟨rfl,PJ,a1,a2,a3,a4,a5.drew⟩
theorem JD(h:uo b x0 x1 x2 st v l w){n:Nat}{cs:List Value}(nb zb:Bool)(g o m c k g' o' m' c' k':Nat)(vL:w.ownsRow 0 272 6 st (n+1) (cs++(Vu nb g o m c k++Vu zb g' o' m' c' k')))(dJ:cs.length=n*6)(hn:n<=1000000) :
  Calls Tryz.prog 133 #[.pointer (some ⟨b,5,none⟩)] w fun e w' =>
   e = .returned (.agg #[.bool nb,.slice (some ⟨g,o,none⟩) m c,.int .i64 (k:Nat),.bool zb,.slice (some ⟨g',o',none⟩) m' c',.int .i64 (k':Nat)])/\Below w.heap.size w w':=by
 obtain⟨q,cp,rfl,-,hql,hc⟩:=vU vL (by omega);have c5:=xQ h.c5 (.cells #[.bool false,.slice none 0 0,.int .i64 0,.bool false,.slice none 0 0,.int .i64 0] 272);have cc:∀ j,j<6->(w.alloc (.cells #[.bool false,.slice none 0 0,.int .i64 0,.bool false,.slice none 0 0,.int .i64 0] 272)).cell? ⟨q,n*6+j,none⟩=(Vu nb g o m c k++Vu zb g' o' m' c' k')[j]? := fun j hj=>by
  rw[zf _ _ _ hql,hc _ (by omega),List.getElem?_append_right (by omega),dJ,Nat.add_sub_cancel_left]
 have e0:=cc 0 (by omega);have e1:=cc 1 (by omega);have e2:=cc 2 (by omega);have e3:=cc 3 (by omega);have e4:=cc 4 (by omega);have e5:=cc 5 (by omega);simp only[Vu,List.cons_append,List.nil_append,zu,zk,Nat.add_zero] at e0 e1 e2 e3 e4 e5;have k1:((n:Int)+1) - 1=(n:Int):=by omega
 have kw:zO.wrap (n:Int)=(n:Int):=by rw[zN];omega
 have k2:(n:Int)<(n:Int)+1:=by omega
 obtain⟨W,hW⟩:∃ W,w.alloc (.cells #[.bool false,.slice none 0 0,.int .i64 0,.bool false,.slice none 0 0,.int .i64 0] 272)=W:=⟨_,rfl⟩;rw[hW] at c5 e0 e1 e2 e3 e4 e5;have hb:Below w.heap.size w W:=by rw[←hW];exact(zG _ _).alloc (zQ _) _
 have hr:∀ j,W.cell? ⟨w.heap.size,j,none⟩=(#[zI false,.slice none 0 0,.int .i64 0,.bool false,.slice none 0 0,.int .i64 0]:Array Value)[j]? := fun j=>by rw[←hW];exact xu _ _ _ _ _
 have hz:∀ j,W.frozen? ⟨w.heap.size,j,none⟩=false:=fun j=>by rw[←hW];simp
 clear h vL hc cc dJ;go_enter func133,ntmps133;go_wp2_with fail;try rw[hW]
 obtain⟨B,hB⟩:∃ B,w.heap.size=B:=⟨_,rfl⟩;rw[hB] at hr hz hb ⊢;have r0:=hr 0;have r1:=hr 1;have r2:=hr 2;have r3:=hr 3;have r4:=hr 4;have r5:=hr 5;simp only[zg,zu,zk] at r0 r1 r2 r3 r4 r5;clear hr hW;refine rk (fun W':World=>W'.cell? ⟨b,5,none⟩=some (.slice (some ⟨q,0,none⟩) (n+1) cp)/\W'.cell? ⟨q,n*6,none⟩=some (.bool nb)/\W'.cell? ⟨q,n*6+1,none⟩=some (.slice (some ⟨g,o,none⟩) m c)/\W'.cell? ⟨q,n*6+2,none⟩=some (.int .i64 (k:Nat))/\W'.cell? ⟨q,n*6+3,none⟩=some (.bool zb)/\W'.cell? ⟨q,n*6+4,none⟩=some (.slice (some ⟨g',o',none⟩) m' c')/\W'.cell? ⟨q,n*6+5,none⟩=some (.int .i64 (k':Nat))) 12 (zV 12) 1 ⟨c5,e0,e1,e2,e3,e4,e5⟩ ?_;(iterate 12 (refine ty ?_;try simp only[pl]))
 refine xq ?_;refine xw 12 (by kernel_rfl) (by kernel_rfl) rfl (fun J hJ=>?_);go_simp;refine hJ.out _ _ ?_;clear hJ J;refine vz (by kernel_rfl) ?_ _;go_wp2;refine bodyPost_ret (v := .agg #[.bool nb,.slice (some ⟨g,o,none⟩) m c,.int .i64 (k:Nat),.bool zb,.slice (some ⟨g',o',none⟩) m' c',.int .i64 (k':Nat)]) ?_ rfl ?_
 ·simp[results,results133,go_sem,r0,r1,r2,r3,r4,r5]
 ·refine⟨rfl,?_⟩;rw[hB];(repeat(first|(with_reducible exact hb)|(with_reducible refine Below.drew ?_)|(with_reducible refine Below.setCell ?_ ?_ _;rotate_left;focus(exact zQ _))))
end
def zvk(o:zyk)(e:Ending):Prop :=
 match o with
 | .no=>∃ t b,e = .returned (.tuple #[.agg #[xk t,.bool b],.bool false])
 | .val t num=>t.length<=1000000/\e = .returned (.tuple #[.agg #[xk t,.bool num],.bool true])
 | .zyj=>False
section
variable {τ:Type}
def zij(E:qI τ)(F S:τ->Nat->Prop)(Inv:τ->World->Prop)(n:Wd)(s:τ)(w:World)(e:Ending)(w':World):Prop :=
 zvk (E.get n s).1 e/\Inv (E.get n s).2 w'/\Fr (F s) (F (E.get n s).2) w w'/\∀ k,S (E.get n s).2 k->S s k\/w.heap.size<=k
structure CO(gv:Value)(E:qI τ)(F S:τ->Nat->Prop)(Inv:τ->World->Prop):Prop where
 call:∃ K cp,gv = .func (.func K) #[] cp/\(∀ args w,(callFunc K args).run Tryz.prog w = .ok (.enter K args) w)/\∀ W s n,Inv s W->n.length<=5000000->Calls Tryz.prog K (#[xk n]++cp) W (zij E F S Inv n s W)
 sub:∀ s k,F s k->S s k
 CP:∀ s W k,Inv s W->S s k->k<W.heap.size
 keep:∀ s W W',Inv s W->W.heap.size<=W'.heap.size->(∀ k,S s k->W'.heap[k]? = W.heap[k]?)->Inv s W'
theorem CO.fr{gv:Value}{E:qI τ}{F S:τ->Nat->Prop}{Inv:τ->World->Prop}(h:CO gv E F S Inv){s:τ}{w w':World}{D D':Nat->Prop}(hi:Inv s w)(hf:Fr D D' w w')(hd:∀ k,D k->¬S s k):Inv s w' :=
 h.keep s w w' hi hf.size (fun k hk=>hf.keep k (h.CP s w k hi hk) (fun q=>hd k q hk))
theorem NO(A:Nat)(w:World)(hA:w.cell? ⟨A,0,none⟩=some (.bool true)):CallsD Tryz.prog 207 #[.pointer (some ⟨A,0,none⟩)] .returning w fun e u' w'=>e = .returned (.tuple #[])/\u' = .returning/\w'=w:=by
 refine callsD_of_wpS func207 rfl fun c₀ cs hu=>?_
 apply wpS_seq;apply wpS_region;simp[wpOpsS,go_sem,hu,hA,ntmps207,Exit.thenS];refine wpS_of_wp ?_;go_wp2
 cases c₀;simp_all [bodyPostS,results,results207]
theorem oN{gv:Value}{E:qI τ}{F S:τ->Nat->Prop}{Inv:τ->World->Prop}(hg:CO gv E F S Inv)(b:Nat)(n:Wd)(s:τ)(w:World)(c2:w.cell? ⟨b,2,none⟩=some gv)(hi:Inv s w)(hn:n.length<=5000000) :
  Calls Tryz.prog 165 #[.pointer (some ⟨b,0,none⟩),xk n] w (zij E F S Inv n s w):=by
 obtain⟨K,cp,rfl,Bc,vF⟩:=hg.call;have R0:∀ (fn:Fn) (first cap:Array Value) (w:World),(Instr.makeFunc fn first cap).run Tryz.prog w = .ok (.func fn first cap) w:=fun _ _ _ _=>rfl
 obtain⟨A,hA⟩:∃ A,w.heap.size=A:=⟨_,rfl⟩;obtain⟨V,hV⟩:∃ V,((w.alloc (.cells #[.string ⟨#[]⟩,.bool false] 86)).alloc (.cells #[.bool false] 4))=V:=⟨_,rfl⟩;obtain⟨W,hW⟩:∃ W,V.setCell ⟨A+1,0,none⟩ (.bool false)=W:=⟨_,rfl⟩;have s1:(w.alloc (.cells #[.string ⟨#[]⟩,.bool false] 86)).heap.size=A+1:=by simp[hA]
 have Jz:Fr xN xN w W:=by
  rw[←hW,←hV];exact(((Fr.refl _ _).alloc _).alloc _).set _ (.inr (by rw[hA];exact zL _))
 have c2W:=Jz.cell c2 id;have SE:W.heap.size=A+2:=by rw[←hW,←hV];simp[hA,zR]
 have v0:V.cell? ⟨A,0,none⟩=some (.string ⟨#[]⟩):=by rw[←hV,zf _ _ _ (by show A<_;omega),←hA];exact xu _ _ _ _ _
 have v1:V.cell? ⟨A,1,none⟩=some (.bool false):=by rw[←hV,zf _ _ _ (by show A<_;omega),←hA];exact xu _ _ _ _ _
 have v2:V.cell? ⟨A+1,0,none⟩=some (.bool false):=by rw[←hV,←s1];exact xu _ _ _ _ _
 have y0:∀ j,V.frozen? ⟨A,j,none⟩=false:=fun j=>by rw[←hV,zX (Below.heap_alloc _ _ _ (by show A<_;omega)),←hA];simp
 have y2:∀ j,V.frozen? ⟨A+1,j,none⟩=false:=fun j=>by rw[←hV,←s1];simp
 have a0:W.cell? ⟨A,0,none⟩=some (.string ⟨#[]⟩):=by rw[←hW];exact ub v0 _ (by show A+1≠A;omega)
 have a1:W.cell? ⟨A,1,none⟩=some (.bool false):=by rw[←hW];exact ub v1 _ (by show A+1≠A;omega)
 have a2:W.cell? ⟨A+1,0,none⟩=some (.bool false):=by rw[←hW];exact u9 v2 _
 have z0:∀ j,W.frozen? ⟨A,j,none⟩=false:=fun j=>by rw[←hW,zv];exact y0 j
 have z2:∀ j,W.frozen? ⟨A+1,j,none⟩=false:=fun j=>by rw[←hW,zv];exact y2 j
 have c2V:V.cell? ⟨b,2,none⟩=some (.func (.func K) #[] cp):=by
  have:Fr xN xN w V:=by rw[←hV];exact((Fr.refl _ _).alloc _).alloc _
  exact this.cell c2 id
 have hsV:V.heap.size=A+2:=by rw[←hV];simp[hA]
 have sU:=hg.fr hi Jz (fun _ q=>q.elim);have HC:=z7 (vF W s n sU hn);have FN:=z7 Jz;have HG:=z7 hg;have HSU:=z7 (fun k (hk:S s k)=>hg.CP s w k hi hk);have HSB:=z7 hg.sub;have HA:=z7 hA;have Br:=z7 SE;clear Jz vF sU c2 hi hg s1 SE;go_enter_defers func165,ntmps165
 go_wp2_with fail;try rw[hW]
 clear hW hV v0 v1 v2 y0 y2 hsV c2V hA;refine HC.out.mono ?_;rintro e w1 ⟨hr,U8,uq,uF⟩;have hAS:∀ k,A<=k->¬S s k:=fun k hk q=>by have:=HSU.out k q;have:=HA.out;omega
 have nA:¬F s A:=fun q=>hAS A (zQ _) (HSB.out _ _ q)
 have nA1:¬F s (A+1):=fun q=>hAS (A+1) (by omega) (HSB.out _ _ q)
 have b0:=uq.cell a0 nA;have b1:=uq.cell a1 nA;have b2:=uq.cell a2 nA1;have k0:∀ j,w1.frozen? ⟨A,j,none⟩=false:=fun j=>(uq.frozen (a:=⟨A,j,none⟩) (by show A<_;have:=Br.out;omega) nA).trans (z0 j)
 have k2:∀ j,w1.frozen? ⟨A+1,j,none⟩=false:=fun j=>(uq.frozen (a:=⟨A+1,j,none⟩) (by show A+1<_;have:=Br.out;omega) nA1).trans (z2 j)
 obtain⟨t,bb,ok,rfl⟩:∃ t bb ok,e = .returned (.tuple #[.agg #[xk t,.bool bb],.bool ok]):=by
  unfold zvk at hr;split at hr
  ·obtain⟨t,b,h⟩:=hr;exact⟨t,b,_,h⟩
  ·exact⟨_,_,_,hr.2⟩
  ·exact hr.elim
 have HR:=z7 hr;have HI:=z7 (z8 U8 (z8 uq uF));have HAS:=z7 hAS;clear hr U8 uq uF hAS nA nA1 a0 a1 a2 z0 z2 HC;go_wp2_with fail;obtain⟨X,hX⟩:∃ X,(((((w1.setCell ⟨A,0,none⟩ (xk t)).setCell ⟨A,1,none⟩ (.bool bb)).setCell ⟨A+1,0,none⟩ (.bool true)).setCell ⟨A,0,none⟩ (xk t)).setCell ⟨A,1,none⟩ (.bool bb))=X:=⟨_,rfl⟩;rw[hX];have n01:(⟨A,0,none⟩:Addr)≠⟨A,1,none⟩:=by simp
 have e2:X.cell? ⟨A+1,0,none⟩=some (.bool true):=by
  rw[←hX];exact ub (ub (u9 (ub (ub b2 _ (by simp)) _ (by simp)) _) _ (by simp)) _ (by simp)
 have e0:X.cell? ⟨A,0,none⟩=some (xk t):=by
  rw[←hX,xf,if_neg (by simp)];refine u9 (v:=xk t) ?_ _;refine ub ?_ _ (by simp);rw[xf,if_neg (by simp)];exact u9 b0 _
 have e1:X.cell? ⟨A,1,none⟩=some (.bool bb):=by
  rw[←hX];refine u9 (v := .bool bb) ?_ _;rw[xf,if_neg (by simp)];refine ub ?_ _ (by simp);refine u9 (v := .bool false) ?_ _;rw[xf,if_neg (by simp)];exact b1
 have hXf:Fr (fun k=>k=A\/k=A+1) (fun k=>k=A\/k=A+1) w1 X:=by
  rw[←hX];exact(((((Fr.refl _ _).set _ (.inl (.inl rfl))).set _ (.inl (.inl rfl))).set _ (.inl (.inr rfl))).set _ (.inl (.inl rfl))).set _ (.inl (.inl rfl))
 clear hX;refine leaves_cons (f:=207) (args:=#[.pointer (some ⟨A+1,0,none⟩)]) (by simp) (by simp[go_sem]) ?_;refine(NO (A+1) _ e2).mono ?_;rintro e u' Kb ⟨rfl,rfl,rfl⟩;simp[Leaves,settle,results,results165,go_sem,e0,e1];obtain⟨U8,uq,uF⟩:=HI.out;have hsS:∀ k,(k=A\/k=A+1)->¬S (E.get n s).2 k:=by
  intro k hk q;rcases uF k q with q|q
  ·exact HAS.out k (by omega) q
  ·have:=Br.out;omega
 refine⟨HR.out,HG.out.fr U8 hXf hsS,?_,fun k hk=>(uF k hk).imp id (fun q=>by have:=Br.out;have:=HA.out;omega)⟩;have h1:Fr (F s) (F (E.get n s).2) w w1:=((FN.out.wide (G:=F s) (fun _ q=>q.elim)).trans uq);exact⟨hXf.os.trans h1.os,hXf.tape.trans h1.tape,hXf.output.trans h1.output,Nat.le_trans h1.size hXf.size,fun k hk hn=>(hXf.keep k (zF hk h1.size) (fun q=>by have:=HA.out;omega)).trans (h1.keep k hk hn),h1.fp⟩
end
theorem Bq(t:Wd)(num:Bool)(w:World)(ht:t.length<=1000000) :
  Calls Tryz.prog 84 #[.agg #[xk t,.bool num]] w fun e w'=>e = .returned (.bool (fg t num))/\Below w.heap.size w w':=by
 have hb:∀ ob,Below w.heap.size w (w.alloc ob):=fun ob=>(zG _ _).alloc (zQ _) _
 have qa:(⟨t.toArray⟩:ByteArray).size=t.length:=size_mk _
 cases num
 ·have k1:((t.length:Int)<=60)=(t.length<=60):=by simp only[eq_iff_iff];omega
  have HS:=z7 (show fg t false=decide (t.length<=60) from rfl);have HB:=z7 (hb (.cells #[xk t,.bool false] 86));clear hb;go_enter func84,ntmps84;go_wp2;go_ret;rw[HS.out];exact⟨by simp,HB.out⟩
 ·have HS:=z7 (show fg t true=qg t from rfl);have HP:=fun ob=>z7 (Xh ⟨t.toArray⟩ (w.alloc ob) (by rw[qa];exact ht))
  go_enter func84,ntmps84;go_wp2_with fail;refine(HP _).out.mono ?_;rintro e w1 ⟨b,v,k,rfl,⟨va,vn,vk,rfl⟩,xB,-⟩;have HB:=z7 ((hb _).trans (xB.mono (by simp)));clear hb xB HP;go_wp2;go_ret;rw[HS.out];exact⟨rfl,HB.out.alloc HB.out.size _⟩
structure DZ(b q j:Nat)(n:Wd)(w:World):Prop where
 b0:w.cell? ⟨b,0,none⟩=some (.pointer (some ⟨q,0,none⟩))
 c:∃ C m cc,w.cell? ⟨q,0,none⟩=some (.slice (some ⟨C,0,none⟩) m cc)/\w.cell? ⟨C,j,none⟩=some (xk n)/\j<m/\m<=1000000
theorem DZ.fr{b q j:Nat}{n:Wd}{w w':World}{D D':Nat->Prop}(h:DZ b q j n w)(hf:Fr D D' w w')(hd:∀ k,¬D k):DZ b q j n w':=by
 obtain⟨b0,C,m,cc,h1,h2,h3⟩:=h;exact⟨hf.cell b0 (hd _),C,m,cc,hf.cell h1 (hd _),hf.cell h2 (hd _),h3⟩
def zvg(n:Nat)(e:Ending):Prop:=∃ uG:List PanicEntry,e = .panicked ({ v:=qP n,recovered:=false }::uG)/\uG.dropWhile (!·.goexit)=[]
section
variable {τ:Type}
def XB{α:Type}(F S:τ->Nat->Prop)(Inv:τ->World->Prop)(s:τ)(w:World)(ok:α->τ->World->Ending->Prop)(r:Except (Nat×τ) (α×τ))(e:Ending)(w':World):Prop :=
 match r with
 | .ok (a,s')=>ok a s' w' e/\Inv s' w'/\Fr (F s) (F s') w w'/\∀ k,S s' k->S s k\/w.heap.size<=k
 | .error (n,s')=>zvg n e/\Inv s' w'/\Fr (F s) (F s') w w'/\∀ k,S s' k->S s k\/w.heap.size<=k
theorem XB.more{gv:Value}{E:qI τ}{F S:τ->Nat->Prop}{Inv:τ->World->Prop}(hg:CO gv E F S Inv){s s':τ}{w w1 w2:World}{D D':Nat->Prop}(h:Inv s' w1/\Fr (F s) (F s') w w1/\∀ k,S s' k->S s k\/w.heap.size<=k)(hf:Fr D D' w1 w2)(hd:∀ k,D k->¬S s' k/\w.heap.size<=k):Inv s' w2/\Fr (F s) (F s') w w2/\∀ k,S s' k->S s k\/w.heap.size<=k :=
 ⟨hg.fr h.1 hf (fun k q=>(hd k q).1),⟨hf.os.trans h.2.1.os,hf.tape.trans h.2.1.tape,hf.output.trans h.2.1.output,Nat.le_trans h.2.1.size hf.size,fun k hk hn=>(hf.keep k (zF hk h.2.1.size) (fun q=>by have:=(hd k q).2;omega)).trans (h.2.1.keep k hk hn),h.2.1.fp⟩,h.2.2⟩
def ygx(a:Wd×Bool)(_:τ)(_:World)(e:Ending):Prop:=a.1.length<=1000000/\e = .returned (.agg #[xk a.1,.bool a.2])
theorem CR{gv:Value}{E:qI τ}{F S:τ->Nat->Prop}{Inv:τ->World->Prop}(hg:CO gv E F S Inv)(b q j:Nat)(n:Wd)(s:τ)(w:World)(c2:w.cell? ⟨b,2,none⟩=some gv)(hc:DZ b q j n w)(hi:Inv s w)(hn:n.length<=5000000) :
  Calls Tryz.prog 127 #[.pointer (some ⟨b,0,none⟩),.int .i64 (j:Nat)] w (XB F S Inv s w ygx (Yd E n s)):=by
 obtain⟨W,hW⟩:∃ W,w.alloc (.cells #[.string ⟨#[]⟩,.bool false] 86)=W:=⟨_,rfl⟩;have Jz:Fr xN xN w W:=by rw[←hW];exact(Fr.refl _ _).alloc _
 obtain⟨A,hA⟩:∃ A,w.heap.size=A:=⟨_,rfl⟩;have a0:W.cell? ⟨A,0,none⟩=some (.string ⟨#[]⟩):=by rw[←hW,←hA];exact xu _ _ _ _ _
 have a1:W.cell? ⟨A,1,none⟩=some (.bool false):=by rw[←hW,←hA];exact xu _ _ _ _ _
 have z0:∀ j,W.frozen? ⟨A,j,none⟩=false:=fun j=>by rw[←hW,←hA];simp
 have SE:W.heap.size=A+1:=by rw[←hW];simp[hA]
 have ar:∀ k,S s k->k<A:=fun k hk=>by rw[←hA];exact hg.CP s w k hi hk
 have sU:=hg.fr hi Jz (fun _ q=>q.elim);obtain⟨b0,C,m,cc,q0,cj,hjm,hm⟩:=hc.fr Jz (fun _ q=>q);have HAK:=z7 (oN hg b n s W (Jz.cell c2 id) sU hn);have k1:(j:Int)<(m:Int):=by omega
 have FN:=z7 Jz;have HG:=z7 hg;have HSU:=z7 ar;have Br:=z7 SE;clear Jz sU c2 hc hi hg ar SE;go_enter func127,ntmps127;go_wp2_with fail;refine HAK.out.mono ?_;rintro e w1 ⟨hr,U8,uq,uF⟩;have nA:¬F s A:=fun q=>by have:=HSU.out A (HG.out.sub _ _ q);omega
 have b0':=uq.cell a0 nA;have b1':=uq.cell a1 nA;have y0:∀ j,w1.frozen? ⟨A,j,none⟩=false:=fun j=>(uq.frozen (a:=⟨A,j,none⟩) (by show A<_;have:=Br.out;omega) nA).trans (z0 j)
 obtain⟨⟨o,s'⟩,ho⟩:∃ p,E.get n s=p:=⟨_,rfl⟩;rw[ho] at hr U8 uq uF;have hFw:Fr (F s) (F s') w w1:=(FN.out.wide (G:=F s) (fun _ q=>q.elim)).trans uq;have hSw:∀ k,S s' k->S s k\/w.heap.size<=k:=fun k hk=>(uF k hk).imp id (fun q=>by have:=FN.out.size;omega)
 have HO:=z7 ho;have HI:=z7 (z8 U8 (z8 hFw hSw));have zig:¬S s' A:=fun q=>(uF A q).elim (fun q=>by have:=HSU.out A q;omega) (fun q=>by have:=Br.out;omega)
 have HAS:=z7 zig;clear U8 uq uF hFw hSw ho HAK a0 a1 z0 b0 q0 cj nA zig
 cases o with
 | zyj=>exact hr.elim
 | no =>
  obtain⟨t,bb,rfl⟩:=hr;have HR:=z7 (show Yd E n s = .error (12,s') by unfold Yd;rw[HO.out]);go_wp2;refine⟨rfl,?_⟩;rw[HR.out];exact⟨⟨[],rfl,rfl⟩,XB.more HG.out HI.out ((Fr.refl xN _).alloc _) (fun _ q=>q.elim)⟩
 | val t num =>
  obtain⟨ht,rfl⟩:=hr;have HT:=z7 ht;have HV:=fun W=>z7 (Bq t num W ht)
  go_wp2_with fail;refine(HV _).out.mono ?_;rintro e w2 ⟨rfl,xD⟩;have lA:A<w1.heap.size:=zZ w1 _ b0';have VA:Fr xN xN w1 w2:=((Fr.refl _ _).alloc _).trans (Fr.of xD);have d0:=VA.cell b0' id;have d1:=VA.cell b1' id;have d2:∀ j,w2.frozen? ⟨A,j,none⟩=false:=fun j=>(VA.frozen (a:=⟨A,j,none⟩) lA id).trans (y0 j)
  have e0:w2.cell? ⟨w1.heap.size,0,none⟩=some (xk t):=(xD.cell (by simp)).trans (xu _ _ _ _ 0);have e1:w2.cell? ⟨w1.heap.size,1,none⟩=some (.bool num):=(xD.cell (by simp)).trans (xu _ _ _ _ 1);have HFZ:=z7 VA;have xvd:¬(w1.heap.size=A):=fun e=>by omega
  have hAI:=XB.more HG.out HI.out VA (fun _ q=>q.elim);have HAI:=z7 hAI;clear xD VA b0' b1' y0 HV hAI
  cases D5:fg t num
  ·have HR:=z7 (show Yd E n s = .error (11,s') by unfold Yd;rw[HO.out];simp only[D5];rfl);clear D5;go_wp2;refine⟨rfl,?_⟩;rw[HR.out];exact⟨⟨[],rfl,rfl⟩,HAI.out⟩
  ·have HR:=z7 (show Yd E n s = .ok ((t,num),s') by unfold Yd;rw[HO.out];simp only[D5];rfl);clear D5;go_wp2;refine bodyPost_ret (v := .agg #[xk t,.bool num]) ?_ rfl ?_
   ·simp[results,results127,go_sem,d0,d1]
   ·rw[HR.out];exact⟨⟨HT.out,rfl⟩,XB.more HG.out HAI.out (D:=fun k=>k=A) (((Fr.refl (fun k=>k=A) _).set (a:=⟨A,0,none⟩) _ (.inl rfl)).set (a:=⟨A,1,none⟩) _ (.inl rfl)) (fun k hk=>by subst hk;exact⟨HAS.out,by omega⟩)⟩
end
theorem PG{B:Nat}{w:World}{v:Value}{wh fr:Wd}(neg:Bool)(ho:w.ownsRow B 5 1 v (wh.length+fr.length) (xh (wh++fr)))(h1:wh.all xF=true)(h2:fr.all xF=true)(h3:0<wh.length)(h4:wh.length+fr.length<=30) :
  gL (fun k=>k<B) w (.agg #[.bool neg,v,.int .i64 (fr.length:Nat)]) (neg,(wh,fr)):=by
 obtain⟨g,cap,rfl,hg,-,-⟩:=vU ho (by omega);have VE:wh.length+fr.length<=cap/\cap<=maxLen:=by
  rcases ho.2 with⟨hv,_⟩|⟨g2,uB,cur,hv,_,_,hh,hh2,_⟩
  ·cases hv
  ·cases hv;exact⟨hh,hh2⟩
 exact⟨g,0,cap,rfl,VE.1,VE.2,by omega,⟨_,YD ho (m:=0) (by simp;omega) (by simp)⟩,qL ho (by simp),⟨h1,h2,fun e=>by have:=congrArg List.length e;simp at this;simp[this] at h3,by show wh.length<=100;omega,by show fr.length<=100;omega⟩⟩
section
variable {τ:Type}
theorem Bk{E:qI τ}{n t:Wd}{num:Bool}{s s':τ}(h:Yd E n s = .ok ((t,num),s')):fg t num=true:=by
 unfold Yd at h;split at h
 ·cases h
 ·cases h
 ·split at h
  ·cases h;assumption
  ·cases h
def zif(S:τ->Nat->Prop)(w:World)(n:vg)(s':τ)(w':World)(e:Ending):Prop:=∃ v,e = .returned v/\gL (fun k=>k<w.heap.size\/S s' k) w' v n/\n.2.1.length+n.2.2.length<=30
def WdP(t:Wd)(_:τ)(_:World)(e:Ending):Prop:=t.length<=1000000/\e = .returned (xk t)
theorem ah{gv:Value}{E:qI τ}{F S:τ->Nat->Prop}{Inv:τ->World->Prop}(hg:CO gv E F S Inv)(b q j:Nat)(n:Wd)(s:τ)(w:World)(c2:w.cell? ⟨b,2,none⟩=some gv)(hc:DZ b q j n w)(hi:Inv s w)(hn:n.length<=5000000) :
  Calls Tryz.prog 172 #[.pointer (some ⟨b,0,none⟩),.int .i64 (j:Nat)] w (XB F S Inv s w WdP (I3 E n s)):=by
 have HA:=z7 (CR hg b q j n s w c2 hc hi hn);obtain⟨r,hr⟩:∃ r,Yd E n s=r:=⟨_,rfl⟩;rw[hr] at HA;have HR:=z7 hr;have HG:=z7 hg;clear hg c2 hc hi hr;go_enter func172,ntmps172;go_wp2_with fail;refine HA.out.mono ?_;intro e w1 hq
 cases r with
 | error er =>
  obtain⟨m,s'⟩:=er;obtain⟨⟨uG,rfl,hold⟩,hI⟩:=hq;have HQ:=z7 (show XB F S Inv s w WdP (I3 E n s) (.panicked ({ v:=qP m,recovered:=false }::uG)) w1 by
   unfold I3;rw[HR.out];exact⟨⟨uG,rfl,hold⟩,hI⟩)
  clear hold hI HA;go_wp2;exact⟨rfl,HQ.out⟩
 | ok p =>
  obtain⟨⟨t,num⟩,s'⟩:=p;obtain⟨⟨ht,rfl⟩,hI⟩:=hq;have HI:=z7 hI;have HT:=z7 ht;clear hI HA
  cases num
  ·have HW:=z7 (show I3 E n s = .ok (t,s') by unfold I3;rw[HR.out];rfl);go_wp2;go_ret;rw[HW.out];exact⟨⟨HT.out,rfl⟩,XB.more HG.out HI.out ((Fr.refl xN _).alloc _) (fun _ q=>q.elim)⟩
  ·have HW:=z7 (show I3 E n s = .error (13,s') by unfold I3;rw[HR.out];rfl);go_wp2;refine⟨rfl,?_⟩;rw[HW.out];exact⟨⟨[],rfl,rfl⟩,XB.more HG.out HI.out ((Fr.refl xN _).alloc _) (fun _ q=>q.elim)⟩
theorem IL{gv:Value}{E:qI τ}{F S:τ->Nat->Prop}{Inv:τ->World->Prop}(hg:CO gv E F S Inv)(b q j:Nat)(n:Wd)(s:τ)(w:World)(c2:w.cell? ⟨b,2,none⟩=some gv)(hc:DZ b q j n w)(hi:Inv s w)(hn:n.length<=5000000) :
  Calls Tryz.prog 129 #[.pointer (some ⟨b,0,none⟩),.int .i64 (j:Nat)] w (XB F S Inv s w (zif S w) (Yb E n s)):=by
 obtain⟨W,hW⟩:∃ W,w.alloc (.cells #[.bool false,.slice none 0 0,.int .i64 0] 97)=W:=⟨_,rfl⟩;have Jz:Fr xN xN w W:=by rw[←hW];exact(Fr.refl _ _).alloc _
 obtain⟨A,hA⟩:∃ A,w.heap.size=A:=⟨_,rfl⟩;have hR:fh W A:=by rw[←hW,←hA];exact⟨xu _ _ _ _ _,xu _ _ _ _ _,xu _ _ _ _ _,by simp,by simp,by simp,by simp⟩
 have SE:W.heap.size=A+1:=by rw[←hW];simp[hA]
 have ar:∀ k,S s k->k<A:=fun k hk=>by rw[←hA];exact hg.CP s w k hi hk
 have sU:=hg.fr hi Jz (fun _ q=>q.elim);have HAR:=z7 (CR hg b q j n s W (Jz.cell c2 id) (hc.fr Jz (fun _ q=>q)) sU hn);obtain⟨r,hr⟩:∃ r,Yd E n s=r:=⟨_,rfl⟩;rw[hr] at HAR;have gV:=z7 hr;have HG:=z7 hg;have FN:=z7 Jz;have HSU:=z7 ar;have Br:=z7 SE;have HR:=z7 hR;clear hg c2 hc hi hr Jz ar sU SE hR;go_enter func129,ntmps129;go_wp2_with fail;refine HAR.out.mono ?_;intro e w1 hq;have conv:∀ {s':τ},(Inv s' w1/\Fr (F s) (F s') W w1/\∀ k,S s' k->S s k\/W.heap.size<=k)->(Inv s' w1/\Fr (F s) (F s') w w1/\∀ k,S s' k->S s k\/w.heap.size<=k):=fun h=>⟨h.1,(FN.out.wide (G:=F s) (fun _ q=>q.elim)).trans h.2.1,fun k hk=>(h.2.2 k hk).imp id (fun q=>by have:=FN.out.size;omega)⟩
 cases r with
 | error er =>
  obtain⟨m,s'⟩:=er;obtain⟨⟨uG,rfl,hold⟩,hI⟩:=hq;have HQ:=z7 (show XB F S Inv s w (zif S w) (Yb E n s) (.panicked ({ v:=qP m,recovered:=false }::uG)) w1 by
   unfold Yb;rw[gV.out];exact⟨⟨uG,rfl,hold⟩,conv hI⟩)
  clear hold hI HAR conv;go_wp2;exact⟨rfl,HQ.out⟩
 | ok p =>
  obtain⟨⟨t,num⟩,s'⟩:=p;obtain⟨⟨ht,rfl⟩,hI⟩:=hq;have HI:=z7 (conv hI);have nA:¬F s A:=fun q=>by have:=HSU.out A (HG.out.sub _ _ q);omega
  have hSA:¬S s' A:=fun q=>(hI.2.2 A q).elim (fun q=>by have:=HSU.out A q;omega) (fun q=>by have:=Br.out;omega)
  have uq:=hI.2.1;have lA:A<W.heap.size:=by have:=Br.out;omega
  have IU:fh w1 A:=⟨uq.cell HR.out.c0 nA,uq.cell HR.out.c1 nA,uq.cell HR.out.c2 nA,(uq.frozen (a:=⟨A,0,none⟩) lA nA).trans HR.out.z0,(uq.frozen (a:=⟨A,1,none⟩) lA nA).trans HR.out.z1,(uq.frozen (a:=⟨A,2,none⟩) lA nA).trans HR.out.z2,zF lA uq.size⟩;have fP:=z7 IU;have HSA:=z7 hSA;have HT:=z7 ht;clear hI HAR conv uq IU hSA nA lA
  cases num
  ·have HW:=z7 (show Yb E n s = .error (13,s') by unfold Yb;rw[gV.out];rfl);go_wp2;refine⟨rfl,?_⟩;rw[HW.out];exact⟨⟨[],rfl,rfl⟩,XB.more HG.out HI.out ((Fr.refl xN _).alloc _) (fun _ q=>q.elim)⟩
  ·have HW:=z7 (show Yb E n s = .ok (numOf t,s') by unfold Yb;rw[gV.out];rfl);have Yc:qg t=true:=by have:=Bk gV.out;exact this
   have HN:=z7 Yc;have qa:(⟨t.toArray⟩:ByteArray).size=t.length:=size_mk _;have HP:=fun W=>z7 (Xh ⟨t.toArray⟩ W (by rw[qa];exact ht))
   clear Yc;go_wp2_with fail;refine(HP _).out.mono ?_;rintro e w2 ⟨bb,v,k,rfl,⟨va,vn,vk,rfl⟩,xD,vM⟩;obtain⟨rfl,rfl,xV⟩:=vM HN.out;have VA:Fr xN xN w1 w2:=((Fr.refl _ _).alloc _).trans (Fr.of xD);have Ln:fh w2 A:=⟨VA.cell fP.out.c0 id,VA.cell fP.out.c1 id,VA.cell fP.out.c2 id,(VA.frozen (a:=⟨A,0,none⟩) fP.out.lt id).trans fP.out.z0,(VA.frozen (a:=⟨A,1,none⟩) fP.out.lt id).trans fP.out.z1,(VA.frozen (a:=⟨A,2,none⟩) fP.out.lt id).trans fP.out.z2,Nat.lt_of_lt_of_le fP.out.lt VA.size⟩;have r0:=Ln.c0;have r1:=Ln.c1;have r2:=Ln.c2;have y0:=Ln.z0;have y1:=Ln.z1;have y2:=Ln.z2;have hAw:A<w2.heap.size:=Ln.lt;have R3:A<w1.heap.size:=fP.out.lt;have Yh:(w1.alloc (.cells #[xk t,.bool true] 86)).heap.size=w1.heap.size+1:=by simp
   rw[Yh] at xV;have HO:=z7 xV;have HFZ:=z7 VA;clear xV vM xD VA Ln Yh HP;go_wp2;obtain⟨X,hX⟩:∃ X,((w2.setCell ⟨A,0,none⟩ (.bool (Vz t))).setCell ⟨A,1,none⟩ (.slice va vn vk)).setCell ⟨A,2,none⟩ (.int .i64 ((ua t).length:Nat))=X:=⟨_,rfl⟩;have x0:X.cell? ⟨A,0,none⟩=some (.bool (Vz t)):=by
    rw[←hX,xf,if_neg (by simp),xf,if_neg (by simp)];exact u9 r0 _
   have x1:X.cell? ⟨A,1,none⟩=some (.slice va vn vk):=by
    rw[←hX,xf,if_neg (by simp)];refine u9 (v := .slice none 0 0) ?_ _;rw[xf,if_neg (by simp)];exact r1
   have x2:X.cell? ⟨A,2,none⟩=some (.int .i64 ((ua t).length:Nat)):=by
    rw[←hX];refine u9 (v := .int .i64 0) ?_ _;rw[xf,if_neg (by simp),xf,if_neg (by simp)];exact r2
   have vE:X.ownsRow (w1.heap.size+1) 5 1 (.slice va vn vk) ((uv t).length+(ua t).length) (xh (uv t++ua t)):=by
    rw[←hX];exact xc (xc (xc HO.out (p:=⟨A,0,none⟩) (fun e=>by have:=(HO.out.lt A e.symm).1;omega) _) (p:=⟨A,1,none⟩) (fun e=>by have:=(HO.out.lt A e.symm).1;omega) _) (p:=⟨A,2,none⟩) (fun e=>by have:=(HO.out.lt A e.symm).1;omega) _
   have hfX:Fr (fun k=>k=A) (fun k=>k=A) w1 X:=by
    rw[←hX];exact(((HFZ.out.wide (G:=fun k=>k=A) (fun _ q=>q.elim)).set (a:=⟨A,0,none⟩) _ (.inl rfl)).set (a:=⟨A,1,none⟩) _ (.inl rfl)).set (a:=⟨A,2,none⟩) _ (.inl rfl)
   rw[hX];have f0:=fun ob=>xQ x0 ob
   have f1:=fun ob=>xQ x1 ob
   have f2:=fun ob=>xQ x2 ob
   clear hX;refine bodyPost_ret (v := .agg #[.bool (Vz t),.slice va vn vk,.int .i64 ((ua t).length:Nat)]) ?_ rfl ?_
   ·simp[results,results129,go_sem,f0,f1,f2]
   ·rw[HW.out];obtain⟨d1,d2,hw,h30⟩:=B4 HN.out;have hn:=fun ob=>PG (Vz t) (vE.alloc ob) d1 d2 hw h30
    refine⟨⟨_,rfl,?_,h30⟩,XB.more HG.out HI.out (hfX.alloc _) (fun k hk=>by subst hk;exact⟨HSA.out,by omega⟩)⟩;refine(hn _).fr (Fr.refl xN _) (fun _ q=>q.elim) (fun k hk => .inl ?_);rcases hk with hk|hk
    ·show k<w1.heap.size+1;omega
    ·have:=HG.out.CP s' w1 k HI.out.1 hk;show k<w1.heap.size+1;omega
end
def NP(o:Option Nat):Int:=match o with|some k=>((k:Nat):Int)|none=>-1
theorem Gn(q mb n p:Nat)(f:Nat->Option Nat)(w:World)(q2:w.cell? ⟨q,2,none⟩=some (.map (some mb)))(hm:Z7 w mb n f)(hp:p<=4000000000) :
  Calls Tryz.prog 135 #[.pointer (some ⟨q,0,none⟩),.int .i64 (p:Nat)] w fun e w'=>e = .returned (.int .i64 (NP (f p)))/\w=w':=by
 have V4:=hm.look p hp;obtain⟨o,ho⟩:∃ o,f p=o:=⟨_,rfl⟩;rw[ho] at V4 ⊢;clear ho hm
 cases o with
 | none =>
  go_enter func135,ntmps135;go_wp2;go_ret;exact⟨rfl,rfl⟩
 | some k =>
  go_enter func135,ntmps135;go_wp2;go_ret;exact⟨rfl,rfl⟩
section
variable {b:Nat} {x0 x2 st v:Value} {l:Wd} {w:World}
theorem SH{g:Nat}{nv:Value}{n:vg}{t:Wd}(h:uo b x0 (.pointer (some ⟨g,0,none⟩)) x2 st v l w)(hn:gL (fun _=>False) w nv n)(hw:∀ W,Below w.heap.size w W->Calls Tryz.prog 45 #[.pointer (some ⟨g,0,none⟩),nv] W fun e w'=>e = .returned (xk t)/\Below W.heap.size W w')(hlen:l.length+t.length<=1000000000) :
  Calls Tryz.prog 128 #[.pointer (some ⟨b,0,none⟩),nv] w fun e w'=>e = .returned (.tuple #[])/\Gg b x0 (.pointer (some ⟨g,0,none⟩)) x2 st v (l++t) w w':=by
 obtain⟨gd,o,cap,rfl,-⟩:=hn;obtain⟨L,hL⟩:∃ L,n.2.1.length+n.2.2.length=L:=⟨_,rfl⟩;obtain⟨k,hk⟩:∃ k,n.2.2.length=k:=⟨_,rfl⟩;rw[hL,hk] at hw ⊢;obtain⟨A,hA⟩:∃ A,w.heap.size=A:=⟨_,rfl⟩;obtain⟨W,hW⟩:∃ W,w.alloc (.cells #[.bool n.1,.slice (some ⟨gd,o,none⟩) L cap,.int .i64 (k:Nat)] 97)=W:=⟨_,rfl⟩;have hb:Below w.heap.size w W:=by rw[←hW];exact(zG _ _).alloc (zQ _) _
 have Jz:Fr xN xN w W:=Fr.of hb;have hc:∀ j,W.cell? ⟨A,j,none⟩=(#[zI n.1,.slice (some ⟨gd,o,none⟩) L cap,.int .i64 (k:Nat)]:Array Value)[j]? := fun j=>by rw[←hW,←hA];exact xu _ _ _ _ _
 have e0:=hc 0;have e1:=hc 1;have e2:=hc 2;simp only[zg,zu,zk] at e0 e1 e2;have hOW:=h.fr Jz id (fun _ _ q=>q);have b1:=hOW.cell.2.1;have UR:=z7 (hw W.drew (hb.trans ⟨rfl,rfl,rfl,zQ _,fun _ _=>rfl⟩));have I5:=z7 hOW;have FN:=z7 Jz;obtain⟨nb,CU⟩:∃ nb,n.1=nb:=⟨_,rfl⟩;rw[CU] at e0 hW UR ⊢;clear h hw hb hc hOW Jz hL hk CU;go_enter func128,ntmps128;go_wp2_with fail;try rw[hW]
 clear hW hA;refine rk (fun W':World=>W'.cell? ⟨b,1,none⟩=some (.pointer (some ⟨g,0,none⟩))/\W'.cell? ⟨A,0,none⟩=some (.bool nb)/\W'.cell? ⟨A,1,none⟩=some (.slice (some ⟨gd,o,none⟩) L cap)/\W'.cell? ⟨A,2,none⟩=some (.int .i64 (k:Nat))) 9 (zV 8) 2 ⟨b1,e0,e1,e2⟩ ?_;(iterate 8 (refine ty ?_;try simp only[pl]))
 refine xq ?_;refine xI 8 (by kernel_rfl) rfl (fun J hJ=>?_);go_simp;refine UR.out.mono ?_;rintro e w1 ⟨rfl,xB⟩;have uq:Fr xN xN W w1:=(Fr.of xB).und;refine hJ.out _ _ ⟨uq.cell b1 id,uq.cell e0 id,uq.cell e1 id,uq.cell e2 id⟩ fun _=>?_
 clear hJ J;have TH:=z7 (Qp t (I5.out.fr uq id (fun _ _ q=>q)) hlen);have Uz:=z7 uq;clear uq xB UR;refine xw 9 (by kernel_rfl) (by kernel_rfl) rfl (fun J hJ=>?_);go_simp;refine TH.out.mono ?_;rintro e w2 ⟨⟨u,rfl⟩,FO⟩;refine hJ.out _ _ ?_;clear hJ J;refine vz (by kernel_rfl) ?_ _;have HW2:=z7 FO;clear FO TH;go_wp2;go_end0
 obtain⟨v',h1,h2⟩:=HW2.out;exact⟨rfl,v',h1,((FN.out.trans Uz.out).wide (G:=Vi b v) (fun _ q=>q.elim)).trans h2⟩
end
def gp(M:Nat->Prop)(w:World):List (vg×vg)->List Value->Prop
 | [],cs=>cs=[]
 |(n,z)::r,cs=>∃ nb g o m c k zb g' o' m' c' k' t,cs=(Vu nb g o m c k++Vu zb g' o' m' c' k')++t/\gL M w (IH nb g o m c k) n/\gL M w (IH zb g' o' m' c' k') z/\gp M w r t
theorem gp.len{M:Nat->Prop}{w:World}:∀ {r:List (vg×vg)} {cs:List Value},gp M w r cs->cs.length=r.length*6
 | [],cs,h=>by rw[show cs=[] from h];rfl
 | p::r,cs,h=>by
  obtain⟨nb,g,o,m,c,k,zb,g',o',m',c',k',t,rfl,_,_,ht⟩:=h;have:=gp.len ht;simp[Vu,this];omega
theorem gp.fr{M M' F F':Nat->Prop}{w w':World}(hf:Fr F F' w w')(hF:∀ k,F k->M k)(hM:∀ k,M' k->M k\/w.heap.size<=k):∀ {r:List (vg×vg)} {cs:List Value},gp M w r cs->gp M' w' r cs
 | [],cs,h=>h
 | p::r,cs,h=>by
  obtain⟨nb,g,o,m,c,k,zb,g',o',m',c',k',t,rfl,h1,h2,ht⟩:=h;exact⟨nb,g,o,m,c,k,zb,g',o',m',c',k',t,rfl,h1.fr hf hF hM,h2.fr hf hF hM,gp.fr hf hF hM ht⟩
theorem gp.snoc{M:Nat->Prop}{w:World}{n z:vg}{nb zb:Bool}{g o m c k g' o' m' c' k':Nat}(h1:gL M w (IH nb g o m c k) n)(h2:gL M w (IH zb g' o' m' c' k') z):∀ {r:List (vg×vg)} {cs:List Value},gp M w r cs->gp M w (r++[(n,z)]) (cs++(Vu nb g o m c k++Vu zb g' o' m' c' k'))
 | [],cs,h=>by rw[show cs=[] from h];exact⟨nb,g,o,m,c,k,zb,g',o',m',c',k',[],by simp,h1,h2,rfl⟩
 | p::r,cs,h=>by
  obtain⟨sX,g1,o1,m1,c1,k1,zb',g2,o2,m2,c2,k2,t,rfl,a1,a2,ht⟩:=h;exact⟨sX,g1,o1,m1,c1,k1,zb',g2,o2,m2,c2,k2,_,by rw[zi],a1,a2,gp.snoc h1 h2 ht⟩
theorem gp.last{M:Nat->Prop}{w:World}{n z:vg}:∀ {r:List (vg×vg)} {cs:List Value},gp M w (r++[(n,z)]) cs->∃ PF nb g o m c k zb g' o' m' c' k',cs=PF++(Vu nb g o m c k++Vu zb g' o' m' c' k')/\gp M w r PF/\gL M w (IH nb g o m c k) n/\gL M w (IH zb g' o' m' c' k') z
 | [],cs,h=>by
  obtain⟨nb,g,o,m,c,k,zb,g',o',m',c',k',t,rfl,h1,h2,ht⟩:=h;rw[show t=[] from ht];exact⟨[],nb,g,o,m,c,k,zb,g',o',m',c',k',by simp,rfl,h1,h2⟩
 | p::r,cs,h=>by
  obtain⟨nb,g,o,m,c,k,zb,g',o',m',c',k',t,rfl,h1,h2,ht⟩:=h;obtain⟨PF,sX,g1,o1,m1,c1,k1,zb',g2,o2,m2,c2,k2,rfl,a0,a1,a2⟩:=gp.last ht;exact⟨_,sX,g1,o1,m1,c1,k1,zb',g2,o2,m2,c2,k2,by simp only[zi],⟨nb,g,o,m,c,k,zb,g',o',m',c',k',PF,rfl,h1,h2,a0⟩,a1,a2⟩
abbrev Gp(b:Nat)(v st:Value)(Sx:Nat->Prop)(k:Nat):Prop:=k=b\/xX v k\/xX st k\/Sx k
section
variable {τ:Type}
def vr(b A0 q g:Nat)(gv:Value)(G:Nat->Prop)(F S:τ->Nat->Prop)(Inv:τ->World->Prop)(r:bH τ)(w:World):Prop :=
 ∃ v st cs,uo b (.pointer (some ⟨q,0,none⟩)) (.pointer (some ⟨g,0,none⟩)) gv st v r.out w/\w.ownsRow 0 272 6 st r.stk.length cs/\gp (Gp b v st (S r.gs)) w r.stk cs/\Inv r.gs w /\
  st.ownBlock≠some b/\(∀ k,xX v k->¬xX st k)/\(∀ k,S r.gs k->(k+2<b\/b<k)/\¬xX v k/\¬xX st k)/\(∀ k,xX v k\/xX st k->A0<=k)/\∀ k,F r.gs k->G k
structure dm(w0:World)(A0 b:Nat)(G:Nat->Prop)(q mb g:Nat)(s:MkS)(vC vI:Value)(rs:List (Value×Value))(gv:Value)(E:qI τ)(F S:τ->Nat->Prop)(Inv:τ->World->Prop):Prop where
 prog:∀ W,Fr G G w0 W->jy q s vC vI rs mb W
 wr:∀ W nv n,Fr G G w0 W->gL (fun _=>False) W nv n->Calls Tryz.prog 45 #[.pointer (some ⟨g,0,none⟩),nv] W fun e w'=>e = .returned (xk (E.wr n))/\Below W.heap.size W w'
 wrl:∀ n:vg,CC n.2->(E.wr n).length<=5000
 set:∃ cv ov,(∀ W,Fr G G w0 W->W.cell? ⟨g,0,none⟩=some cv/\W.cell? ⟨g,1,none⟩=some ov) /\
  (∀ W nv d,Fr G G w0 W->uM W nv d->Calls Tryz.prog 60 #[cv,nv] W fun e w'=>e = .returned (.int .i64 (E.sort false d))/\Below W.heap.size W w') /\
  ∀ W nv d,Fr G G w0 W->uM W nv d->Calls Tryz.prog 60 #[ov,nv] W fun e w'=>e = .returned (.int .i64 (E.sort true d))/\Below W.heap.size W w'
 srt:∀ b d,E.sort b d<6
 get:CO gv E F S Inv
 n1:s.code.length<=1000000
 n2:s.cs.length<=1000000
 n3:∀ t∈s.cs,t.length<=5000
 n4:∀ x∈s.code,x.v<=1000000000/\∀ y∈x.tg,y<=4000000000
 gA:∀ k,A0<=k->G k
 gb:A0<=b
def VmQ(b A0 q g:Nat)(gv:Value)(G:Nat->Prop)(F S:τ->Nat->Prop)(Inv:τ->World->Prop)(r0:bH τ)(_:Nat)(r:bH τ)(w:World):Prop:=vr b A0 q g gv G F S Inv r w/\r.out.length<=r0.out.length+5000/\r.stk.length<=r0.stk.length+1
def CS(Inv:τ->World->Prop)(S:τ->Nat->Prop)(b:Nat)(r:bH τ)(w:World):Prop:=Inv r.gs w/\∀ k,S r.gs k->k+2<b\/b<k
section
variable {w0 W:World} {A0 b q mb g k:Nat} {G:Nat->Prop} {s:MkS} {vC vI gv:Value} {rs:List (Value×Value)} {E:qI τ} {F S:τ->Nat->Prop} {Inv:τ->World->Prop} {r:bH τ} {x:jf}
theorem vr.quiet(hE:dm w0 A0 b G q mb g s vC vI rs gv E F S Inv){w w':World}(h:vr b A0 q g gv G F S Inv r w)(hf:Fr xN xN w w'):vr b A0 q g gv G F S Inv r w':=by
 obtain⟨v,st,cs,hO,vL,fX,hi,ZJ,YS,hS,hA,hF⟩:=h;exact⟨v,st,cs,hO.fr hf id (fun _ _ q=>q),hf.own vL (fun _ _ q=>q),gp.fr hf (fun _ q=>q.elim) (fun _ q => .inl q) fX,hE.get.fr hi hf (fun _ q=>q.elim),ZJ,YS,hS,hA,hF⟩
theorem vr.asked(hE:dm w0 A0 b G q mb g s vC vI rs gv E F S Inv){w w':World}(h:vr b A0 q g gv G F S Inv r w){s':τ}(hq:Inv s' w'/\Fr (F r.gs) (F s') w w'/\∀ k,S s' k->S r.gs k\/w.heap.size<=k) :
  vr b A0 q g gv G F S Inv { r with gs:=s' } w'/\Fr G G w w'/\∀ k,Gp b (.slice none 0 0) (.slice none 0 0) (S s') k->k=b\/S r.gs k\/w.heap.size<=k:=by
 obtain⟨v,st,cs,hO,vL,fX,hi,ZJ,YS,hS,hA,hF⟩:=h;obtain⟨hi',hf,TL⟩:=hq;have xC:=hO.lt;have nb:¬F r.gs b:=fun q=>by have:=(hS b (hE.get.sub _ _ q)).1;omega
 have nv:∀ k,xX v k->¬F r.gs k:=fun k hk q=>(hS k (hE.get.sub _ _ q)).2.1 hk
 have nst:∀ k,xX st k->¬F r.gs k:=fun k hk q=>(hS k (hE.get.sub _ _ q)).2.2 hk
 refine⟨⟨v,st,cs,hO.fr hf nb nv,hf.own vL nst,gp.fr hf (fun k hk => .inr (.inr (.inr (hE.get.sub _ _ hk)))) (fun k hk=>?_) fX,hi',ZJ,YS,fun k hk=>?_,hA,fun k hk=>?_⟩,?_,fun k hk=>?_⟩
 ·rcases hk with h|h|h|h
  ·exact .inl (.inl h)
  ·exact .inl (.inr (.inl h))
  ·exact .inl (.inr (.inr (.inl h)))
  ·exact(TL k h).imp (fun q => .inr (.inr (.inr q))) id
 ·rcases TL k hk with h|h
  ·exact hS k h
  ·exact⟨by omega,fun q=>by have:=uS hO.row q;omega,fun q=>by have:=uS vL q;omega⟩
 ·rcases hf.fp k hk with h|h
  ·exact hF k h
  ·exact hE.gA k (by have:=hE.gb;omega)
 ·exact(hf.tg (F'':=F r.gs) (fun k hk => .inl hk)).wide (fun k hk=>hF k hk)
 ·rcases hk with h|h|h|h
  ·exact .inl h
  ·cases h
  ·cases h
  ·exact .inr (TL k h)
theorem vr.wrote(hE:dm w0 A0 b G q mb g s vC vI rs gv E F S Inv){w w':World}{v st:Value}{cs:List Value}{t:Wd}(vL:w.ownsRow 0 272 6 st r.stk.length cs)(fX:gp (Gp b v st (S r.gs)) w r.stk cs)(hi:Inv r.gs w)(ZJ:st.ownBlock≠some b)(YS:∀ k,xX v k->¬xX st k)
  (hS:∀ k,S r.gs k->(k+2<b\/b<k)/\¬xX v k/\¬xX st k) (hA:∀ k,xX v k\/xX st k->A0<=k) (hF:∀ k,F r.gs k->G k) (xC:b<w.heap.size) (hq:Gg b (.pointer (some ⟨q,0,none⟩)) (.pointer (some ⟨g,0,none⟩)) gv st v (r.out++t) w w') :
  vr b A0 q g gv G F S Inv { r with out:=r.out++t } w'/\Fr G G w w':=by
 obtain⟨v',hO',hf⟩:=hq;have nst:∀ k,xX st k->¬Vi b v k:=fun k hk q=>q.elim (fun e=>ZJ (by rw[←e];exact hk)) (fun e=>YS k e hk)
 have WR:∀ k,xX v' k->xX v k\/w.heap.size<=k:=fun k hk=>(hf.fp k (.inr hk)).elim (fun q=>q.elim (fun e=>absurd (show v'.ownBlock=some b by rw[←e];exact hk) (by obtain⟨_,_,_,_,h,_⟩:=hO';exact h)) .inl) .inr
 refine⟨⟨v',st,cs,hO',hf.own vL nst,gp.fr hf (fun k hk=>hk.elim .inl (fun h => .inr (.inl h))) (fun k hk=>?_) fX,hE.get.fr hi hf (fun k hk q=>hk.elim (fun e=>by have:=(hS k q).1;omega) (fun e=>(hS k q).2.1 e)),ZJ,fun k hk=>?_,fun k hk=>?_,fun k hk=>?_,hF⟩,?_⟩
 ·rcases hk with h|h|h|h
  ·exact .inl (.inl h)
  ·exact(WR k h).imp (fun q => .inr (.inl q)) id
  ·exact .inl (.inr (.inr (.inl h)))
  ·exact .inl (.inr (.inr (.inr h)))
 ·rcases WR k hk with h|h
  ·exact YS k h
  ·exact fun q=>by have:=uS vL q;omega
 ·refine⟨(hS k hk).1,fun q=>?_,(hS k hk).2.2⟩;rcases WR k q with h|h
  ·exact(hS k hk).2.1 h
  ·have:=hE.get.CP r.gs w k hi hk;omega
 ·rcases hk with h|h
  ·rcases WR k h with h|h
   ·exact hA k (.inl h)
   ·have:=hE.gb;omega
  ·exact hA k (.inr h)
 ·exact(hf.tg (F'':=Vi b v) (fun k hk => .inl hk)).wide (fun k hk=>hE.gA k (hk.elim (fun e=>by rw[e];exact hE.gb) (fun e=>hA k (.inl e))))
theorem vr.PD(hE:dm w0 A0 b G q mb g s vC vI rs gv E F S Inv){w w':World}{v st:Value}{cs:List Value}{stk:List (vg×vg)}{n:Nat}(vL:w.ownsRow 0 272 6 st n cs){PF:List Value}(fX:gp (Gp b v st (S r.gs)) w stk PF)(hi:Inv r.gs w)
  (hS:∀ k,S r.gs k->(k+2<b\/b<k)/\¬xX v k/\¬xX st k) (hA:∀ k,xX v k\/xX st k->A0<=k) (hF:∀ k,F r.gs k->G k) (xC:b<w.heap.size) (hq:II b (.pointer (some ⟨q,0,none⟩)) (.pointer (some ⟨g,0,none⟩)) gv st v r.out stk.length PF w w') :
  vr b A0 q g gv G F S Inv { r with stk:=stk } w'/\Fr G G w w':=by
 obtain⟨PJ,a1,a2,a3,a4,a5⟩:=hq;have hm:∀ j,Gp b v PJ (S r.gs) j->Gp b v st (S r.gs) j\/w.heap.size<=j:=by
  intro j hj;rcases hj with h|h|h|h
  ·exact .inl (.inl h)
  ·exact .inl (.inr (.inl h))
  ·rcases a5.fp j (.inr h) with(h|h)|h
   ·exact .inl (.inl h)
   ·exact .inl (.inr (.inr (.inl h)))
   ·exact .inr h
  ·exact .inl (.inr (.inr (.inr h)))
 have K5:∀ j,oL b st j->Gp b v st (S r.gs) j:=fun j hj=>hj.elim .inl (fun h => .inr (.inr (.inl h)))
 have hl:=hE.get.CP r.gs w;refine⟨⟨v,PJ,PF,a1,a2,gp.fr a5 K5 hm fX,hE.get.fr hi a5 (fun j hj=>?_),a3,a4,fun j hj=>⟨(hS j hj).1,(hS j hj).2.1,fun h=>?_⟩,fun j hj=>?_,hF⟩,?_⟩
 ·rcases hj with rfl|h
  ·exact fun q=>by have:=(hS _ q).1;omega
  ·exact fun q=>(hS _ q).2.2 h
 ·rcases a5.fp j (.inr h) with(h|h)|h
  ·have:=(hS j hj).1;omega
  ·exact(hS j hj).2.2 h
  ·have:=hl j hi hj;omega
 ·rcases hj with h|h
  ·exact hA j (.inl h)
  ·rcases a5.fp j (.inr h) with(h|h)|h
   ·rw[h];exact hE.gb
   ·exact hA j (.inr h)
   ·have:=hE.gb;omega
 ·exact(a5.tg (F'':=oL b st) (fun k hk => .inl hk)).wide (fun j hj=>hE.gA j (hj.elim (fun h=>by rw[h];exact hE.gb) (fun h=>hA j (.inr h))))
theorem NR(hE:dm w0 A0 b G q mb g s vC vI rs gv E F S Inv)(hf:Fr G G w0 W)(hR:vr b A0 q g gv G F S Inv r W)(hk:s.code[k]? = some x)(uC:x.op=5){stk:List (vg×vg)}{tp:vg×vg}(hs:r.stk=stk++[tp])(dG:r.stk.length<=1000000) :
  Calls Tryz.prog 87 #[.pointer (some ⟨b,0,none⟩),.int .i64 (k:Nat)] W fun e w'=>e = .returned (.int .i64 ((k+1:Nat):Int))/\VmQ b A0 q g gv G F S Inv r (k+1) { r with stk:=stk } w'/\Fr G G W w':=by
 have hp:=hE.prog W hf;obtain⟨I,ic,kv,tv,q1,lt,i0,-⟩:=hp.ins hk;rw[uC] at i0;obtain⟨v,st,cs,hO,vL,fX,hi,ZJ,YS,hS,hA,hF⟩:=hR;obtain⟨tn,tz⟩:=tp;rw[hs] at fX vL;obtain⟨PF,nb,g1,o1,m1,c1,k1,zb,g2,o2,m2,c2,k2,rfl,Yl,-,-⟩:=fX.last;have hlen:(stk++[(tn,tz)]).length=stk.length+1:=by simp
 rw[hlen] at vL;have hn:stk.length<=1000000:=by rw[hs,hlen] at dG;omega
 have HP:=z7 (oM hO vL Yl.len ZJ YS hn);have b0:=hO.cell.1;obtain⟨n,hN⟩:∃ n,s.code.length=n:=⟨_,rfl⟩;rw[hN] at q1 lt;have Zz:=hE.n1;rw[hN] at Zz;have k3:(k:Int)<(n:Int):=by omega
 have HH:=z7 (z8 vL (z8 Yl (z8 hi (z8 hS (z8 hA hF)))));have HE:=z7 hE;have HS:=z7 (z8 hs hO.lt);clear hE hf hp hk uC hO vL fX hi ZJ YS hS hA hF hs hlen Yl hN dG;go_enter func87,ntmps87;go_wp2_with fail;refine HP.out.mono ?_;rintro e w1 ⟨rfl,hq⟩;have HQ:=z7 hq;clear hq HP;go_wp2;go_ret;obtain⟨h0,h1,h2,h3,h4,h5⟩:=HH.out;obtain⟨hr,Y2⟩:=vr.PD HE.out h0 h1 h2 h3 h4 h5 HS.out.2 HQ.out;exact⟨by first|rfl|simp,⟨hr,zm _ _,by rw[HS.out.1];simp;omega⟩,Y2⟩
end
end
theorem Vw(a0 a3:Bool)(p:Addr)(n c:Nat)(k:Int)(p':Addr)(n' c':Nat)(k':Int)(w:World):(Instr.field 272 (.agg #[.bool a0,.slice (some p) n c,.int .i64 k,.bool a3,.slice (some p') n' c',.int .i64 k']) 1).run Tryz.prog w = .ok (.agg #[.bool a3,.slice (some p') n' c',.int .i64 k']) w:=by kernel_rfl
theorem IM(a0 a3:Bool)(p:Addr)(n c:Nat)(k:Int)(p':Addr)(n' c':Nat)(k':Int)(w:World):(Instr.field 272 (.agg #[.bool a0,.slice (some p) n c,.int .i64 k,.bool a3,.slice (some p') n' c',.int .i64 k']) 0).run Tryz.prog w = .ok (.agg #[.bool a0,.slice (some p) n c,.int .i64 k]) w:=by kernel_rfl
theorem gL.any{M:Nat->Prop}{w:World}{v:Value}{n:vg}(h:gL M w v n):gL (fun _=>False) w v n:=h.fr (Fr.refl xN _) (fun _ q=>q.elim) (fun _ q=>q.elim)
theorem gL.ok{M:Nat->Prop}{w:World}{v:Value}{n:vg}(h:gL M w v n):CC n.2:=by
 obtain⟨_,_,_,_,_,_,_,_,_,h⟩:=h;exact h
section
variable {τ:Type} {w0 W:World} {A0 b q mb g k:Nat} {G:Nat->Prop} {s:MkS} {vC vI gv:Value} {rs:List (Value×Value)} {E:qI τ} {F S:τ->Nat->Prop} {Inv:τ->World->Prop} {r:bH τ} {x:jf}
theorem Gr(hE:dm w0 A0 b G q mb g s vC vI rs gv E F S Inv)(hf:Fr G G w0 W)(hR:vr b A0 q g gv G F S Inv r W){nv:Value}{n:vg}{M:Nat->Prop}(hn:gL M W nv n)(hlen:r.out.length<=900000000) :
  Calls Tryz.prog 128 #[.pointer (some ⟨b,0,none⟩),nv] W fun e w'=>e = .returned (.tuple #[])/\vr b A0 q g gv G F S Inv { r with out:=r.out++E.wr n } w'/\Fr G G W w':=by
 obtain⟨v,st,cs,hO,vL,fX,hi,ZJ,YS,hS,hA,hF⟩:=hR;have hl:=hE.wrl n hn.ok;refine(SH hO hn.any (fun W' hW'=>hE.wr W' nv n (hf.trans ((Fr.of hW').wide (F:=xN) (fun _ q=>q.elim))) (hn.any.fr (Fr.of (F:=xN) hW') (fun _ q=>q.elim) (fun _ q=>q.elim))) (by omega)).mono ?_;rintro e w' ⟨he,hq⟩;exact⟨he,vr.wrote hE vL fX hi ZJ YS hS hA hF hO.lt hq⟩
theorem SI(hE:dm w0 A0 b G q mb g s vC vI rs gv E F S Inv)(hf:Fr G G w0 W)(hR:vr b A0 q g gv G F S Inv r W)(hk:s.code[k]? = some x)(uC:x.op=6){stk:List (vg×vg)}{tp:vg×vg}(hs:r.stk=stk++[tp])(dG:r.stk.length<=1000000)(hlen:r.out.length<=900000000) :
  Calls Tryz.prog 87 #[.pointer (some ⟨b,0,none⟩),.int .i64 (k:Nat)] W fun e w'=>e = .returned (.int .i64 ((k+1:Nat):Int))/\VmQ b A0 q g gv G F S Inv r (k+1) { r with out:=r.out++E.wr tp.2 } w'/\Fr G G W w':=by
 obtain⟨I,ic,kv,tv,q1,lt,i0,-⟩:=(hE.prog W hf).ins hk;rw[uC] at i0;have lu:=hR;obtain⟨v,st,cs,hO,vL,fX,hi,ZJ,YS,hS,hA,hF⟩:=hR;obtain⟨tn,tz⟩:=tp;have XC:(stk++[(tn,tz)]).length=stk.length+1:=by simp
 rw[hs] at fX vL dG;rw[XC] at vL dG;obtain⟨PF,nb,g1,o1,m1,c1,k1,zb,g2,o2,m2,c2,k2,rfl,Yl,-,hz⟩:=fX.last;have HT:=z7 (JD hO nb zb g1 o1 m1 c1 k1 g2 o2 m2 c2 k2 vL Yl.len (by omega));have b0:=hO.cell.1;have Zz:=hE.n1;obtain⟨n,hN⟩:∃ n,s.code.length=n:=⟨_,rfl⟩;rw[hN] at q1 lt Zz;have k3:(k:Int)<(n:Int):=by omega
 have aN:=Vw;have Jd:=fun (W':World) (hb:Below W.heap.size W W')=>Gr hE (hf.trans ((Fr.of hb).wide (F:=xN) (fun _ q=>q.elim))) (lu.quiet hE (Fr.of hb)) (hz.any.fr (Fr.of (F:=xN) hb) (fun _ q=>q.elim) (M':=fun _=>False) (fun _ q=>q.elim)) hlen
 have oO:=z7 Jd;have HE:=z7 hE;have HW:=z7 (hE.wrl tz hz.ok);clear hE hf hk uC hO vL fX hi ZJ YS hS hA hF hs Yl hN lu Jd dG hlen XC;go_enter func87,ntmps87;go_wp2_with fail;refine HT.out.mono ?_;rintro e w1 ⟨rfl,xB⟩;have HX:=z7 (oO.out w1 xB);have HB:=z7 xB;clear HT xB oO;go_wp2_with fail;refine HX.out.mono ?_;rintro e w2 ⟨rfl,hr,vG⟩;have HR:=z7 (z8 hr vG);clear hr vG HX;go_wp2;go_ret;refine⟨by first|rfl|simp,⟨HR.out.1,by have:=HW.out;simp;omega,by simp⟩,((Fr.of HB.out).wide (F:=xN) (fun _ q=>q.elim)).trans HR.out.2⟩
end
section
variable {τ:Type} {w0 W:World} {A0 b q mb g k:Nat} {G:Nat->Prop} {s:MkS} {vC vI gv:Value} {rs:List (Value×Value)} {E:qI τ} {F S:τ->Nat->Prop} {Inv:τ->World->Prop} {r:bH τ} {x:jf}
theorem vr.err(hE:dm w0 A0 b G q mb g s vC vI rs gv E F S Inv){w w':World}(h:vr b A0 q g gv G F S Inv r w){s':τ}(hq:Inv s' w'/\Fr (F r.gs) (F s') w w'/\∀ k,S s' k->S r.gs k\/w.heap.size<=k) :
  CS Inv S b { r with gs:=s' } w'/\Fr G G w w':=by
 obtain⟨h1,h2,h3⟩:=vr.asked hE h hq;obtain⟨v,st,cs,hO,vL,fX,hi,ZJ,YS,hS,hA,hF⟩:=h1;exact⟨⟨hi,fun k hk=>(hS k hk).1⟩,h2⟩
theorem bR{n:Wd}(h:Zc s x=some n):∃ j,x.k[0]? = some j/\s.cs[j]? = some n:=by
 unfold Zc at h
 cases hx:x.k[0]? with
 | none=>rw[hx] at h;cases h
 | some j=>rw[hx] at h;exact⟨j,rfl,h⟩
theorem aw(hE:dm w0 A0 b G q mb g s vC vI rs gv E F S Inv)(hf:Fr G G w0 W)(hR:vr b A0 q g gv G F S Inv r W)(hk:s.code[k]? = some x)(uC:x.op=1){t:Wd}(hc:Zc s x=some t)(hlen:r.out.length<=900000000) :
  Calls Tryz.prog 87 #[.pointer (some ⟨b,0,none⟩),.int .i64 (k:Nat)] W fun e w'=>e = .returned (.int .i64 ((k+1:Nat):Int))/\VmQ b A0 q g gv G F S Inv r (k+1) { r with out:=r.out++t } w'/\Fr G G W w':=by
 obtain⟨j,hj,ht⟩:=bR hc;obtain⟨v,st,cs,hO,vL,fX,hi,ZJ,YS,hS,hA,hF⟩:=hR;have h3:=hE.n3 t (zy ht);refine(Rl hO (hE.prog W hf) hk uC hj ht hE.n1 hE.n2 (by omega)).mono ?_;rintro e w' ⟨rfl,hq⟩;obtain⟨hr,Y2⟩:=vr.wrote hE vL fX hi ZJ YS hS hA hF hO.lt hq;exact⟨rfl,⟨hr,by simp;omega,zL _⟩,Y2⟩
def NS(b A0 q g:Nat)(gv:Value)(G:Nat->Prop)(F S:τ->Nat->Prop)(Inv:τ->World->Prop)(r:bH τ)(k:Nat){α:Type}(fn:α->τ->bH τ)(res:Except (Nat×τ) (α×τ))(W:World)(e:Ending)(w':World):Prop :=
 (match res with
  | .ok (a,s')=>e = .returned (.int .i64 ((k+1:Nat):Int))/\VmQ b A0 q g gv G F S Inv r (k+1) (fn a s') w'
  | .error (n,s')=>zvg n e/\CS Inv S b { r with gs:=s' } w')/\Fr G G W w'
theorem IN(hE:dm w0 A0 b G q mb g s vC vI rs gv E F S Inv)(hf:Fr G G w0 W)(hR:vr b A0 q g gv G F S Inv r W)(hk:s.code[k]? = some x)(uC:x.op=3){t:Wd}(hc:Zc s x=some t)(hlen:r.out.length<=900000000) :
  Calls Tryz.prog 87 #[.pointer (some ⟨b,0,none⟩),.int .i64 (k:Nat)] W (NS b A0 q g gv G F S Inv r k (fun v s'=>{ r with out:=r.out++E.wr v,gs:=s' }) (Yb E t r.gs) W):=by
 obtain⟨j,hj,ht⟩:=bR hc;have hp:=hE.prog W hf;obtain⟨I,ic,kv,tv,q1,lt,i0,-,i3,-,kr,-⟩:=hp.ins hk;obtain⟨C,cc,q0,cj,QS⟩:=hp.ld ht;obtain⟨K,kc,rfl,kj,LC⟩:=kr.at_ hj;have h3:=hE.n3 t (zy ht);have Zz:=hE.n1;have dy:=hE.n2;obtain⟨n,hN⟩:∃ n,s.code.length=n:=⟨_,rfl⟩;obtain⟨m,hM⟩:∃ m,s.cs.length=m:=⟨_,rfl⟩;obtain⟨z,hZ⟩:∃ z,x.k.length=z:=⟨_,rfl⟩;rw[hN] at q1 lt Zz;rw[hM] at q0 QS dy;rw[hZ] at i3 LC;rw[uC] at i0;have lu:=hR;obtain⟨v,st,cs,hO,vL,fX,hi,ZJ,YS,hS,hA,hF⟩:=hR;have b0:=hO.cell.1;have XE:DZ b q j t W:=⟨b0,C,m,cc,q0,cj,QS,dy⟩;have LR:=z7 (IL hE.get b q j t r.gs W hO.cell.2.2.1 XE hi (by omega));have k1:(k:Int)<(n:Int):=by omega
 have k3:(0:Int)<(z:Int):=by omega
 obtain⟨res,vM⟩:∃ res,Yb E t r.gs=res:=⟨_,rfl⟩;rw[vM] at LR ⊢;have HE:=z7 hE;have HR:=z7 lu;have HF:=z7 hf;have HL:=z7 hlen;clear hE hf hp hk uC hO vL fX hi ZJ YS hS hA hF hN hM hZ kr hj ht hc lu XE vM hlen;go_enter func87,ntmps87;go_wp2_with fail;refine LR.out.mono ?_;intro e w1 hq
 cases res with
 | error er =>
  obtain⟨c,s'⟩:=er;obtain⟨⟨uG,rfl,hold⟩,hI⟩:=hq;obtain⟨h1,h2⟩:=vr.err HE.out HR.out hI;have HQ:=z7 (show NS b A0 q g gv G F S Inv r k (fun v s'=>{ r with out:=r.out++E.wr v,gs:=s' }) (.error (c,s'):Except (Nat×τ) (vg×τ)) W (.panicked ({ v:=qP c,recovered:=false }::uG)) w1 from⟨⟨⟨uG,rfl,hold⟩,h1⟩,h2⟩);clear hold hI LR h1 h2;go_wp2;exact⟨rfl,HQ.out⟩
 | ok p =>
  obtain⟨nn,s'⟩:=p;obtain⟨⟨nv,rfl,iO,qa⟩,hI⟩:=hq;obtain⟨h1,h2,-⟩:=vr.asked HE.out HR.out hI;have oO:=z7 (Gr HE.out (HF.out.trans h2) h1 iO HL.out);have Kh:=z7 h2;have HWL:=z7 (HE.out.wrl nn iO.ok);obtain⟨gd,o,cap,rfl,-⟩:=iO;clear hI LR h1 h2;go_wp2_with fail;refine oO.out.mono ?_;rintro e w2 ⟨rfl,hr,vG⟩;have gV:=z7 (z8 hr vG);clear hr vG oO;go_wp2;go_ret;exact⟨⟨by first|rfl|simp,gV.out.1,by have:=HWL.out;simp;omega,zL _⟩,Kh.out.trans gV.out.2⟩
end
section
variable {τ:Type} {w0 W:World} {A0 b q mb g k:Nat} {G:Nat->Prop} {s:MkS} {vC vI gv:Value} {rs:List (Value×Value)} {E:qI τ} {F S:τ->Nat->Prop} {Inv:τ->World->Prop} {r:bH τ} {x:jf}
theorem cy(hE:dm w0 A0 b G q mb g s vC vI rs gv E F S Inv)(hf:Fr G G w0 W)(hR:vr b A0 q g gv G F S Inv r W)(hk:s.code[k]? = some x)(uC:x.op=2){t:Wd}(hc:Zc s x=some t)(hlen:r.out.length<=900000000) :
  Calls Tryz.prog 87 #[.pointer (some ⟨b,0,none⟩),.int .i64 (k:Nat)] W (NS b A0 q g gv G F S Inv r k (fun (p:Wd×Bool) s'=>{ r with out:=r.out++Rr E p.1 p.2,gs:=s' }) (Yd E t r.gs) W):=by
 obtain⟨j,hj,ht⟩:=bR hc;have hp:=hE.prog W hf;obtain⟨I,ic,kv,tv,q1,lt,i0,-,i3,-,kr,-⟩:=hp.ins hk;obtain⟨C,cc,q0,cj,QS⟩:=hp.ld ht;obtain⟨K,kc,rfl,kj,LC⟩:=kr.at_ hj;have h3:=hE.n3 t (zy ht);have Zz:=hE.n1;have dy:=hE.n2;obtain⟨n,hN⟩:∃ n,s.code.length=n:=⟨_,rfl⟩;obtain⟨m,hM⟩:∃ m,s.cs.length=m:=⟨_,rfl⟩;obtain⟨z,hZ⟩:∃ z,x.k.length=z:=⟨_,rfl⟩;rw[hN] at q1 lt Zz;rw[hM] at q0 QS dy;rw[hZ] at i3 LC;rw[uC] at i0;have lu:=hR;obtain⟨v,st,cs,hO,vL,fX,hi,ZJ,YS,hS,hA,hF⟩:=hR;have b0:=hO.cell.1;have XE:DZ b q j t W:=⟨b0,C,m,cc,q0,cj,QS,dy⟩;have LR:=z7 (CR hE.get b q j t r.gs W hO.cell.2.2.1 XE hi (by omega));have k1:(k:Int)<(n:Int):=by omega
 have k3:(0:Int)<(z:Int):=by omega
 obtain⟨res,vM⟩:∃ res,Yd E t r.gs=res:=⟨_,rfl⟩;rw[vM] at LR ⊢;have AK:=z7 vM;have HE:=z7 hE;have HR:=z7 lu;have HF:=z7 hf;have HL:=z7 hlen;clear hE hf hp hk uC hO vL fX hi ZJ YS hS hA hF hN hM hZ kr hj ht hc lu XE vM hlen;go_enter func87,ntmps87;go_wp2_with fail;refine LR.out.mono ?_;intro e w1 hq
 cases res with
 | error er =>
  obtain⟨c,s'⟩:=er;obtain⟨⟨uG,rfl,hold⟩,hI⟩:=hq;obtain⟨h1,h2⟩:=vr.err HE.out HR.out hI;have HQ:=z7 (show NS b A0 q g gv G F S Inv r k (fun (p:Wd×Bool) s'=>{ r with out:=r.out++Rr E p.1 p.2,gs:=s' }) (.error (c,s'):Except (Nat×τ) ((Wd×Bool)×τ)) W (.panicked ({ v:=qP c,recovered:=false }::uG)) w1 from⟨⟨⟨uG,rfl,hold⟩,h1⟩,h2⟩);clear hold hI LR h1 h2;go_wp2;exact⟨rfl,HQ.out⟩
 | ok p =>
  obtain⟨⟨u,num⟩,s'⟩:=p;obtain⟨⟨hu,rfl⟩,hI⟩:=hq;obtain⟨h1,h2,-⟩:=vr.asked HE.out HR.out hI;have hv:=Bk AK.out;have qa:(⟨u.toArray⟩:ByteArray).size=u.length:=size_mk _;have HP:=fun W=>z7 (Xh ⟨u.toArray⟩ W (by rw[qa];exact hu))
  have fP:=z7 h1;have Kh:=z7 h2;have HV:=z7 hv;clear hI LR h1 h2 hv
  cases num
  ·go_wp2_with fail;refine(HP _).out.mono ?_;rintro e w2 ⟨bb,pv,pk,rfl,⟨va,vn,vk,rfl⟩,xD,-⟩;have VA:Fr xN xN w1 w2:=((Fr.refl _ _).alloc _).trans (Fr.of xD);have e0:w2.cell? ⟨w1.heap.size,0,none⟩=some (xk u):=(xD.cell (by simp)).trans (xu _ _ _ _ 0);have e1:w2.cell? ⟨w1.heap.size,1,none⟩=some (.bool false):=(xD.cell (by simp)).trans (xu _ _ _ _ 1);obtain⟨V,hVe⟩:∃ V,w1.heap.size=V:=⟨_,rfl⟩;rw[hVe] at e0 e1;obtain⟨W3,j6⟩:∃ W3,w2.alloc (.cells #[.bool bb,.slice va vn vk,.int .i64 pk] 97)=W3:=⟨_,rfl⟩;have jw:Fr xN xN w1 W3:=by rw[←j6];exact VA.alloc _
   have d0:W3.cell? ⟨V,0,none⟩=some (xk u):=by rw[←j6];exact xQ e0 _
   have d1:W3.cell? ⟨V,1,none⟩=some (.bool false):=by rw[←j6];exact xQ e1 _
   have h60:u.length<=60:=by have:=HV.out;simpa[fg] using this
   have sk:=fP.out.quiet HE.out jw;have VB:=z7 jw;obtain⟨v',PJ,PF,hO',zl0,Yl,hi',zl1,zl2,pS,hA',hF'⟩:=sk;have UR:=z7 (Qp (w:=W3.drew) u hO' (by have:=HL.out;simp only;omega));have gV:=z7 (fun w' hq=>vr.wrote (t:=u) (w':=w') HE.out zl0 Yl hi' zl1 zl2 pS hA' hF' hO'.lt hq);clear xD VA e0 e1 hO' zl0 Yl hi' zl1 zl2 pS hA' hF' jw HP
   cases qg u;all_goals
    go_wp2_with fail;try rw[j6]
    refine rk (fun W':World=>W'.cell? ⟨V,0,none⟩=some (xk u)) 5 (zV 5) 1 d0 ?_;(iterate 5 (refine ty ?_;try simp only[pl]))
    refine xq ?_;refine xw 5 (by kernel_rfl) (by kernel_rfl) rfl (fun J hJ=>?_);go_simp;refine UR.out.mono ?_;rintro e w4 ⟨⟨uu,rfl⟩,SL⟩;refine hJ.out _ _ ?_;clear hJ J;refine vz (by kernel_rfl) ?_ _;obtain⟨DG,cu⟩:=gV.out w4 (by obtain⟨v4,a1,a2⟩:=SL;exact⟨v4,a1,a2.und⟩);have H4:=z7 (z8 DG cu);clear SL DG cu j6;go_wp2;go_ret;exact⟨⟨by first|rfl|simp,H4.out.1,by simp[Rr];omega,zL _⟩,(Kh.out.trans (VB.out.wide (fun _ q=>q.elim))).trans H4.out.2⟩
  ·have Yc:qg u=true:=by have:=HV.out;exact this
   have HN:=z7 Yc;clear Yc;go_wp2_with fail;refine(HP _).out.mono ?_;rintro e w2 ⟨bb,pv,pk,rfl,⟨va,vn,vk,rfl⟩,xD,vM⟩;obtain⟨rfl,rfl,xV⟩:=vM HN.out;obtain⟨d1',d2',hw',h30⟩:=B4 HN.out;have VA:Fr xN xN w1 w2:=((Fr.refl _ _).alloc _).trans (Fr.of xD);have e0:w2.cell? ⟨w1.heap.size,0,none⟩=some (xk u):=(xD.cell (by simp)).trans (xu _ _ _ _ 0);have e1:w2.cell? ⟨w1.heap.size,1,none⟩=some (.bool true):=(xD.cell (by simp)).trans (xu _ _ _ _ 1);obtain⟨V,hVe⟩:∃ V,w1.heap.size=V:=⟨_,rfl⟩;rw[hVe] at e0 e1;obtain⟨W3,j6⟩:∃ W3,w2.alloc (.cells #[.bool (Vz u),.slice va vn vk,.int .i64 ((ua u).length:Nat)] 97)=W3:=⟨_,rfl⟩;have jw:Fr xN xN w1 W3:=by rw[←j6];exact VA.alloc _
   have d1:W3.cell? ⟨V,1,none⟩=some (.bool true):=by rw[←j6];exact xQ e1 _
   have gO:=PG (Vz u) (w:=W3) (by rw[←j6];exact xV.alloc _) d1' d2' hw' h30;have sk:=fP.out.quiet HE.out jw;have oO:=z7 (Gr HE.out ((HF.out.trans Kh.out).trans (jw.wide (fun _ q=>q.elim))) sk gO HL.out);have HWL:=z7 (HE.out.wrl _ gO.ok);have VB:=z7 jw;have n0:∀ j,W3.cell? ⟨w2.heap.size,j,none⟩=(#[zI (Vz u),.slice va vn vk,.int .i64 ((ua u).length:Nat)]:Array Value)[j]? := fun j=>by rw[←j6];exact xu _ _ _ _ _
   have m0:=n0 0;have m1:=n0 1;have m2:=n0 2;simp only[zg,zu,zk] at m0 m1 m2;clear xD VA e0 e1 gO sk jw HP vM xV n0;rw[HN.out];go_wp2_with fail;refine oO.out.mono ?_;rintro e w4 ⟨rfl,DG,Vg⟩;have H4:=z7 (z8 DG Vg);clear DG Vg oO;go_wp2;go_ret;exact⟨⟨by first|rfl|simp,H4.out.1,by have:=HWL.out;simp[Rr,numOf];omega,zL _⟩,(Kh.out.trans (VB.out.wide (fun _ q=>q.elim))).trans H4.out.2⟩
end
section
variable {τ:Type} {w0 W:World} {A0 b q mb g k:Nat} {G:Nat->Prop} {s:MkS} {vC vI gv:Value} {rs:List (Value×Value)} {E:qI τ} {F S:τ->Nat->Prop} {Inv:τ->World->Prop} {r:bH τ} {x:jf}
structure CT(b A0 q g:Nat)(gv:Value)(G:Nat->Prop)(F S:τ->Nat->Prop)(Inv:τ->World->Prop)(r:bH τ)(v st:Value)(cs:List Value)(w:World):Prop where
 o:uo b (.pointer (some ⟨q,0,none⟩)) (.pointer (some ⟨g,0,none⟩)) gv st v r.out w
 row:w.ownsRow 0 272 6 st r.stk.length cs
 en:gp (Gp b v st (S r.gs)) w r.stk cs
 inv:Inv r.gs w
 sb:st.ownBlock≠some b
 sv:∀ k,xX v k->¬xX st k
 ds:∀ k,S r.gs k->(k+2<b\/b<k)/\¬xX v k/\¬xX st k
 da:∀ k,xX v k\/xX st k->A0<=k
 df:∀ k,F r.gs k->G k
theorem CT.asked(hE:dm w0 A0 b G q mb g s vC vI rs gv E F S Inv){v st:Value}{cs:List Value}{w w':World}(h:CT b A0 q g gv G F S Inv r v st cs w){s':τ}(hq:Inv s' w'/\Fr (F r.gs) (F s') w w'/\∀ k,S s' k->S r.gs k\/w.heap.size<=k) :
  CT b A0 q g gv G F S Inv { r with gs:=s' } v st cs w'/\Fr G G w w':=by
 obtain⟨hO,vL,fX,hi,ZJ,YS,hS,hA,hF⟩:=h;obtain⟨hi',hf,TL⟩:=hq;have xC:=hO.lt;have nb:¬F r.gs b:=fun q=>by have:=(hS b (hE.get.sub _ _ q)).1;omega
 have nv:∀ k,xX v k->¬F r.gs k:=fun k hk q=>(hS k (hE.get.sub _ _ q)).2.1 hk
 have nst:∀ k,xX st k->¬F r.gs k:=fun k hk q=>(hS k (hE.get.sub _ _ q)).2.2 hk
 refine⟨⟨hO.fr hf nb nv,hf.own vL nst,gp.fr hf (fun k hk => .inr (.inr (.inr (hE.get.sub _ _ hk)))) (fun k hk=>?_) fX,hi',ZJ,YS,fun k hk=>?_,hA,fun k hk=>?_⟩,?_⟩
 ·rcases hk with h|h|h|h
  ·exact .inl (.inl h)
  ·exact .inl (.inr (.inl h))
  ·exact .inl (.inr (.inr (.inl h)))
  ·exact(TL k h).imp (fun q => .inr (.inr (.inr q))) id
 ·rcases TL k hk with h|h
  ·exact hS k h
  ·exact⟨by omega,fun q=>by have:=uS hO.row q;omega,fun q=>by have:=uS vL q;omega⟩
 ·rcases hf.fp k hk with h|h
  ·exact hF k h
  ·exact hE.gA k (by have:=hE.gb;omega)
 ·exact(hf.tg (F'':=F r.gs) (fun k hk => .inl hk)).wide (fun k hk=>hF k hk)
theorem CT.quiet(hE:dm w0 A0 b G q mb g s vC vI rs gv E F S Inv){v st:Value}{cs:List Value}{w w':World}(h:CT b A0 q g gv G F S Inv r v st cs w)(hf:Fr xN xN w w'):CT b A0 q g gv G F S Inv r v st cs w' :=
 ⟨h.o.fr hf id (fun _ _ q=>q),hf.own h.row (fun _ _ q=>q),gp.fr hf (fun _ q=>q.elim) (fun _ q => .inl q) h.en,hE.get.fr h.inv hf (fun _ q=>q.elim),h.sb,h.sv,h.ds,h.da,h.df⟩
theorem NT(hE:dm w0 A0 b G q mb g s vC vI rs gv E F S Inv)(hf:Fr G G w0 W)(hR:vr b A0 q g gv G F S Inv r W)(hk:s.code[k]? = some x)(uC:x.op=4){t:Wd}(hc:Zc s x=some t)(dG:r.stk.length<=900000) :
  Calls Tryz.prog 87 #[.pointer (some ⟨b,0,none⟩),.int .i64 (k:Nat)] W (NS b A0 q g gv G F S Inv r k (fun v s'=>{ r with stk:=r.stk++[(v,VJ v x.v)],gs:=s' }) (Yb E t r.gs) W):=by
 obtain⟨j,hj,ht⟩:=bR hc;have hp:=hE.prog W hf;obtain⟨I,ic,kv,tv,q1,lt,i0,i2,i3,-,kr,-⟩:=hp.ins hk;obtain⟨C,cc,q0,cj,QS⟩:=hp.ld ht;obtain⟨K,kc,rfl,kj,LC⟩:=kr.at_ hj;have h3:=hE.n3 t (zy ht);have hv9:=(hE.n4 x (zy hk)).1;have Zz:=hE.n1;have dy:=hE.n2;obtain⟨n,hN⟩:∃ n,s.code.length=n:=⟨_,rfl⟩;obtain⟨m,hM⟩:∃ m,s.cs.length=m:=⟨_,rfl⟩;obtain⟨z,hZ⟩:∃ z,x.k.length=z:=⟨_,rfl⟩;obtain⟨xv,hXV⟩:∃ xv,x.v=xv:=⟨_,rfl⟩;rw[hN] at q1 lt Zz;rw[hM] at q0 QS dy;rw[hZ] at i3 LC;rw[hXV] at i2 hv9 ⊢;rw[uC] at i0;obtain⟨v,st,cs,hO,vL,fX,hi,ZJ,YS,hS,hA,hF⟩:=hR;have IP:CT b A0 q g gv G F S Inv r v st cs W:=⟨hO,vL,fX,hi,ZJ,YS,hS,hA,hF⟩;have b0:=hO.cell.1;have hlb:=hO.lt;have XE:DZ b q j t W:=⟨b0,C,m,cc,q0,cj,QS,dy⟩;have LR:=z7 (IL hE.get b q j t r.gs W hO.cell.2.2.1 XE hi (by omega));have k1:(k:Int)<(n:Int):=by omega
 have k3:(0:Int)<(z:Int):=by omega
 obtain⟨res,vM⟩:∃ res,Yb E t r.gs=res:=⟨_,rfl⟩;rw[vM] at LR ⊢;have HVI:=z7 (zW (hp.q1.symm.trans (show W.cell? ⟨q,1,none⟩=some (.slice (some ⟨I,0,none⟩) s.code.length ic) by rw[hN];exact q1)));have HK:=z7 hk;have HXV:=z7 hXV;have HLB:=z7 (z8 hlb (z8 (fun k (hk:xX v k)=>uS hO.row hk) (fun k (hk:xX st k)=>uS vL hk)));have HE:=z7 hE;have ES:=z7 IP;have HF:=z7 hf;have HSL:=z7 dG;clear hE hf hp hk uC hO vL fX hi ZJ YS hS hA hF hN hM hZ kr hj ht hc XE vM hlb IP hXV dG;go_enter func87,ntmps87;go_wp2_with fail;refine LR.out.mono ?_;intro e w1 hq
 cases res with
 | error er =>
  obtain⟨c,s'⟩:=er;obtain⟨⟨uG,rfl,hold⟩,hI⟩:=hq;obtain⟨h1,h2⟩:=ES.out.asked HE.out hI;have HQ:=z7 (show NS b A0 q g gv G F S Inv r k (fun v s'=>{ r with stk:=r.stk++[(v,VJ v xv)],gs:=s' }) (.error (c,s'):Except (Nat×τ) (vg×τ)) W (.panicked ({ v:=qP c,recovered:=false }::uG)) w1 from⟨⟨⟨uG,rfl,hold⟩,h1.inv,fun k hk=>(h1.ds k hk).1⟩,h2⟩);clear hold hI LR h1 h2;go_wp2;exact⟨rfl,HQ.out⟩
 | ok p =>
  obtain⟨nn,s'⟩:=p;obtain⟨⟨nv,rfl,iO,qa⟩,hI⟩:=hq;obtain⟨h1,h2⟩:=ES.out.asked HE.out hI;have zvd:gL (Gp b v st (S s')) w1 nv nn:=iO.fr (Fr.refl xN _) (fun _ q=>q.elim) (fun k hk => .inl (by
   rcases hk with rfl|h|h|h
   ·exact .inl HLB.out.1
   ·exact .inl (HLB.out.2.1 k h)
   ·exact .inl (HLB.out.2.2 k h)
   ·exact .inr h))
  have Ub:=HE.out.prog w1 (HF.out.trans h2);have Kh:=z7 h2;have zvb:=z7 h1;have HNN:=z7 zvd;have fS:=z7 qa;obtain⟨gd,o,cap,zl5,-⟩:=iO;obtain⟨nb,CU⟩:∃ nb,nn.1=nb:=⟨_,rfl⟩;obtain⟨LL,hLL⟩:∃ LL,nn.2.1.length+nn.2.2.length=LL:=⟨_,rfl⟩;obtain⟨sc,hsc⟩:∃ sc,nn.2.2.length=sc:=⟨_,rfl⟩;rw[CU,hLL,hsc] at zl5;subst zl5;obtain⟨I2,ic2,kv2,tv2,q1',-,-,i2',-⟩:=Ub.ins HK.out;have hIe:=zW (Ub.q1.symm.trans q1');rw[HVI.out] at hIe;simp only[Value.slice.injEq,Option.some.injEq,Addr.mk.injEq,and_true,true_and] at hIe;rw[←hIe.1,HXV.out] at i2';obtain⟨B9,rR⟩:∃ B9,w1.heap.size=B9:=⟨_,rfl⟩;obtain⟨W2,M8⟩:∃ W2,w1.alloc (.cells #[.bool nb,.slice (some ⟨gd,o,none⟩) LL cap,.int .i64 (sc:Nat)] 97)=W2:=⟨_,rfl⟩;have vG:Fr xN xN w1 W2:=by rw[←M8];exact(Fr.refl _ _).alloc _
  have n0:∀ j,W2.cell? ⟨B9,j,none⟩=(#[zI nb,.slice (some ⟨gd,o,none⟩) LL cap,.int .i64 (sc:Nat)]:Array Value)[j]? := fun j=>by rw[←M8,←rR];exact xu _ _ _ _ _
  have m0:=n0 0;have m1:=n0 1;have m2:=n0 2;simp only[zg,zu,zk] at m0 m1 m2;have i2W:=vG.cell i2' id;have zl6:=SB _ nn xv W2.drew ((zvd.any.fr vG (fun _ q=>q.elim) (M':=fun _=>False) (fun _ q=>q.elim)).fr (w':=W2.drew) (F:=xN) (F':=xN) ((Fr.refl _ _).drew) (fun _ q=>q.elim) (M':=fun _=>False) (fun _ q=>q.elim)) hv9 (by omega);have zl7:=z7 zl6;have dY:=z7 vG;clear h1 h2 hI LR zvd Ub zl6 vG n0 hIe q1' i2' b0 q0 q1 i0 i2 i3 cj kj qa;go_wp2_with fail;try rw[M8]
  clear M8 rR CU hLL hsc;refine rk (fun W':World=>W'.cell? ⟨B9,0,none⟩=some (.bool nb)/\W'.cell? ⟨B9,1,none⟩=some (.slice (some ⟨gd,o,none⟩) LL cap)/\W'.cell? ⟨B9,2,none⟩=some (.int .i64 (sc:Nat))/\W'.cell? ⟨I,k*5+2,none⟩=some (.int .i64 xv)) 11 (zV 9) 3 ⟨m0,m1,m2,i2W⟩ ?_;(iterate 9 (refine ty ?_;try simp only[pl]))
  refine xq ?_;refine xI 9 (by kernel_rfl) rfl (fun J hJ=>?_);go_simp;refine zl7.out.mono ?_;rintro e w3 ⟨⟨v3,rfl,Li⟩,uD⟩;have jw:Fr xN xN W2 w3:=(Fr.of uD).und;have HZ:=z7 Li;have HOK:=z7 Li.ok;obtain⟨zz,Ll⟩:∃ zz,VJ nn xv=zz:=⟨_,rfl⟩;rw[Ll] at Li HZ;obtain⟨g3,o3,zl8,hv3,-⟩:=Li;obtain⟨zb,hzb⟩:∃ zb,zz.1=zb:=⟨_,rfl⟩;obtain⟨L3,hL3⟩:∃ L3,zz.2.1.length+zz.2.2.length=L3:=⟨_,rfl⟩;obtain⟨sc3,zl9⟩:∃ sc3,zz.2.2.length=sc3:=⟨_,rfl⟩;rw[hzb,hL3,zl9] at hv3;subst hv3;have rc:=zvb.out.quiet HE.out (dY.out.trans jw);have Fe:=zvb.out.o.lt;have h1:gL (Gp b v st (S s')) w3 (IH nb gd o LL cap sc) nn:=HNN.out.fr (dY.out.trans jw) (fun _ q=>q.elim) (fun _ q => .inl q);have h2:gL (Gp b v st (S s')) w3 (IH zb g3 o3 L3 zl8 sc3) zz:=HZ.out.fr (Fr.refl xN _) (fun _ q=>q.elim) (fun k hk => .inl (by
   have M8:=dY.out.size;have VD:=Kh.out.size;show k<W2.heap.size;rcases hk with rfl|h|h|h
   ·omega
   ·have:=HLB.out.2.1 k h;omega
   ·have:=HLB.out.2.2 k h;omega
   ·have:=HE.out.get.CP s' w1 k zvb.out.inv h;omega))
  have fX:=gp.snoc h1 h2 rc.en;have sQ:=z7 (ae rc.o rc.row rc.sb rc.sv (by have:=HSL.out;simp only;omega) nb zb gd o LL cap sc g3 o3 L3 zl8 sc3);have jF:=z7 (fun w' hq=>vr.PD (r:={ r with gs:=s' }) (w:=w3) (w':=w') (stk:=r.stk++[(nn,zz)]) HE.out rc.row fX rc.inv rc.ds rc.da rc.df rc.o.lt (by rw[zU];exact hq));have c0:=jw.cell m0 id;have c1:=jw.cell m1 id;have c2:=jw.cell m2 id;have c3:=jw.cell i2W id;have VB:=z7 jw;have HZZ:=z7 Ll;clear jw rc h1 h2 fX uD zl7 hzb hL3 zl9 Fe Ll m0 m1 m2 i2W;refine hJ.out _ _ ⟨c0,c1,c2,c3⟩ fun _=>?_
  clear hJ J;refine kx [10] 1 rfl (by intro _ _ d _ _ h;cases d<;>exact h) (by kernel_rfl) (by kernel_rfl) ⟨c0,c1,c2,c3⟩ ?_;refine ty ?_;try simp only[pl]
  refine xq ?_;refine xw 11 (by kernel_rfl) (by kernel_rfl) rfl (fun J hJ=>?_);go_simp;refine sQ.out.mono ?_;rintro e w4 ⟨rfl,SL⟩;refine hJ.out _ _ ?_;clear hJ J;refine vz (by kernel_rfl) ?_ _;obtain⟨DG,cu⟩:=jF.out w4 SL;have H4:=z7 (z8 DG cu);clear SL DG cu sQ jF;go_wp2;go_ret;have gh:=H4.out.1;rw[←HZZ.out] at gh;exact⟨⟨by first|rfl|simp,gh,zm _ _,by simp⟩,(Kh.out.trans ((dY.out.trans VB.out).wide (fun _ q=>q.elim))).trans H4.out.2⟩
end
def Jy(s:MkS)(p:Nat):Int:=NP (fW s.code s.code.length p)
section
variable {τ:Type} {w0 W:World} {A0 b q mb g k:Nat} {G:Nat->Prop} {s:MkS} {vC vI gv:Value} {rs:List (Value×Value)} {E:qI τ} {F S:τ->Nat->Prop} {Inv:τ->World->Prop} {r:bH τ} {x:jf}
theorem step_goto(hE:dm w0 A0 b G q mb g s vC vI rs gv E F S Inv)(hf:Fr G G w0 W)(hR:vr b A0 q g gv G F S Inv r W)(hk:s.code[k]? = some x)(uC:x.op=11){p:Nat}(NW:x.tg[0]? = some p) :
  Calls Tryz.prog 87 #[.pointer (some ⟨b,0,none⟩),.int .i64 (k:Nat)] W fun e w'=>e = .returned (.int .i64 (Jy s p))/\Fr xN xN W w':=by
 have hp:=hE.prog W hf;obtain⟨I,ic,kv,tv,q1,lt,i0,-,-,i4,-,tr⟩:=hp.ins hk;obtain⟨T,tc,rfl,tj,Jd⟩:=tr.at_ NW;have JB:=(hE.n4 x (zy hk)).2 p (zy NW);have QX:=z7 (Gn q mb s.code.length p _ W.drew hp.q2 (hp.mp.keep rfl) JB);have Zz:=hE.n1;obtain⟨jv,Bj⟩:∃ jv,Jy s p=jv:=⟨_,rfl⟩;have HJ:=z7 Bj;rw[show NP (fW s.code s.code.length p)=jv from Bj] at QX;rw[Bj];obtain⟨n,hN⟩:∃ n,s.code.length=n:=⟨_,rfl⟩;obtain⟨z,hZ⟩:∃ z,x.tg.length=z:=⟨_,rfl⟩;rw[hN] at q1 lt Zz;rw[hZ] at i4 Jd;rw[uC] at i0;obtain⟨v,st,cs,hO,-⟩:=hR;have b0:=hO.cell.1;have k1:(k:Int)<(n:Int):=by omega
 have k3:(0:Int)<(z:Int):=by omega
 clear hE hf hp hk uC hO hN hZ tr NW Bj;go_enter func87,ntmps87;go_wp2_with fail;refine rt (fun W':World=>W'.cell? ⟨b,0,none⟩=some (.pointer (some ⟨q,0,none⟩))/\W'.cell? ⟨I,k*5+4,none⟩=some (.slice (some ⟨T,0,none⟩) z tc)/\W'.cell? ⟨T,0,none⟩=some (.int .i64 p)) (zV 10) 2 ⟨b0,i4,tj⟩ ?_;(iterate 10 (refine ty ?_;try simp only[pl]))
 refine xq ?_;refine xg 10 (by kernel_rfl) rfl (fun J hJ=>?_);go_simp;refine QX.out.mono ?_;rintro e w1 ⟨rfl,rfl⟩;refine hJ.out _ _ ⟨b0,i4,tj⟩ fun _=>?_
 clear hJ J;refine xG [11] 0 rfl (by intro _ _ d _ _ h;cases d<;>exact h) (by kernel_rfl) (by kernel_rfl) ⟨b0,i4,tj⟩ ?_;refine ty ?_;try simp only[pl]
 refine xq ?_;refine wpAnyH_done (by kernel_rfl) ?_ _;go_wp2;go_ret;exact⟨rfl,(Fr.refl _ _).drew⟩
theorem NA(hE:dm w0 A0 b G q mb g s vC vI rs gv E F S Inv)(hf:Fr G G w0 W)(hR:vr b A0 q g gv G F S Inv r W)(hk:s.code[k]? = some x)(uC:x.op=7){p:Nat}(NW:x.tg[0]? = some p){stk:List (vg×vg)}{tp:vg×vg}(hs:r.stk=stk++[tp])(dG:r.stk.length<=1000000) :
  Calls Tryz.prog 87 #[.pointer (some ⟨b,0,none⟩),.int .i64 (k:Nat)] W fun e w'=>e = .returned (.int .i64 (if fe tp.1 x.v then Jy s p else ((k+1:Nat):Int)))/\Fr xN xN W w':=by
 have hp:=hE.prog W hf;obtain⟨I,ic,kv,tv,q1,lt,i0,i2,-,i4,-,tr⟩:=hp.ins hk;obtain⟨T,tc,rfl,tj,Jd⟩:=tr.at_ NW;obtain⟨hv9,JB⟩:=hE.n4 x (List.mem_of_getElem? hk);have JB:=JB p (List.mem_of_getElem? NW);have QX:=Lib.hid (fun (w:World) (hq:w.cell? ⟨q,2,none⟩=some (.map (some mb))) (hm:Z7 w mb s.code.length (fW s.code s.code.length))=>Gn q mb s.code.length p (fW s.code s.code.length) w hq hm JB);have QJ:=Lib.hid (And.intro hp.q2 hp.mp);have Zz:=hE.n1;obtain⟨jv,Bj⟩:∃ jv,Jy s p=jv:=⟨_,rfl⟩;rw[show NP (fW s.code s.code.length p)=jv from Bj] at QX;rw[Bj];obtain⟨n,hN⟩:∃ n,s.code.length=n:=⟨_,rfl⟩;obtain⟨z,hZ⟩:∃ z,x.tg.length=z:=⟨_,rfl⟩;obtain⟨xv,hXV⟩:∃ xv,x.v=xv:=⟨_,rfl⟩;rw[hN] at q1 lt Zz QJ QX;rw[hZ] at i4 Jd;rw[hXV] at i2 hv9 ⊢;rw[uC] at i0;obtain⟨v,st,cs,hO,vL,fX,-⟩:=hR;obtain⟨tn,tz⟩:=tp;obtain⟨JJ,hJJ⟩:∃ JJ,(if fe tn xv=true then jv else ((k+1:Nat):Int))=JJ:=⟨_,rfl⟩;have HJJ:=Lib.hid hJJ;rw[show(if fe (tn,tz).1 xv=true then jv else ((k+1:Nat):Int))=JJ from hJJ];clear hJJ;have XC:(stk++[(tn,tz)]).length=stk.length+1:=by simp
 rw[hs] at fX vL dG;rw[XC] at vL dG;obtain⟨PF,nb,g1,o1,m1,c1,nz,zb,g2,o2,m2,c2,k2,rfl,Yl,hn,-⟩:=fX.last;have HT:=z7 (JD (w:=W.drew) hO nb zb g1 o1 m1 c1 nz g2 o2 m2 c2 k2 vL Yl.len (by omega));have b0:=hO.cell.1;have k1:(k:Int)<(n:Int):=by omega
 have k3:(0:Int)<(z:Int):=by omega
 have aN:=IM;have HSM:=z7 (fun (w:World) (hb:Fr xN xN W w)=>aW _ tn xv w (hn.any.fr hb (fun _ q=>q.elim) (M':=fun _=>False) (fun _ q=>q.elim)) hv9);clear hE hf hp hk uC hO hN hZ tr NW Bj vL fX Yl hs dG XC hXV hn;go_enter func87,ntmps87;go_wp2_with fail;refine rt (fun W':World=>W'.cell? ⟨I,k*5+2,none⟩=some (.int .i64 xv)) [0,1,2,5,6,7,8] 4 i2 ?_;(iterate 7 (refine ty ?_;try simp only[pl]))
 refine xq ?_;refine xg 3 (by kernel_rfl) rfl (fun J hJ=>?_);go_simp;refine HT.out.mono ?_;rintro e w1 ⟨rfl,xB⟩;have uq:Fr xN xN W w1:=(Fr.of xB).und;have i2a:=uq.cell i2 id;refine hJ.out _ _ i2a fun _=>?_
 clear hJ J;refine xG [4] 2 rfl (by intro _ _ d _ _ h;cases d<;>exact h) (by kernel_rfl) (by kernel_rfl) i2a ?_;refine ty ?_;try simp only[pl]
 refine xq ?_;refine xg 9 (by kernel_rfl) rfl (fun J hJ=>?_);go_simp;refine(HSM.out w1 uq).mono ?_;rintro e w2 ⟨rfl,xD⟩;have vG:Fr xN xN W w2:=uq.trans (Fr.of xD);have i2b:=vG.cell i2 id;have sK:=vG.cell b0 id;have sJ:=vG.cell i4 id;have oP:=vG.cell tj id;have q2b:=vG.cell QJ.out.1 id;have Ms:=z7 (QJ.out.2.keep (vG.keep mb QJ.out.2.lt id));refine hJ.out _ _ i2b fun _=>?_
 clear hJ J;refine xG [10] 0 rfl (by intro _ _ d _ _ h;cases d<;>exact h) (by kernel_rfl) (by kernel_rfl) i2b ?_;refine ty ?_;try simp only[pl]
 refine xq ?_;refine wpAnyH_done (by kernel_rfl) ?_ _;have dY:=z7 vG;clear uq xB vG xD i2a HT HSM aN b0 i4 tj i2
 cases b8:fe tn xv
 ·have HSE:=z7 (show((k+1:Nat):Int)=JJ by rw[←HJJ.out,b8];rfl);clear b8;go_wp2;go_ret;exact⟨by rw[←HSE.out];first|rfl|simp,dY.out⟩
 ·have HSE:=z7 (show jv=JJ by rw[←HJJ.out,b8];rfl);have BW:=z7 (QX.out w2.drew q2b (Ms.out.keep rfl));clear b8 QX;go_wp2_with fail;refine rt (fun W':World=>W'.cell? ⟨b,0,none⟩=some (.pointer (some ⟨q,0,none⟩))/\W'.cell? ⟨I,k*5+4,none⟩=some (.slice (some ⟨T,0,none⟩) z tc)/\W'.cell? ⟨T,0,none⟩=some (.int .i64 p)) (zV 10) 2 ⟨sK,sJ,oP⟩ ?_;(iterate 10 (refine ty ?_;try simp only[pl]))
  refine xq ?_;refine xg 10 (by kernel_rfl) rfl (fun J hJ=>?_);go_simp;refine BW.out.mono ?_;rintro e w3 ⟨rfl,rfl⟩;refine hJ.out _ _ ⟨sK,sJ,oP⟩ fun _=>?_
  clear hJ J;refine xG [11] 0 rfl (by intro _ _ d _ _ h;cases d<;>exact h) (by kernel_rfl) (by kernel_rfl) ⟨sK,sJ,oP⟩ ?_;refine ty ?_;try simp only[pl]
  refine xq ?_;refine wpAnyH_done (by kernel_rfl) ?_ _;go_wp2;go_ret;exact⟨by rw[←HSE.out];rfl,dY.out.drew⟩
end
section
variable {τ:Type} {w0 W:World} {A0 b q mb g k:Nat} {G:Nat->Prop} {s:MkS} {vC vI gv:Value} {rs:List (Value×Value)} {E:qI τ} {F S:τ->Nat->Prop} {Inv:τ->World->Prop} {r:bH τ} {x:jf}
theorem SM(hE:dm w0 A0 b G q mb g s vC vI rs gv E F S Inv)(hf:Fr G G w0 W)(hR:vr b A0 q g gv G F S Inv r W)(hk:s.code[k]? = some x)(uC:x.op=8){p:Nat}{stk:List (vg×vg)}{tp:vg×vg}(hs:r.stk=stk++[tp])(NW:x.tg[E.sort false tp.2.2]? = some p)(dG:r.stk.length<=1000000) :
  Calls Tryz.prog 87 #[.pointer (some ⟨b,0,none⟩),.int .i64 (k:Nat)] W fun e w'=>e = .returned (.int .i64 (Jy s p))/\Fr xN xN W w':=by
 have hp:=hE.prog W hf;obtain⟨I,ic,kv,tv,q1,lt,i0,i2,-,i4,-,tr⟩:=hp.ins hk;obtain⟨T,tc,rfl,tj,Jd⟩:=tr.at_ NW;have JB:=(hE.n4 x (List.mem_of_getElem? hk)).2 p (List.mem_of_getElem? NW);have QX:=Lib.hid (fun (w:World) (hq:w.cell? ⟨q,2,none⟩=some (.map (some mb))) (hm:Z7 w mb s.code.length (fW s.code s.code.length))=>Gn q mb s.code.length p (fW s.code s.code.length) w hq hm JB);have QJ:=Lib.hid (And.intro hp.q2 hp.mp);have Zz:=hE.n1;obtain⟨jv,Bj⟩:∃ jv,Jy s p=jv:=⟨_,rfl⟩;rw[show NP (fW s.code s.code.length p)=jv from Bj] at QX;rw[Bj];obtain⟨n,hN⟩:∃ n,s.code.length=n:=⟨_,rfl⟩;obtain⟨z,hZ⟩:∃ z,x.tg.length=z:=⟨_,rfl⟩;rw[hN] at q1 lt Zz QJ QX;rw[hZ] at i4 Jd;rw[uC] at i0;obtain⟨v,st,cs,hO,vL,fX,-⟩:=hR;obtain⟨tn,tz⟩:=tp;have XC:(stk++[(tn,tz)]).length=stk.length+1:=by simp
 rw[hs] at fX vL dG;rw[XC] at vL dG;obtain⟨PF,nb,g1,o1,m1,c1,nz,zb,g2,o2,m2,c2,k2,rfl,Yl,-,hz⟩:=fX.last;have HT:=z7 (JD (w:=W.drew) hO nb zb g1 o1 m1 c1 nz g2 o2 m2 c2 k2 vL Yl.len (by omega));obtain⟨cv,ov,hcv,qY,jD⟩:=hE.set;have g0:=(hcv W hf).1;obtain⟨ix,Hn⟩:∃ ix,E.sort false tz.2=ix:=⟨_,rfl⟩;have FT:=z7 (fun (w:World) (hb:Fr xN xN W w)=>qY w _ tz.2 (hf.trans (hb.wide (G:=G) (fun _ q=>q.elim))) ((hz.any.fr hb (fun _ q=>q.elim) (M':=fun _=>False) (fun _ q=>q.elim))).num);simp only[Hn] at FT tj Jd;have b0:=hO.cell.1;have b1:=hO.cell.2.1;have k1:(k:Int)<(n:Int):=by omega
 have k3:(ix:Int)<(z:Int):=by omega
 have aN:=Vw;clear hE hf hp hk uC hO hN hZ tr NW Bj vL fX Yl hs dG XC hz hcv qY jD Hn;go_enter func87,ntmps87;go_wp2_with fail;refine rt (fun W':World=>W'.cell? ⟨b,0,none⟩=some (.pointer (some ⟨q,0,none⟩))/\W'.cell? ⟨b,1,none⟩=some (.pointer (some ⟨g,0,none⟩))/\W'.cell? ⟨g,0,none⟩=some cv/\W'.cell? ⟨I,k*5+4,none⟩=some (.slice (some ⟨T,0,none⟩) z tc)/\W'.cell? ⟨T,ix,none⟩=some (.int .i64 p)) (zV 18) 7 ⟨b0,b1,g0,i4,tj⟩ ?_;(iterate 18 (refine ty ?_;try simp only[pl]))
 refine xq ?_;refine xg 18 (by kernel_rfl) rfl (fun J hJ=>?_);go_simp;refine HT.out.mono ?_;rintro e w1 ⟨rfl,xB⟩;have uq:Fr xN xN W w1:=(Fr.of xB).und;have a1:=uq.cell b0 id;have a2:=uq.cell b1 id;have a3:=uq.cell g0 id;have a4:=uq.cell i4 id;have a5:=uq.cell tj id;refine hJ.out _ _ ⟨a1,a2,a3,a4,a5⟩ fun _=>?_
 clear hJ J;refine xG [19] 5 rfl (by intro _ _ d _ _ h;cases d<;>exact h) (by kernel_rfl) (by kernel_rfl) ⟨a1,a2,a3,a4,a5⟩ ?_;refine ty ?_;try simp only[pl]
 refine xq ?_;refine xg 20 (by kernel_rfl) rfl (fun J hJ=>?_);go_simp;refine(FT.out w1 uq).mono ?_;rintro e w2 ⟨rfl,xD⟩;have vG:Fr xN xN W w2:=uq.trans (Fr.of xD);have d1:=vG.cell b0 id;have d2:=vG.cell b1 id;have d3:=vG.cell g0 id;have d4:=vG.cell i4 id;have d5:=vG.cell tj id;have q2b:=vG.cell QJ.out.1 id;have BW:=z7 (QX.out w2 q2b (QJ.out.2.keep (vG.keep mb QJ.out.2.lt id)));have dY:=z7 vG;clear a1 a2 a3 a4 a5 uq xB vG xD b0 b1 g0 i4 tj HT FT QX QJ q2b;refine hJ.out _ _ ⟨d1,d2,d3,d4,d5⟩ fun _=>?_
 clear hJ J;refine xG [21,22] 2 rfl (by intro _ _ d _ _ h;cases d<;>exact h) (by kernel_rfl) (by kernel_rfl) ⟨d1,d2,d3,d4,d5⟩ ?_;(iterate 2 (refine ty ?_;try simp only[pl]))
 refine xq ?_;refine xg 23 (by kernel_rfl) rfl (fun J hJ=>?_);go_simp;refine BW.out.mono ?_;rintro e w3 ⟨rfl,rfl⟩;refine hJ.out _ _ ⟨d1,d2,d3,d4,d5⟩ fun _=>?_
 clear hJ J;refine xG [24] 0 rfl (by intro _ _ d _ _ h;cases d<;>exact h) (by kernel_rfl) (by kernel_rfl) ⟨d1,d2,d3,d4,d5⟩ ?_;refine ty ?_;try simp only[pl]
 refine xq ?_;refine wpAnyH_done (by kernel_rfl) ?_ _;go_wp2;go_ret;exact⟨rfl,dY.out⟩
theorem SN(hE:dm w0 A0 b G q mb g s vC vI rs gv E F S Inv)(hf:Fr G G w0 W)(hR:vr b A0 q g gv G F S Inv r W)(hk:s.code[k]? = some x)(uC:x.op=9){p:Nat}{stk:List (vg×vg)}{tp:vg×vg}(hs:r.stk=stk++[tp])(NW:x.tg[E.sort true tp.2.2]? = some p)(dG:r.stk.length<=1000000) :
  Calls Tryz.prog 87 #[.pointer (some ⟨b,0,none⟩),.int .i64 (k:Nat)] W fun e w'=>e = .returned (.int .i64 (Jy s p))/\Fr xN xN W w':=by
 have hp:=hE.prog W hf;obtain⟨I,ic,kv,tv,q1,lt,i0,i2,-,i4,-,tr⟩:=hp.ins hk;obtain⟨T,tc,rfl,tj,Jd⟩:=tr.at_ NW;have JB:=(hE.n4 x (List.mem_of_getElem? hk)).2 p (List.mem_of_getElem? NW);have QX:=Lib.hid (fun (w:World) (hq:w.cell? ⟨q,2,none⟩=some (.map (some mb))) (hm:Z7 w mb s.code.length (fW s.code s.code.length))=>Gn q mb s.code.length p (fW s.code s.code.length) w hq hm JB);have QJ:=Lib.hid (And.intro hp.q2 hp.mp);have Zz:=hE.n1;obtain⟨jv,Bj⟩:∃ jv,Jy s p=jv:=⟨_,rfl⟩;rw[show NP (fW s.code s.code.length p)=jv from Bj] at QX;rw[Bj];obtain⟨n,hN⟩:∃ n,s.code.length=n:=⟨_,rfl⟩;obtain⟨z,hZ⟩:∃ z,x.tg.length=z:=⟨_,rfl⟩;rw[hN] at q1 lt Zz QJ QX;rw[hZ] at i4 Jd;rw[uC] at i0;obtain⟨v,st,cs,hO,vL,fX,-⟩:=hR;obtain⟨tn,tz⟩:=tp;have XC:(stk++[(tn,tz)]).length=stk.length+1:=by simp
 rw[hs] at fX vL dG;rw[XC] at vL dG;obtain⟨PF,nb,g1,o1,m1,c1,nz,zb,g2,o2,m2,c2,k2,rfl,Yl,-,hz⟩:=fX.last;have HT:=z7 (JD (w:=W.drew) hO nb zb g1 o1 m1 c1 nz g2 o2 m2 c2 k2 vL Yl.len (by omega));obtain⟨cv,ov,hcv,qY,jD⟩:=hE.set;have g0:=(hcv W hf).2;obtain⟨ix,Hn⟩:∃ ix,E.sort true tz.2=ix:=⟨_,rfl⟩;have FT:=z7 (fun (w:World) (hb:Fr xN xN W w)=>jD w _ tz.2 (hf.trans (hb.wide (G:=G) (fun _ q=>q.elim))) ((hz.any.fr hb (fun _ q=>q.elim) (M':=fun _=>False) (fun _ q=>q.elim))).num);simp only[Hn] at FT tj Jd;have b0:=hO.cell.1;have b1:=hO.cell.2.1;have k1:(k:Int)<(n:Int):=by omega
 have k3:(ix:Int)<(z:Int):=by omega
 have aN:=Vw;clear hE hf hp hk uC hO hN hZ tr NW Bj vL fX Yl hs dG XC hz hcv qY jD Hn;go_enter func87,ntmps87;go_wp2_with fail;refine rt (fun W':World=>W'.cell? ⟨b,0,none⟩=some (.pointer (some ⟨q,0,none⟩))/\W'.cell? ⟨b,1,none⟩=some (.pointer (some ⟨g,0,none⟩))/\W'.cell? ⟨g,1,none⟩=some ov/\W'.cell? ⟨I,k*5+4,none⟩=some (.slice (some ⟨T,0,none⟩) z tc)/\W'.cell? ⟨T,ix,none⟩=some (.int .i64 p)) (zV 18) 7 ⟨b0,b1,g0,i4,tj⟩ ?_;(iterate 18 (refine ty ?_;try simp only[pl]))
 refine xq ?_;refine xg 18 (by kernel_rfl) rfl (fun J hJ=>?_);go_simp;refine HT.out.mono ?_;rintro e w1 ⟨rfl,xB⟩;have uq:Fr xN xN W w1:=(Fr.of xB).und;have a1:=uq.cell b0 id;have a2:=uq.cell b1 id;have a3:=uq.cell g0 id;have a4:=uq.cell i4 id;have a5:=uq.cell tj id;refine hJ.out _ _ ⟨a1,a2,a3,a4,a5⟩ fun _=>?_
 clear hJ J;refine xG [19] 5 rfl (by intro _ _ d _ _ h;cases d<;>exact h) (by kernel_rfl) (by kernel_rfl) ⟨a1,a2,a3,a4,a5⟩ ?_;refine ty ?_;try simp only[pl]
 refine xq ?_;refine xg 20 (by kernel_rfl) rfl (fun J hJ=>?_);go_simp;refine(FT.out w1 uq).mono ?_;rintro e w2 ⟨rfl,xD⟩;have vG:Fr xN xN W w2:=uq.trans (Fr.of xD);have d1:=vG.cell b0 id;have d2:=vG.cell b1 id;have d3:=vG.cell g0 id;have d4:=vG.cell i4 id;have d5:=vG.cell tj id;have q2b:=vG.cell QJ.out.1 id;have BW:=z7 (QX.out w2 q2b (QJ.out.2.keep (vG.keep mb QJ.out.2.lt id)));have dY:=z7 vG;clear a1 a2 a3 a4 a5 uq xB vG xD b0 b1 g0 i4 tj HT FT QX QJ q2b;refine hJ.out _ _ ⟨d1,d2,d3,d4,d5⟩ fun _=>?_
 clear hJ J;refine xG [21,22] 2 rfl (by intro _ _ d _ _ h;cases d<;>exact h) (by kernel_rfl) (by kernel_rfl) ⟨d1,d2,d3,d4,d5⟩ ?_;(iterate 2 (refine ty ?_;try simp only[pl]))
 refine xq ?_;refine xg 23 (by kernel_rfl) rfl (fun J hJ=>?_);go_simp;refine BW.out.mono ?_;rintro e w3 ⟨rfl,rfl⟩;refine hJ.out _ _ ⟨d1,d2,d3,d4,d5⟩ fun _=>?_
 clear hJ J;refine xG [24] 0 rfl (by intro _ _ d _ _ h;cases d<;>exact h) (by kernel_rfl) (by kernel_rfl) ⟨d1,d2,d3,d4,d5⟩ ?_;refine ty ?_;try simp only[pl]
 refine xq ?_;refine wpAnyH_done (by kernel_rfl) ?_ _;go_wp2;go_ret;exact⟨rfl,dY.out⟩
end
end Go.Proofs.YthpldolmpinnhaaGreatDoor
