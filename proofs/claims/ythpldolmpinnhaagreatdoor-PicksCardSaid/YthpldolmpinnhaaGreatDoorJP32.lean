import Derived.Test.YthpldolmpinnhaaGreatDoorJP31
import Derived.Deep.CutBlock
set_option maxHeartbeats 64000000
open Go.Lib renaming hid→z7
open And renaming intro→z8
open List renaming mem_of_getElem?→zy,getElem?_eq_getElem→zu,getElem?_cons_zero→zk,getElem?_cons_succ→zj,replicate→zg,all_eq_true→zf,getElem?_toArray→zZ,range→zX,length_append→zJ,mem_of_mem_drop→zF,length_drop→zO,length_take→zi,take_left→zm,getElem?_eq_some_iff→zo,drop_eq_getElem_cons→zr,eq_of_mem_replicate→zt,take_append_drop→zh,length_replicate→zw,length_pos_iff→yy,append_assoc→yx,length_tail→yv,getElem_mem→yu,all_append→yq
open Go.Value renaming ownBlock→zx,int→zH,bool→zR
open Go.World renaming frozen?_setCell→zv,cell?_alloc_lt→zY,block_lt_of_cell?→zV,frozen?_of_block→zU,setCell→zn
open Option.some renaming inj→zQ,injEq→zE
open Nat renaming le_refl→zG,lt_of_lt_of_le→zM,le_succ→za,le_trans→ze,le_add_right→zl
open Go.Value.slice renaming injEq→zD
open Go.RowKit.Below renaming refl→zL
open Go.IntKind renaming wrap_i64→zN,i64→zS
open Go.Builtin renaming append_→zP,zeroCells→zc
open Go.Addr.mk renaming injEq→zW
open Array renaming toList_append→yz
open Go.Proofs.Tryz
namespace Go.Proofs.YthpldolmpinnhaaGreatDoor
open Go Go.RowKit
set_option maxRecDepth 10000
def gp(M:Nat->Prop)(w:World)(v:Value)(n:vv):Prop :=
 ∃ g o cap,v = .agg #[.bool n.1,.slice (some ⟨g,o,none⟩) (n.2.1.length+n.2.2.length) cap,.int .i64 n.2.2.length]/\n.2.1.length+n.2.2.length<=cap/\cap<=maxLen/\¬M g/\(∃ c,w.cell? ⟨g,0,none⟩=some (.int .u8 c))/\xF w (some ⟨g,o,none⟩) (xW (n.2.1++n.2.2))/\Io n.2
theorem gp.num{M:Nat->Prop}{w:World}{v:Value}{n:vv}(h:gp M w v n):uh w v n.2:=by
 obtain⟨g,o,cap,h1,h2,h3,_,h4,h5,h6⟩:=h;exact⟨n.1,g,o,cap,h1,h2,h3,h4,h5,h6⟩
theorem xF.fr{F F':Nat->Prop}{w w':World}{a:Addr}{l:List Int}(h:xF w (some a) l)(hf:Fr F F' w w')(ha:¬F a.block):xF w' (some a) l:=fun j hj=>by
 obtain⟨b,hb,hc⟩:=h j hj
 cases hb;have e:(a.add j).block=a.block:=by unfold Addr.add;split<;>rfl
 exact⟨a,rfl,hf.cell hc (by rw[e];exact ha)⟩
theorem gp.fr{M M' F F':Nat->Prop}{w w':World}{v:Value}{n:vv}(h:gp M w v n)(hf:Fr F F' w w')(hF:∀ k,F k->M k)(hM:∀ k,M' k->M k\/w.heap.size<=k):gp M' w' v n:=by
 obtain⟨g,o,cap,h1,h2,h3,hg,⟨c,h4⟩,h5,h6⟩:=h;have hl:=zV w _ h4;exact⟨g,o,cap,h1,h2,h3,fun q=>(hM g q).elim hg (fun q=>by simp only at hl;omega),⟨c,hf.cell h4 (fun q=>hg (hF g q))⟩,h5.fr hf (fun q=>hg (hF g q)),h6⟩
theorem R6(l:Wd)(a:Addr)(c sz:Nat)(w:World)(hs:l.length<=sz)(h0:0<sz)(hk:sz<=300)(hB:xF w (some a) (xW l)) :
  Calls Tryz.prog 167 #[.slice (some a) l.length c,.int .i64 (sz:Int)] w fun e w'=>(∃ g cp,e = .returned (.slice (some ⟨g,0,none⟩) sz cp)/\xF w' (some ⟨g,0,none⟩) (xW (fZ sz l))/\w.heap.size<=g)/\Below w.heap.size w w':=by
 obtain⟨k,rfl⟩:∃ k,sz=l.length+k:=⟨sz - l.length,by omega⟩;refine(eV l a c k w (by omega) (by omega) hB).mono ?_;rintro e w' ⟨⟨v,rfl,ho⟩,hb⟩;have Ng:(fZ (l.length+k) l).length=l.length+k:=by rw[JT];omega
 obtain⟨g,cp,rfl,hg,-,-⟩:=vQ ho h0;exact⟨⟨g,cp,rfl,qA ho Ng.symm,hg⟩,hb⟩
theorem TZ(w:World)(B g cap n:Nat)(l:Wd)(xJ:w.ownsRow B 5 1 (.slice (some ⟨g,0,none⟩) n cap) n (vy l))(k:Nat)(hn:n+k<=1000000)(ty:TypeId) :
  ∃ v' w',(zP #[48,3] ty #[.slice (some ⟨g,0,none⟩) n cap,.int .i64 (k:Int)]).run Tryz.prog w = .ok v' w'/\w'.ownsRow B 5 1 v' (n+k) (vy (l++zg k 48))/\w.grownBy w' (some g):=by
 obtain⟨i,hi,hz,h2,h3⟩:=vx.info;have ht:=vx.under;have mP:=underlying3;rcases xJ.2 with⟨hv,_⟩|⟨g',uy,cur,hv,Dj,hg,hnc,jM,dT,Yp⟩
 ·cases hv
 cases hv;have ER:l.length=n:=by have:=xJ.1;simpa[vy] using this
 have yf7:cur.size=cap:=by simpa using dT
 have hw:zS.wrap (k:Int)=k:=by rw[zN];omega
 have Fg:¬((k:Int)<0):=by omega
 have Bj:¬(281474976710656<(k:Int)*(i.bytes:Int)):=by rw[h3];omega
 have hzc:(zc (zH .u8 0).cells k)=(zg k (zH .u8 0)).toArray:=by
  apply Array.ext';apply List.ext_getElem
  ·simp[zc,Value.cells]
  ·intro j h1 h2;simp[zc,Value.cells];rw[Nat.mod_one];rfl
 by_cases Gx:n+k<=cap
 ·by_cases h0:k=0
  ·subst h0;refine⟨_,w,?_,by simpa using xJ,World.grownBy.refl _ _⟩;have hw0:zS.wrap 0=0:=by decide
   have yb8:n<=cap:=hnc;simp[zP,run_underlying ht,run_underlying mP,sizeOf,typeInfo,hi,h2,h3,asInt,asIntOf,hw0,yb8];rfl
  ·have vR:=run_storeCells_at Tryz.prog g n 5 (zg k (zH .u8 0)) 0 cur w hg (by simp;omega) (by intro v hv;rw[zt hv];rfl);simp only[Nat.add_zero,zw] at vR;refine⟨.slice (some ⟨g,0,none⟩) (n+k) cap,w.setRow g (cur.toList.take n++zg k (zH .u8 0)++cur.toList.drop (n+k)).toArray,?_,⟨by simp[vy,ER],.inr ⟨g,cap,_,rfl,Dj,setRow_heap w g cur _ _ _ hg,Gx,jM,?_,?_⟩⟩,⟨rfl,rfl,rfl,by simp,fun j _ hj=>setRow_other w g j _ (fun e=>hj (by simp[e]))⟩⟩
   ·simp[zP,run_underlying ht,run_underlying mP,sizeOf,typeInfo,zeroValue,hi,hz,h2,h3,asInt,asIntOf,hw,Fg,h0,Gx,hzc,Addr.add_lit,vR];intro xk4;omega
   ·simp;omega
   ·have ht':cur.toList.take n=vy l:=by simpa using Yp
    rw[ht',Fk,XT];have:(vy l++zg k (zH .u8 0)).length=(n+k)*1:=by simp[vy,ER]
    rw[←this];exact zm
 ·have holds:∀ j u,(vy l)[j]? = some u->w.cell? ((⟨g,0,none⟩:Addr).add j)=some u:=xJ.cells (g:=g) rfl;have KA:=run_firstCells_some (P:=Tryz.prog) w.drew i.size n ⟨g,0,none⟩ n cap (vy l) (by rw[h2];simp[vy,ER]) (by simpa using holds);have hr:=Lib.run_append_grow_zeros (P:=Tryz.prog) w _ _ ty _ i _ .i64 .i64 ht mP hi hz (some ⟨g,0,none⟩) n cap (vy l) KA k (by omega) (by omega) (by omega) (by omega) (by rw[h3];omega) (by rw[h3];exact growslice_fits (by omega) (by omega));have xC:=(Array.getElem?_eq_some_iff.1 hg).1;have hge:=grownCap_ge w (n+k) cap 5;refine⟨_,_,hr,⟨by simp[vy,ER],.inr ⟨w.heap.size,_,_,rfl,by omega,heap_alloc_new w.drew _,hge,grownCap_le_maxLen w (n+k) cap 5 (by unfold maxLen;omega),?_,?_⟩⟩,⟨rfl,rfl,rfl,by simp,fun k hk _=>heap_alloc_old w.drew _ hk⟩⟩
  ·have Ul:(zH IntKind.u8 0).cells.size=1:=rfl;simp only[Array.size_append,List.size_toArray,size_zeroCells,Ul];simp[vy,ER];omega
  ·rw[hzc,yz,yz,Fk,XT];have:(vy l++zg k (zH .u8 0)).length=(n+k)*1:=by simp[vy,ER]
   rw[←this];exact zm
theorem eK(n:vv)(v:Nat):VT n v=if n.1 then (decide (xL (n.2.1++n.2.2)+v*10 ^ n.2.2.length≠0),DC (xL (n.2.1++n.2.2)+v*10 ^ n.2.2.length) n.2.2.length)
 else if xL (n.2.1++n.2.2)<v*10 ^ n.2.2.length then (true,DC (v*10 ^ n.2.2.length - xL (n.2.1++n.2.2)) n.2.2.length)
 else (false,DC (xL (n.2.1++n.2.2) - v*10 ^ n.2.2.length) n.2.2.length):=rfl
def Ch(B O q sc:Nat)(nb:Bool)(r:Nat)(w wc:World):Prop :=
 ∃ g n' cap d,wc.cell? ⟨O,0,none⟩=some (.bool nb)/\wc.cell? ⟨O,1,none⟩=some (.slice (some ⟨g,0,none⟩) n' cap)/\wc.cell? ⟨O,2,none⟩=some (.int .i64 (sc:Nat))/\(∀ j,wc.frozen? ⟨O,j,none⟩=false) /\
  wc.cell? ⟨q,2,none⟩=some (.int .i64 (sc:Nat))/\dF wc (q+1)/\wc.ownsRow B 5 1 (.slice (some ⟨g,0,none⟩) n' cap) n' (vy d)/\g≠O/\d.length=n'/\sc+1<=n'/\n'<=61/\d.all xQ=true/\xL d=r/\Below B w wc
theorem dF.other{w:World}{q:Nat}(h:dF w q){a:Addr}(ha:a.block≠q)(u:Value):dF (w.setCell a u) q :=
 ⟨uJ h.c0 _ ha,uJ h.c1 _ ha,uJ h.c2 _ ha,by rw[zv];exact h.z0,by rw[zv];exact h.z1,by rw[zv];exact h.z2,by simpa[zn] using h.lt⟩
theorem Ch.mk1{B O q sc r n' cap g:Nat}{nb:Bool}{w w6:World}{u:Value}{d:Wd}(c0:w6.cell? ⟨O,0,none⟩=some (.bool nb))(c1:w6.cell? ⟨O,1,none⟩=some u)(c2:w6.cell? ⟨O,2,none⟩=some (.int .i64 (sc:Nat)))(fz:∀ j,w6.frozen? ⟨O,j,none⟩=false)
  (cq:w6.cell? ⟨q,2,none⟩=some (.int .i64 (sc:Nat))) (hR:dF w6 (q+1)) (hq:q+1<O) (ho:w6.ownsRow B 5 1 (.slice (some ⟨g,0,none⟩) n' cap) n' (vy d)) (hg:g≠O) (hl:d.length=n') (h1:sc+1<=n') (h3:n'<=61) (hd:d.all xQ=true) (hr:xL d=r) (hb:Below B w w6) (hO:B<=O) :
  Ch B O q sc nb r w (w6.setCell ⟨O,1,none⟩ (.slice (some ⟨g,0,none⟩) n' cap)) :=
 ⟨g,n',cap,d,by rw[xd,if_neg (by simp)];exact c0,uj c1 _,by rw[xd,if_neg (by simp)];exact c2,fun j=>by rw[zv];exact fz j,uJ cq _ (by show O≠q;omega),hR.other (by show O≠q+1;omega) _,xh ho (by simp[zx,Ne.symm hg]) _,hg,hl,h1,h3,hd,hr,hb.setCell hO _⟩
theorem Ch.Yw{B O q sc r:Nat}{nb:Bool}{w wc:World}(h:Ch B O q sc nb r w wc)(hq:q+1<O)(hO:B<=O)(b:Bool):Ch B O q sc b r w (wc.setCell ⟨O,0,none⟩ (.bool b)):=by
 obtain⟨g,n',cap,d,c0,c1,c2,fz,cq,hR,ho,hg,hl,h1,h3,hd,hr,hb⟩:=h;exact⟨g,n',cap,d,uj c0 _,by rw[xd,if_neg (by simp)];exact c1,by rw[xd,if_neg (by simp)];exact c2,fun j=>by rw[zv];exact fz j,uJ cq _ (by show O≠q;omega),hR.other (by show O≠q+1;omega) _,xh ho (by simp[zx,Ne.symm hg]) _,hg,hl,h1,h3,hd,hr,hb.setCell hO _⟩
theorem R7{B gd j m c n' cp sc r:Nat}{w:World}{d:Wd}(fb:Bool)(ho:w.ownsRow B 5 1 (.slice (some ⟨gd,0,none⟩) n' cp) n' (vy d))(e1:j+m=n')(e2:j+c=cp)(hl:d.length=n')(hd:d.all xQ=true)(h3:n'<=61)(hp:fZ (sc+1) (xK r)=d.drop j) :
  gp (fun k=>k<B) w (.agg #[.bool fb,.slice (some ⟨gd,j,none⟩) m c,.int .i64 (sc:Nat)]) (fb,DC r sc):=by
 have Vm:n'<=cp/\cp<=maxLen:=by
  rcases ho.2 with⟨hv,_⟩|⟨g2,uO,cur,hv,_,_,hh,hh2,_⟩
  ·cases hv
  ·cases hv;exact⟨hh,hh2⟩
 have qz:(d.drop j).length=m:=by rw[zO];omega
 have hm:sc+1<=m:=by rw[←qz,←hp,JT];omega
 have hdd:(d.drop j).all xQ=true:=by
  rw[zf] at hd ⊢;exact fun x hx=>hd x (zF hx)
 have hf:DC r sc=((d.drop j).take (m - sc),(d.drop j).drop (m - sc)):=by unfold DC;rw[hp,qz]
 have hB:=(qA ho hl.symm).drop j;rw[Nat.zero_add,show(xW d).drop j=xW (d.drop j) by simp[xW]] at hB;have l1:((d.drop j).take (m - sc)).length=m - sc:=by rw[zi];omega
 have l2:((d.drop j).drop (m - sc)).length=sc:=by rw[zO];omega
 refine⟨gd,j,c,?_,?_,by omega,by have:=(ho.lt gd rfl).1;omega,⟨_,Yc ho (m:=0) (by omega) hl⟩,?_,?_⟩
 ·rw[hf,l1,l2,show m - sc+sc=m by omega]
 ·rw[hf,l1,l2];omega
 ·rw[hf,zh];exact hB
 ·rw[hf];refine⟨?_,?_,fun e=>?_,by rw[l1];omega,by rw[l2];omega⟩
  ·rw[zf] at hdd ⊢;exact fun x hx=>hdd x (List.mem_of_mem_take hx)
  ·rw[zf] at hdd ⊢;exact fun x hx=>hdd x (zF hx)
  ·have:=congrArg List.length e;rw[l1] at this;simp at this;omega
theorem TY(v:Value)(n:vv)(x:Nat)(w:World)(h:gp (fun _=>False) w v n)(hx:x<=1000000000)(hl:n.2.1.length+n.2.2.length<=40) :
  Calls Tryz.prog 131 #[v,.int .i64 (x:Nat)] w fun e w'=>(∃ v',e = .returned v'/\gp (fun k=>k<w.heap.size) w' v' (VT n x))/\Below w.heap.size w w':=by
 obtain⟨neg,X⟩:=n;obtain⟨g,o,cap,rfl,ZA,jM,-,h0,hB,ki⟩:=h;simp only at hl ZA hB ki ⊢;obtain⟨B,hBe⟩:∃ B,w.heap.size=B:=⟨_,rfl⟩;obtain⟨L,hL⟩:∃ L,X.1.length+X.2.length=L:=⟨_,rfl⟩;obtain⟨sc,hsc⟩:∃ sc,X.2.length=sc:=⟨_,rfl⟩;have hL1:sc+1<=L:=by have:=yy.2 ki.ne;omega
 rw[hL] at hl ZA ⊢;rw[hsc] at ⊢;obtain⟨W,hW⟩:∃ W,(w.alloc (.cells #[.bool neg,.slice (some ⟨g,o,none⟩) L cap,.int .i64 (sc:Nat)] 97)).alloc (.cells #[.bool false,.slice none 0 0,.int .i64 0] 97)=W:=⟨_,rfl⟩;have s1:(w.alloc (.cells #[.bool neg,.slice (some ⟨g,o,none⟩) L cap,.int .i64 (sc:Nat)] 97)).heap.size=B+1:=by simp[hBe]
 have b1:Below B w (w.alloc (.cells #[.bool neg,.slice (some ⟨g,o,none⟩) L cap,.int .i64 (sc:Nat)] 97)):=(zL _ _).alloc (by omega) _;have b2:Below B w W:=by rw[←hW];exact b1.alloc (by omega) _
 have cW:∀ j,j<3->W.cell? ⟨B,j,none⟩=(#[zR neg,.slice (some ⟨g,o,none⟩) L cap,.int .i64 (sc:Nat)]:Array Value)[j]? := fun j hj=>by
  rw[←hW,zY _ _ _ (by show B<_;omega),←hBe];exact xq _ _ _ _ _
 have hRW:dF W (B+1):=by
  rw[←hW,←s1];exact⟨xq _ _ _ _ _,xq _ _ _ _ _,xq _ _ _ _ _,by simp,by simp,by simp,by simp⟩
 have Mq:=z7 hRW;have q0:=cW 0 (by omega);have q1:=cW 1 (by omega);have q2:=cW 2 (by omega);simp only[zZ,zk,zj] at q0 q1 q2;have sW:W.heap.size=B+2:=by rw[←hW];simp[hBe]
 have HB:=z7 hB;have HX:=z7 (z8 ki (z8 hL hsc));have HW:=z7 b2;have NV:=z7 hBe;have Cv:=z7 sW;clear hB ki hL hsc b1 b2 s1 cW h0 hRW;go_enter func131,ntmps131;go_wp2_with fail;have HWE:=z7 hW;clear hW hBe;refine rt (fun W':World=>W'.cell? ⟨B,2,none⟩=some (.int .i64 (sc:Nat))) [0,3,4] 4 q2 ?_;(iterate 3 (refine ty ?_;try simp only[pl]))
 refine xk ?_;refine xg 1 (by kernel_rfl) rfl (fun J hJ=>?_);go_simp;refine(Yy x W.drew hx).mono ?_;rintro e w1 ⟨⟨g1,pq,rfl,DY⟩,xH⟩;have TX:Below W.heap.size W w1:=⟨xH.os,xH.tape,xH.output,xH.size,xH.block⟩;have r0:=(TX.cell (p:=⟨B,0,none⟩) (by show B<_;omega)).trans q0;have r1:=(TX.cell (p:=⟨B,1,none⟩) (by show B<_;omega)).trans q1;have r2:=(TX.cell (p:=⟨B,2,none⟩) (by show B<_;omega)).trans q2;have eX:=QY;have uT:=TX.size;have qz:=uV 9 x (by omega);obtain⟨w2,v2,El,QH,dy⟩:∃ w2 v2,(zP #[48,3] 48 #[.slice (some ⟨g1,0,none⟩) (xK x).length pq,.int .i64 (sc:Int)]).run Tryz.prog w1 = .ok v2 w2/\w2.ownsRow (B+2) 5 1 v2 ((xK x).length+sc) (vy (xK x++zg sc 48))/\w1.grownBy w2 (some g1):=by
  obtain⟨v2,w2,a,b,c⟩:=TZ w1 _ g1 pq _ _ DY sc (by omega) 48;exact⟨w2,v2,a,by rw[←Cv.out];exact b,c⟩
 have Zp:B+2<=g1:=by
  have:=(DY.lt g1 rfl).1;rw[show W.drew.heap.size=W.heap.size from rfl,Cv.out] at this;exact this
 have VQ:Below (B+2) W w2:=(TX.mono (by omega)).grown dy (by omega) (fun q hq=>by cases hq;exact Zp);have u0:=(VQ.cell (p:=⟨B,0,none⟩) (by show B<_;omega)).trans q0;have u1:=(VQ.cell (p:=⟨B,1,none⟩) (by show B<_;omega)).trans q1;have u2:=(VQ.cell (p:=⟨B,2,none⟩) (by show B<_;omega)).trans q2;obtain⟨dl,pL⟩:∃ dl,(xK x).length=dl:=⟨_,rfl⟩;have EB:1<=dl:=by have:=yy.2 (jl x);omega
 rw[pL] at QH qz El;have Iw:=z7 pL;have HO2:=z7 QH;have Qt:=z7 VQ;clear DY xH TX dy VQ QH;rw[pL];clear pL;refine hJ.out _ _ r2 fun _=>?_
 clear hJ J;refine xE [2] 2 rfl (by intro _ _ d _ _ h;cases d<;>exact h) (by kernel_rfl) (by kernel_rfl) r2 ?_;refine ty ?_;try simp only[pl]
 refine xk ?_;refine xg 5 (by kernel_rfl) rfl (fun J hJ=>?_);refine Lib.wp_append_run _ _ _ _ _ rfl _ _ rfl rfl _ _ El ?_;refine hJ.out _ _ u2 fun _=>?_
 clear hJ J;refine xE [6] 0 rfl (by intro _ _ d _ _ h;cases d<;>exact h) (by kernel_rfl) (by kernel_rfl) u2 ?_;refine ty ?_;try simp only[pl]
 refine xk ?_;refine wpAnyH_done (by kernel_rfl) ?_ _;have PX:=vQ HO2.out (by omega);obtain⟨g2,cp2,rfl,dy,yby,-⟩:=PX;obtain⟨sz,qs⟩:∃ sz:Nat,max (L:Int) ((dl:Int)+(sc:Int))=(sz:Int):=⟨max L (dl+sc),by omega⟩;have z1:L<=sz:=by omega
 have z2:dl+sc<=sz:=by omega
 have z3:sz<=60:=by omega
 clear El r0 r1 r2 q0 q1 q2;have qf:Below B w w2:=HW.out.trans (Qt.out.mono (by omega));have Rc:=R6 (X.1++X.2) ⟨g,o,none⟩ cap sz w2 (by rw[zJ,HX.out.2.1];exact z1) (by omega) (by omega) (HB.out.below (by rw[NV.out];exact qf));rw[zJ,HX.out.2.1] at Rc;have HW1:=z7 Rc;have znz:=z7 qf;clear Rc qf;go_wp2_with fail;refine HW1.out.mono ?_;rintro e w3 ⟨⟨ga,ca,rfl,nL,hga⟩,uP⟩;have qU:=uP.size;have Z7:Below B w w3:=znz.out.trans (uP.mono (by have:=Qt.out.size;omega));have CJ:Below (B+2) W w3:=Qt.out.trans (uP.mono (by have:=Qt.out.size;omega));have ER:(xK x++zg sc 48).length=dl+sc:=by rw[zJ,zw,Iw.out]
 have D7:=R6 (xK x++zg sc 48) ⟨g2,0,none⟩ cp2 sz w3 (by rw[ER];exact z2) (by omega) (by omega) ((qA HO2.out ER.symm).below uP);rw[ER] at D7;have HW2:=z7 D7;have WA:=z7 nL;have zny:=z7 Z7;have HZ3:=z7 CJ;have di:=z7 qU;clear D7 nL uP Z7 CJ HW1 Qt znz qU;go_wp2_with fail;refine HW2.out.mono ?_;rintro e w4 ⟨⟨gb,cb,rfl,pM,hgb⟩,uQ⟩;have M6:=uQ.size;have hz4:Below (B+2) W w4:=HZ3.out.trans (uQ.mono (by have:=HZ3.out.size;omega));have j5:Below B w w4:=zny.out.trans (uQ.mono (by have:=HZ3.out.size;omega));have t0:w4.cell? ⟨B,0,none⟩=some (.bool neg):=by
  rw[hz4.cell (p:=⟨B,0,none⟩) (by show B<B+2;omega),←HWE.out,zY _ _ _ (by simp[NV.out]),←NV.out];exact xq _ _ _ _ _
 have t2:w4.cell? ⟨B,2,none⟩=some (.int .i64 (sc:Nat)):=by
  rw[hz4.cell (p:=⟨B,2,none⟩) (by show B<B+2;omega),←HWE.out,zY _ _ _ (by simp[NV.out]),←NV.out];exact xq _ _ _ _ _
 have Ei:dF w4 (B+1):=Mq.out.below (by rw[Cv.out];exact hz4);have hA4:=WA.out.below uQ;obtain⟨P1,oU⟩:∃ P1,fZ sz (X.1++X.2)=P1:=⟨_,rfl⟩;obtain⟨P2,hP2⟩:∃ P2,fZ sz (xK x++zg sc 48)=P2:=⟨_,rfl⟩;have dX:(X.1++X.2).all xQ=true:=by rw[yq,HX.out.1.ej,HX.out.1.Tv];rfl
 have dZ:(xK x++zg sc 48).all xQ=true:=by rw[yq,dG,Bool.true_and,zf];intro c hc;rw[zt hc];rfl
 have l1:P1.length=sz:=by rw[←oU,JT,zJ,HX.out.2.1];omega
 have l2:P2.length=sz:=by rw[←hP2,JT,ER];omega
 have d1:P1.all xQ=true:=by rw[←oU];exact R4 dX
 have d2:P2.all xQ=true:=by rw[←hP2];exact R4 dZ
 have v1:xL P1=xL (X.1++X.2):=by rw[←oU];exact Qd _ _
 have v2:xL P2=x*10 ^ sc:=by rw[←hP2,fZ,Qd,Ir,Cp]
 rw[oU] at hA4;rw[hP2] at pM;have HA4:=z7 hA4;have Ue:=z7 pM;have HP:=z7 (z8 l1 (z8 l2 (z8 d1 (z8 d2 (z8 v1 v2)))));have HZ4:=z7 hz4;have mX:=z7 Ei;have znu:=z7 j5;have t4:B+2<=w4.heap.size:=by have:=hz4.size;omega
 clear hA4 pM l1 l2 d1 d2 v1 v2 oU hP2 dX dZ uQ hz4 Ei j5 WA zny HZ3 di HW2 ER M6 eX u0 u1 u2;go_wp2_with fail;obtain⟨l1,l2,d1,d2,v1,v2⟩:=HP.out;refine(Yx P1 P2 sz ca sz cb ⟨ga,0,none⟩ ⟨gb,0,none⟩ _ l1.symm l2.symm (HA4.out.alloc _) (Ue.out.alloc _) (l1.trans l2.symm) d1 d2).mono ?_;rintro e pN ⟨rfl,hw5⟩;obtain⟨O,hO⟩:∃ O,w4.heap.size=O:=⟨_,rfl⟩;obtain⟨cc,Pv⟩:∃ cc,Cs P1 P2=cc:=⟨_,rfl⟩;have ZG:cc<0 ↔ xL P1<xL P2:=by rw[←Pv];exact eZ (l1.trans l2.symm) d1 d2
 rw[Pv];have o0:pN.cell? ⟨O,0,none⟩=some (.bool neg):=by rw[←hw5,←hO];exact xq _ _ _ _ _
 have o1:pN.cell? ⟨O,1,none⟩=some (.slice none 0 0):=by rw[←hw5,←hO];exact xq _ _ _ _ _
 have o2:pN.cell? ⟨O,2,none⟩=some (.int .i64 (sc:Nat)):=by rw[←hw5,←hO];exact xq _ _ _ _ _
 have b45:Below O w4 pN:=by rw[←hw5];exact(zL _ _).alloc (by omega) _
 have u0:=(b45.cell (p:=⟨B,0,none⟩) (by show B<O;omega)).trans t0;have u2:=(b45.cell (p:=⟨B,2,none⟩) (by show B<O;omega)).trans t2;have fz:∀ j,pN.frozen? ⟨O,j,none⟩=false:=by intro j;rw[←hw5,←hO];simp
 have s5:pN.heap.size=O+1:=by rw[←hw5,←hO];simp
 have HA5:=z7 (HA4.out.below (by rw[hO];exact b45));have HB5:=z7 (Ue.out.below (by rw[hO];exact b45));have pO:=z7 (znu.out.trans (b45.mono (by omega)));have HR5:=z7 (mX.out.below (by rw[hO];exact b45));have Ww:=z7 ZG;have WC:=z7 (eK (neg,X) x);rw[hO] at t4 ⊢;have M7:=z7 s5;clear ZG hw5 Pv b45 HA4 Ue znu HZ4 t0 t2 hO l1 l2 d1 d2 v1 v2 s5 hgb hga yby dy;go_upto_block 0 with fail
 go_cut [] (fun wc=>∃ nb r,Ch B O B sc nb r w wc/\VT (neg,X) x=(nb && decide (r≠0),DC r sc))
 case rest =>
  obtain⟨nb,r,⟨gd,n',cp,d,c0,c1,c2,cz,cq,hR,ho,hgO,znq,ZK,Wf,hdd,hdr,Dd⟩,jq⟩:=hcut;clear o0 o1 o2 u0 u2 fz HA5 HB5 pO Ww WC HP HO2 M7 Iw;have HO:=z7 ho;have HD:=z7 (z8 znq (z8 hdd hdr));have Xv:=z7 jq;have HBC:=z7 Dd;clear ho znq hdd hdr jq Dd;have HR:=z7 hR;clear hR HR5 mX Mq;go_upto_block 1 with fail
  go_cut [] (fun wl=>∃ j m c,j+m=n'/\j+c=cp/\wl.cell? ⟨O,0,none⟩=some (.bool nb)/\wl.cell? ⟨O,1,none⟩=some (.slice (some ⟨gd,j,none⟩) m c)/\wl.cell? ⟨O,2,none⟩=some (.int .i64 (sc:Nat))/\(∀ j,wl.frozen? ⟨O,j,none⟩=false)/\dF wl (B+1)/\wl.ownsRow B 5 1 (.slice (some ⟨gd,0,none⟩) n' cp) n' (vy d)/\Below B w wl /\
   fZ (sc+1) (xK r)=d.drop j)
  case rest =>
   obtain⟨j,m,c,e1,e2,c0,c1,c2,cz,hR,ho,hb,R1⟩:=hcut;have hgB:gd≠B+1:=by
    rintro rfl;have h1:=Yc ho (m:=0) (by have:=HD.out.1;omega) HD.out.1;rw[hR.c0] at h1
    cases h1
   have qz:(d.drop j).length=m:=by rw[zO,HD.out.1];omega
   have hB:=(qA ho HD.out.1.symm).drop j;rw[Nat.zero_add,show(xW d).drop j=xW (d.drop j) by simp[xW]] at hB;have HZ:=z7 (Kg (d.drop j) m qz.symm (some ⟨gd,j,none⟩) c nb (sc:Int) wc (by omega) hB);have hz:(d.drop j).all (· == 48)=decide (r=0):=by
    have h1:(d.drop j).all xQ=true:=by
     have:=HD.out.2.1;rw[zf] at this ⊢;exact fun x hx=>this x (zF hx)
    have h2:=Fv h1;rw[←R1,fZ,Qd,Cp] at h2;rw[Bool.eq_iff_iff,decide_eq_true_eq,←h2,←R1,fZ]
   rw[hz] at HZ;have HQ:=z7 (z8 e1 (z8 e2 (z8 ho (z8 hb R1))));have r0:=hR.c0;have r1:=hR.c1;have r2:=hR.c2;have y0:=hR.z0;have y1:=hR.z1;have y2:=hR.z2;clear e1 e2 ho hb R1 qz hB hz hR HR
   cases nb
   ·go_wp2;obtain⟨e1,e2,ho,hb,R1⟩:=HQ.out;refine bodyPost_ret (v := .agg #[.bool false,.slice (some ⟨gd,j,none⟩) m c,.int .i64 (sc:Nat)]) ?_ rfl ?_
    ·simp[results,results131,go_sem,r0,r1,r2]
    ·refine⟨⟨_,rfl,?_⟩,?_⟩
     ·rw[Xv.out,NV.out];exact R7 _ (xh (xh (xh (xh ho (by simp[zx];omega) _) (by simp[zx];omega) _) (by simp[zx];omega) _) (by simp[zx];omega) _) e1 e2 HD.out.1 HD.out.2.1 Wf R1
     ·rw[NV.out];exact(((hb.setCell (by show B<=O;omega) _).setCell (by show B<=B+1;omega) _).setCell (by show B<=B+1;omega) _).setCell (by show B<=B+1;omega) _
   ·go_wp2_with fail;refine HZ.out.mono ?_;rintro e w7 ⟨rfl,jI⟩;have lO:=zV wc _ c0;have lR:=zV wc _ r0;have c0':=(jI.cell (p:=⟨O,0,none⟩) lO).trans c0;have c1':=(jI.cell (p:=⟨O,1,none⟩) lO).trans c1;have c2':=(jI.cell (p:=⟨O,2,none⟩) lO).trans c2;have cz':∀ j,w7.frozen? ⟨O,j,none⟩=false:=fun j=>(zU (jI.block O lO)).trans (cz j)
    have r0':=(jI.cell (p:=⟨B+1,0,none⟩) lR).trans r0;have r1':=(jI.cell (p:=⟨B+1,1,none⟩) lR).trans r1;have r2':=(jI.cell (p:=⟨B+1,2,none⟩) lR).trans r2;have y0':=(jI.frozen (p:=⟨B+1,0,none⟩) lR).trans y0;have y1':=(jI.frozen (p:=⟨B+1,1,none⟩) lR).trans y1;have y2':=(jI.frozen (p:=⟨B+1,2,none⟩) lR).trans y2;have HB7:=z7 jI;clear c0 c1 c2 cz r0 r1 r2 y0 y1 y2 jI HZ;obtain⟨zz,Mk⟩:∃ zz,decide (r=0)=zz:=⟨_,rfl⟩;rw[Mk];have HZZ:=z7 Mk;clear Mk;go_wp2;obtain⟨e1,e2,ho,hb,R1⟩:=HQ.out;refine bodyPost_ret (v := .agg #[.bool (!zz),.slice (some ⟨gd,j,none⟩) m c,.int .i64 (sc:Nat)]) ?_ rfl ?_
    ·simp[results,results131,go_sem,r0',r1',r2']
    ·refine⟨⟨_,rfl,?_⟩,?_⟩
     ·rw[Xv.out,NV.out,Bool.true_and,show decide (r≠0) = !zz by rw[←HZZ.out];simp];exact R7 _ (xh (xh (xh (xh (fN ho HB7.out) (by simp[zx];omega) _) (by simp[zx];omega) _) (by simp[zx];omega) _) (by simp[zx];omega) _) e1 e2 HD.out.1 HD.out.2.1 Wf R1
     ·rw[NV.out];exact((((hb.trans (HB7.out.mono (by omega))).setCell (by show B<=O;omega) _).setCell (by show B<=B+1;omega) _).setCell (by show B<=B+1;omega) _).setCell (by show B<=B+1;omega) _
  case first =>
   go_wp2_with fail;go_loopw [] (fun wr=>∃ j m c,j+m=n'/\j+c=cp/\sc+1<=m/\wr.cell? ⟨O,0,none⟩=some (.bool nb)/\wr.cell? ⟨O,1,none⟩=some (.slice (some ⟨gd,j,none⟩) m c)/\wr.cell? ⟨O,2,none⟩=some (.int .i64 (sc:Nat))/\(∀ j,wr.frozen? ⟨O,j,none⟩=false)/\wr.cell? ⟨B,2,none⟩=some (.int .i64 (sc:Nat))/\dF wr (B+1)/\wr.ownsRow B 5 1 (.slice (some ⟨gd,0,none⟩) n' cp) n' (vy d)/\Below B w wr/\xL (d.drop j)=r) (fun wr=>match wr.cell? ⟨O,1,none⟩ with|some (.slice _ n _)=>n|_=>0)
   case atStart=>exact⟨0,n',cp,by omega,by omega,ZK,c0,c1,c2,cz,cq,HR.out,HO.out,HBC.out,HD.out.2.2⟩
   case round =>
    clear c0 c1 c2 cz cq;obtain⟨j,m,c,e1,e2,e3,c0,c1,c2,cz,cq,hR,ho,hb,hv⟩:=hrel;obtain⟨dl1,dl2,-⟩:=HD.out;have Vm:n'<=cp:=by
     rcases ho.2 with⟨hv,_⟩|⟨g2,uO,cur,hv,_,_,hh,_⟩
     ·cases hv
     ·cases hv;exact hh
    have hjd:j<d.length:=by omega
    have ph:=Yc ho hjd dl1;have xj:=qa (zf.1 dl2 _ (yu hjd));obtain⟨y,hy⟩:∃ y,d[j].toNat - 48=y:=⟨_,rfl⟩;rw[show((d[j].toNat:Int) - 48)=(y:Int) by omega] at ph;have hdd:(d.drop j).all xQ=true:=by
     rw[zf] at dl2 ⊢;exact fun x hx=>dl2 x (zF hx)
    have qz:(d.drop j).length=m:=by rw[zO];omega
    have xw:d.drop j≠[]:=fun e=>by rw[e] at qz;simp at qz;omega
    have hdc:=zr hjd;by_cases hm:sc+1<m
    ·have k1:(sc:Int)+1<(m:Int):=by omega
     have k2:decide ((sc:Int)+1<(m:Int))=true:=decide_eq_true k1;by_cases h0:y=0
     ·subst h0;have Bj:d[j]=48:=UInt8.toNat.inj (by show _=48;omega);have PX:xL (d.drop (j+1))=r:=by
       rw[hdc,Bj,qY] at hv;simpa using hv
      have xkv:¬(c=1):=by omega
      have qD:1<=c:=by omega
      have V6:1<=m:=by omega
      have HQ:=z7 (z8 e1 (z8 e2 (z8 e3 (z8 hR (z8 ho (z8 hb PX))))));have HM:=z7 hm;clear e1 e2 e3 hR ho hb PX hv xj hy hdd qz xw hdc Bj dl1 dl2 Vm hjd hm;go_wp2;obtain⟨e1,e2,e3,hR,ho,hb,PX⟩:=HQ.out;have hm:=HM.out;refine⟨⟨j+1,m - 1,c - 1,by omega,by omega,by omega,by rw[xd,if_neg (by simp)];exact c0,uj c1 _,by rw[xd,if_neg (by simp)];exact c2,fun i=>by rw[zv];exact cz i,uJ cq _ (by show O≠B;omega),hR.other (by show O≠B+1;omega) _,xh ho (by simp[zx,Ne.symm hgO]) _,hb.setCell (by show B<=O;omega) _,PX⟩,?_⟩;rw[uj c1,c1];show m - 1<m;omega
     ·have h0':((y:Int)==0)=false:=by simp;omega
      have HQ:=z7 (z8 e1 (z8 e2 (z8 hR (z8 ho (z8 hb (show fZ (sc+1) (xK r)=d.drop j by
       rw[←hv];exact R3 hdd xw (by omega) (.inr (by rw[hdc];intro q;apply h0;rw[←hy,show d[j]=48 from q];rfl))))))))
      clear e1 e2 e3 hR ho hb hv xj hy hdd qz xw hdc dl1 dl2 Vm hjd hm h0;go_wp2;go_meet
      obtain⟨e1,e2,hR,ho,hb,PX⟩:=HQ.out;exact⟨j,m,c,e1,e2,c0,c1,c2,cz,hR,ho,hb,PX⟩
    ·have k1:¬((sc:Int)+1<(m:Int)):=by omega
     have k2:decide ((sc:Int)+1<(m:Int))=false:=decide_eq_false k1;have HQ:=z7 (z8 e1 (z8 e2 (z8 hR (z8 ho (z8 hb (show fZ (sc+1) (xK r)=d.drop j by
      rw[←hv];exact R3 hdd xw (by omega) (.inl (by omega))))))))
     clear e1 e2 e3 hR ho hb hv xj hy hdd qz xw hdc dl1 dl2 Vm hjd hm ph;go_wp2;go_meet
     obtain⟨e1,e2,hR,ho,hb,PX⟩:=HQ.out;exact⟨j,m,c,e1,e2,c0,c1,c2,cz,hR,ho,hb,PX⟩
 case first =>
  obtain⟨l1,l2,d1,d2,v1,v2⟩:=HP.out
  cases neg
  ·by_cases xC:xL P1<xL P2
   ·have HM:=z7 (BD P2 P1 sz cb ca ⟨gb,0,none⟩ ⟨ga,0,none⟩ pN l2 l1 (by omega) (by omega) d2 d1 (by omega) HB5.out HA5.out);have wz:=z7 (z8 v1 v2);have kc:decide (cc<0)=true:=decide_eq_true (Ww.out.2 xC);clear l1 l2 d1 d2 v1 v2;go_wp2_with fail;refine HM.out.mono ?_;rintro e w6 ⟨⟨v6,d,rfl,QO,wy,Hz,Vf⟩,gC⟩;rw[M7.out] at QO gC;obtain⟨g6,cp6,rfl,PT,-,-⟩:=vQ QO (by omega);have e0:=(gC.cell (p:=⟨O,0,none⟩) (by show O<_;omega)).trans o0;have e1:=(gC.cell (p:=⟨O,1,none⟩) (by show O<_;omega)).trans o1;have e2:=(gC.cell (p:=⟨O,2,none⟩) (by show O<_;omega)).trans o2;have e3:=(gC.cell (p:=⟨B,2,none⟩) (by show B<_;omega)).trans u2;have ez:∀ j,w6.frozen? ⟨O,j,none⟩=false:=fun j=>(zU (gC.block O (by omega))).trans (fz j)
    have HOM:=z7 (Ch.mk1 e0 e1 e2 ez e3 (HR5.out.below (by rw[M7.out];exact gC)) (by omega) (gW QO (by omega)) (by omega) wy (by omega) (by omega) Hz Vf (pO.out.trans (gC.mono (by omega))) (by omega));clear QO gC Vf Hz wy e3 fz o0 o1 o2 u0 u2;go_wp2;go_meet
    have Ml:=WC.out;try simp only at Ml
    rw[HX.out.2.2,←wz.out.1,←wz.out.2] at Ml;refine⟨true,_,HOM.out.Yw (by omega) (by omega) true,?_⟩;rw[Ml,if_neg (by simp),if_pos xC,decide_eq_true (by omega)];rfl
   ·have HM:=z7 (BD P1 P2 sz ca cb ⟨ga,0,none⟩ ⟨gb,0,none⟩ pN l1 l2 (by omega) (by omega) d1 d2 (by omega) HA5.out HB5.out);have wz:=z7 (z8 v1 v2);have kc:decide (cc<0)=false:=decide_eq_false (fun q=>xC (Ww.out.1 q));clear l1 l2 d1 d2 v1 v2;go_wp2_with fail;refine HM.out.mono ?_;rintro e w6 ⟨⟨v6,d,rfl,QO,wy,Hz,Vf⟩,gC⟩;rw[M7.out] at QO gC;obtain⟨g6,cp6,rfl,PT,-,-⟩:=vQ QO (by omega);have e0:=(gC.cell (p:=⟨O,0,none⟩) (by show O<_;omega)).trans o0;have e1:=(gC.cell (p:=⟨O,1,none⟩) (by show O<_;omega)).trans o1;have e2:=(gC.cell (p:=⟨O,2,none⟩) (by show O<_;omega)).trans o2;have e3:=(gC.cell (p:=⟨B,2,none⟩) (by show B<_;omega)).trans u2;have ez:∀ j,w6.frozen? ⟨O,j,none⟩=false:=fun j=>(zU (gC.block O (by omega))).trans (fz j)
    have HOM:=z7 (Ch.mk1 e0 e1 e2 ez e3 (HR5.out.below (by rw[M7.out];exact gC)) (by omega) (gW QO (by omega)) (by omega) wy (by omega) (by omega) Hz Vf (pO.out.trans (gC.mono (by omega))) (by omega));clear QO gC Vf Hz wy e3 fz o0 o1 o2 u0 u2;go_wp2;go_meet
    have Ml:=WC.out;try simp only at Ml
    rw[HX.out.2.2,←wz.out.1,←wz.out.2] at Ml;refine⟨false,_,HOM.out,?_⟩;rw[Ml,if_neg (by simp),if_neg xC];rfl
  ·have HM:=z7 (eU P1 P2 sz ca cb ⟨ga,0,none⟩ ⟨gb,0,none⟩ pN l1 l2 (by omega) (by omega) d1 d2 HA5.out HB5.out);have wz:=z7 (z8 v1 v2);clear l1 l2 d1 d2 v1 v2;go_wp2_with fail;refine HM.out.mono ?_;rintro e w6 ⟨⟨v6,d,rfl,QO,wy,Hz,Vf⟩,gC⟩;rw[M7.out] at QO gC;obtain⟨g6,cp6,rfl,PT,-,-⟩:=vQ QO (by omega);have e0:=(gC.cell (p:=⟨O,0,none⟩) (by show O<_;omega)).trans o0;have e1:=(gC.cell (p:=⟨O,1,none⟩) (by show O<_;omega)).trans o1;have e2:=(gC.cell (p:=⟨O,2,none⟩) (by show O<_;omega)).trans o2;have e3:=(gC.cell (p:=⟨B,2,none⟩) (by show B<_;omega)).trans u2;have ez:∀ j,w6.frozen? ⟨O,j,none⟩=false:=fun j=>(zU (gC.block O (by omega))).trans (fz j)
   have HOM:=z7 (Ch.mk1 e0 e1 e2 ez e3 (HR5.out.below (by rw[M7.out];exact gC)) (by omega) (gW QO (by omega)) (by omega) wy (by omega) (by omega) Hz Vf (pO.out.trans (gC.mono (by omega))) (by omega));clear QO gC Vf Hz wy e3 fz o0 o1 o2 u0 u2;go_wp2;go_meet
   have Ml:=WC.out;try simp only at Ml
   rw[HX.out.2.2,←wz.out.1,←wz.out.2] at Ml;refine⟨true,_,HOM.out,?_⟩;rw[Ml];simp
theorem eJ(v:Value)(n:vv)(x:Nat)(w:World){M:Nat->Prop}(h:gp M w v n)(hx:x<=1000000000) :
  Calls Tryz.prog 134 #[v,.int .i64 (x:Nat)] w fun e w'=>e = .returned (.bool (qE n x))/\Below w.heap.size w w':=by
 have Fu:=h.num;obtain⟨neg,X⟩:=n;obtain⟨g,o,cap,rfl,-⟩:=h;simp only at Fu ⊢;have qd:∀ ob,Below w.heap.size w (w.alloc ob):=fun ob=>(zL _ _).alloc (zG _) _
 have HC:=fun ob=>z7 (Ks _ X x (w.alloc ob) (Fu.below (qd ob)) hx)
 clear Fu
 cases neg
 ·obtain⟨cc,Pv⟩:∃ cc,Q7 X x=cc:=⟨_,rfl⟩;have HS:=z7 (show qE (false,X) x=decide (cc=0) by unfold qE;rw[Pv];rfl);rw[Pv] at HC;clear Pv;go_enter func134,ntmps134;go_wp2_with fail;refine(HC _).out.mono ?_;rintro e w1 ⟨rfl,xH⟩;have hb:=(qd (.cells #[.bool false,.slice (some ⟨g,o,none⟩) (X.1.length+X.2.length) cap,.int .i64 X.2.length] 97)).trans (xH.mono (by simp));clear xH qd HC;go_wp2;go_ret;rw[HS.out];exact⟨by first|rfl|(congr 2;simp) ,hb⟩
 ·have HS:=z7 (show qE (true,X) x=false from rfl);have hb:=qd (.cells #[.bool true,.slice (some ⟨g,o,none⟩) (X.1.length+X.2.length) cap,.int .i64 X.2.length] 97);clear HC qd;go_enter func134,ntmps134;go_wp2;go_ret;exact⟨by rw[HS.out];rfl,hb⟩
theorem eG:ZN Tryz.prog 195 272 (.agg #[.bool false,.slice none 0 0,.int .i64 0,.bool false,.slice none 0 0,.int .i64 0]) 6 80 :=
 ⟨underlying195,info_parts (by kernel_rfl),rfl,by decide,by decide⟩
def VK(nb:Bool)(g o n c k:Nat):List Value:=[.bool nb,.slice (some ⟨g,o,none⟩) n c,.int .i64 (k:Nat)]
abbrev L0(nb:Bool)(g o n c k:Nat):Value := .agg #[.bool nb,.slice (some ⟨g,o,none⟩) n c,.int .i64 (k:Nat)]
abbrev pP(b:Nat)(st:Value)(k:Nat):Prop:=k=b\/xU st k
section
variable {b:Nat} {x0 x1 x2 st v:Value} {l:Wd} {w w':World}
theorem qj.stk(h:qj b x0 x1 x2 st v l w)(R8:Value):qj b x0 x1 x2 R8 v l (w.setCell ⟨b,5,none⟩ R8):=by
 obtain⟨p,h1,h2,h3,h4,h5⟩:=h;exact⟨p,h1,by simp[zn,Array.getElem?_modify,h2],xh h3 (fun e=>h4 e.symm) _,h4,h5⟩
theorem qj.c5(h:qj b x0 x1 x2 st v l w):w.cell? ⟨b,5,none⟩=some st:=h.cell.2.2.2.1
theorem qj.z(h:qj b x0 x1 x2 st v l w)(j:Nat):w.frozen? ⟨b,j,none⟩=false:=h.cell.2.2.2.2 j
def L5(b:Nat)(x0 x1 x2 st v:Value)(l:Wd)(n:Nat)(cs:List Value)(w w':World):Prop :=
 ∃ R8,qj b x0 x1 x2 R8 v l w'/\w'.ownsRow 0 272 6 R8 n cs/\R8.ownBlock≠some b/\(∀ g,xU v g->¬xU R8 g)/\Fr (pP b st) (pP b R8) w w'
theorem eF(h:qj b x0 x1 x2 st v l w){n:Nat}{cs:List Value}(vR:w.ownsRow 0 272 6 st n cs)(ZT:st.ownBlock≠some b)(Yr:∀ g,xU v g->¬xU st g)(hn:n<=1000000)(nb zb:Bool)(g o m c k g' o' m' c' k':Nat) :
  Calls Tryz.prog 130 #[.pointer (some ⟨b,5,none⟩),.agg #[.bool nb,.slice (some ⟨g,o,none⟩) m c,.int .i64 (k:Nat),.bool zb,.slice (some ⟨g',o',none⟩) m' c',.int .i64 (k':Nat)]] w fun e w'=>e = .returned (.tuple #[])/\L5 b x0 x1 x2 st v l (n+1) (cs++(VK nb g o m c k++VK zb g' o' m' c' k')) w w':=by
 have HH:=z7 h;have xC:=h.lt;obtain⟨W,hW⟩:∃ W,w.alloc (.cells #[.bool nb,.slice (some ⟨g,o,none⟩) m c,.int .i64 (k:Nat),.bool zb,.slice (some ⟨g',o',none⟩) m' c',.int .i64 (k':Nat)] 272)=W:=⟨_,rfl⟩;have hb:Below w.heap.size w W:=by rw[←hW];exact(zL _ _).alloc (zG _) _
 have JX:Fr xS xS w W:=Fr.of hb;have wx:W.heap.size=w.heap.size+1:=by rw[←hW];simp
 have hOW:=h.fr JX id (fun _ _ q=>q);have c5:=hOW.c5;have hc:∀ j,W.cell? ⟨w.heap.size,j,none⟩=(#[zR nb,.slice (some ⟨g,o,none⟩) m c,.int .i64 (k:Nat),.bool zb,.slice (some ⟨g',o',none⟩) m' c',.int .i64 (k':Nat)]:Array Value)[j]? := fun j=>by rw[←hW];exact xq _ _ _ _ _
 have e0:=hc 0;have e1:=hc 1;have e2:=hc 2;have e3:=hc 3;have e4:=hc 4;have e5:=hc 5;simp only[zZ,zk,zj] at e0 e1 e2 e3 e4 e5;obtain⟨B,hB⟩:∃ B,w.heap.size=B:=⟨_,rfl⟩;rw[hB] at e0 e1 e2 e3 e4 e5 wx xC;have hoW:=JX.own vR (fun _ _ q=>q);obtain⟨sa,sc,rfl⟩:=xY vR;have HO:=z7 hoW;have D6:=z7 JX;have IZ:=z7 hOW;have IE:=z7 Yr;have HSB:=z7 ZT;have jN:=z7 vR;clear h hb JX hOW hc vR Yr ZT hoW;go_enter func130,ntmps130;go_wp2_with fail;try rw[hB]
 have HWE:=z7 hW;have NV:=z7 hB;have WJ:=z7 wx;clear hW hB wx;refine rk (fun W':World=>W'.cell? ⟨b,5,none⟩=some (.slice sa n sc)/\W'.cell? ⟨B,0,none⟩=some (.bool nb)/\W'.cell? ⟨B,1,none⟩=some (.slice (some ⟨g,o,none⟩) m c)/\W'.cell? ⟨B,2,none⟩=some (.int .i64 (k:Nat))/\W'.cell? ⟨B,3,none⟩=some (.bool zb)/\W'.cell? ⟨B,4,none⟩=some (.slice (some ⟨g',o',none⟩) m' c')/\W'.cell? ⟨B,5,none⟩=some (.int .i64 (k':Nat))) 10 [0,1,2,3,4,5] 5 ⟨c5,e0,e1,e2,e3,e4,e5⟩ ?_;(iterate 6 (refine ty ?_;try simp only[pl]))
 refine xk ?_;refine xM 6 (by kernel_rfl) rfl (fun J hJ=>?_);go_simp;refine hJ.out _ _ ⟨xG c5 _,xG e0 _,xG e1 _,xG e2 _,xG e3 _,xG e4 _,xG e5 _⟩ fun _=>?_
 clear hJ J;refine xM 7 (by kernel_rfl) rfl (fun J hJ=>?_);rw[if_pos (by rfl)];change Oper.wp _ _ _ (W.drew.alloc (.cells [_,_,_,_,_,_].toArray _)) _ _
 refine Xu eG [_,_,_,_,_,_] 1 (by exact HO.out) (by omega) ?_;intro v2 w2 QH vF;have vF:=vF.und;have wu:¬xU (.slice sa n sc) b:=fun e=>HSB.out e
 have nB:¬xU (.slice sa n sc) B:=fun e=>by have:=ur jN.out e;have:=NV.out;omega
 have f0:=vF.cell c5 wu;have f1:=vF.cell e0 nB;have f2:=vF.cell e1 nB;have f3:=vF.cell e2 nB;have f4:=vF.cell e3 nB;have f5:=vF.cell e4 nB;have f6:=vF.cell e5 nB;have z2:w2.frozen? ⟨b,5,none⟩=false:=(vF.frozen (zV _ _ c5) wu).trans (IZ.out.z 5);have nb2:v2.ownBlock≠some b:=fun e=>(vF.fp b e).elim wu (fun q=>by have:=WJ.out;omega)
 have hO2:qj b x0 x1 x2 v2 v l (w2.setCell ⟨b,5,none⟩ v2):=(IZ.out.fr vF wu (fun g hg=>IE.out g hg)).stk v2;have ve:Fr (pP b (.slice sa n sc)) (pP b v2) w (w2.setCell ⟨b,5,none⟩ v2):=by
  have h1:Fr (pP b (.slice sa n sc)) (pP b (.slice sa n sc)) w w2:=(D6.out.wide (G:=pP b (.slice sa n sc)) (fun _ q=>q.elim)).trans (vF.wide (fun k hk => .inr hk));refine(h1.set (a:=⟨b,5,none⟩) v2 (.inl (.inl rfl))).tg (fun k hk=>?_);rcases hk with rfl|hk
  ·exact .inl (.inl rfl)
  ·exact(vF.fp k hk).elim (fun q => .inl (.inr q)) (fun q => .inr (by have:=D6.out.size;omega))
 have HQ:=z7 (show L5 b x0 x1 x2 (.slice sa n sc) v l (n+1) (cs++(VK nb g o m c k++VK zb g' o' m' c' k')) w (w2.setCell ⟨b,5,none⟩ v2) from
  ⟨v2,hO2,xh QH (fun e=>nb2 e.symm) _,nb2,fun g hg e=>(vF.fp g e).elim (IE.out g hg) (fun q=>by have:=ur IZ.out.row hg;omega),ve⟩)
 obtain⟨a2,cc2,rfl⟩:=xY QH;clear QH vF hO2 ve nb2;go_simp;refine hJ.out _ _ ⟨f0,f1,f2,f3,f4,f5,f6⟩ fun _=>?_
 clear hJ J;refine kU [8,9] 1 rfl (by intro _ _ d _ _ h;cases d<;>exact h) (by kernel_rfl) (by kernel_rfl) ⟨f0,f1,f2,f3,f4,f5,f6⟩ ?_;(iterate 2 (refine ty ?_;try simp only[pl]))
 refine xk ?_;refine vu 10 (by kernel_rfl) (by kernel_rfl) rfl (fun J hJ=>?_);go_simp;refine hJ.out _ _ ?_;clear hJ J;refine vq (by kernel_rfl) ?_ _;go_wp2;go_end0
 exact⟨rfl,HQ.out⟩
theorem eD{base e size g n c:Nat}{w:World}{xs:List Value}(h:w.ownsRow base e size (.slice (some ⟨g,0,none⟩) (n+1) c) (n+1) xs):w.ownsRow base e size (.slice (some ⟨g,0,none⟩) n c) n (xs.take (n*size)):=by
 rcases h with⟨h1,h2⟩;rcases h2 with⟨hv,_⟩|⟨g2,uO,cur,hv,k1,k2,k3,k4,k5,k6⟩
 ·cases hv
 ·cases hv;refine⟨by rw[zi,h1,Nat.succ_mul];omega,.inr ⟨g,c,cur,rfl,k1,k2,by omega,k4,k5,?_⟩⟩;rw[←k6,List.take_take,Nat.min_eq_left (Nat.mul_le_mul_right _ (by omega))]
theorem pR(h:qj b x0 x1 x2 st v l w){n:Nat}{cs tp:List Value}(vR:w.ownsRow 0 272 6 st (n+1) (cs++tp))(dT:cs.length=n*6)(ZT:st.ownBlock≠some b)(Yr:∀ g,xU v g->¬xU st g)(hn:n<=1000000) :
  Calls Tryz.prog 132 #[.pointer (some ⟨b,5,none⟩)] w fun e w'=>e = .returned (.tuple #[])/\L5 b x0 x1 x2 st v l n cs w w':=by
 obtain⟨g,c,rfl,-,hgl,-⟩:=vQ vR (by omega);have c5:=h.c5;have z5:=h.z 5;have ho:=eD vR;rw[←dT,zm] at ho;have ZA:n+1<=c:=by
  rcases vR.2 with⟨hv,_⟩|⟨g2,uO,cur,hv,_,_,hh,_⟩
  ·cases hv
  ·cases hv;exact hh
 have Dj:b≠g:=fun e=>ZT (by simp[zx,e])
 have HQ:=z7 (show L5 b x0 x1 x2 (.slice (some ⟨g,0,none⟩) (n+1) c) v l n cs w (w.setCell ⟨b,5,none⟩ (.slice (some ⟨g,0,none⟩) n c)) from
  ⟨_,h.stk _,xh ho (by simpa[zx] using Dj) _,by simpa[zx] using Ne.symm Dj,Yr,(Fr.refl _ _).set (a:=⟨b,5,none⟩) _ (.inl (.inl rfl))⟩)
 have k1:((n:Int)+1) - 1=(n:Int):=by omega
 have kw:zS.wrap (n:Int)=(n:Int):=by rw[zN];omega
 have k2:n<=c:=by omega
 have k3:(n:Int)<=(c:Int):=by omega
 clear h vR ho ZT Yr ZA dT hgl;go_enter func132,ntmps132;go_wp2_with fail;refine rk (fun W':World=>W'.cell? ⟨b,5,none⟩=some (.slice (some ⟨g,0,none⟩) (n+1) c)) 14 (zX 14) 1 c5 ?_;(iterate 14 (refine ty ?_;try simp only[pl]))
 refine xk ?_;refine vu 14 (by kernel_rfl) (by kernel_rfl) rfl (fun J hJ=>?_);go_simp;refine hJ.out _ _ ?_;clear hJ J;refine vq (by kernel_rfl) ?_ _;go_wp2;go_end0
 obtain⟨R8,a1,a2,a3,a4,a5⟩:=HQ.out;exact⟨rfl,R8,a1,a2,a3,a4,a5.drew⟩
theorem JW(h:qj b x0 x1 x2 st v l w){n:Nat}{cs:List Value}(nb zb:Bool)(g o m c k g' o' m' c' k':Nat)(vR:w.ownsRow 0 272 6 st (n+1) (cs++(VK nb g o m c k++VK zb g' o' m' c' k')))(dT:cs.length=n*6)(hn:n<=1000000) :
  Calls Tryz.prog 133 #[.pointer (some ⟨b,5,none⟩)] w fun e w' =>
   e = .returned (.agg #[.bool nb,.slice (some ⟨g,o,none⟩) m c,.int .i64 (k:Nat),.bool zb,.slice (some ⟨g',o',none⟩) m' c',.int .i64 (k':Nat)])/\Below w.heap.size w w':=by
 obtain⟨q,cp,rfl,-,hql,hc⟩:=vQ vR (by omega);have c5:=xG h.c5 (.cells #[.bool false,.slice none 0 0,.int .i64 0,.bool false,.slice none 0 0,.int .i64 0] 272);have cc:∀ j,j<6->(w.alloc (.cells #[.bool false,.slice none 0 0,.int .i64 0,.bool false,.slice none 0 0,.int .i64 0] 272)).cell? ⟨q,n*6+j,none⟩=(VK nb g o m c k++VK zb g' o' m' c' k')[j]? := fun j hj=>by
  rw[zY _ _ _ hql,hc _ (by omega),List.getElem?_append_right (by omega),dT,Nat.add_sub_cancel_left]
 have e0:=cc 0 (by omega);have e1:=cc 1 (by omega);have e2:=cc 2 (by omega);have e3:=cc 3 (by omega);have e4:=cc 4 (by omega);have e5:=cc 5 (by omega);simp only[VK,List.cons_append,List.nil_append,zk,zj,Nat.add_zero] at e0 e1 e2 e3 e4 e5;have k1:((n:Int)+1) - 1=(n:Int):=by omega
 have kw:zS.wrap (n:Int)=(n:Int):=by rw[zN];omega
 have k2:(n:Int)<(n:Int)+1:=by omega
 obtain⟨W,hW⟩:∃ W,w.alloc (.cells #[.bool false,.slice none 0 0,.int .i64 0,.bool false,.slice none 0 0,.int .i64 0] 272)=W:=⟨_,rfl⟩;rw[hW] at c5 e0 e1 e2 e3 e4 e5;have hb:Below w.heap.size w W:=by rw[←hW];exact(zL _ _).alloc (zG _) _
 have hr:∀ j,W.cell? ⟨w.heap.size,j,none⟩=(#[zR false,.slice none 0 0,.int .i64 0,.bool false,.slice none 0 0,.int .i64 0]:Array Value)[j]? := fun j=>by rw[←hW];exact xq _ _ _ _ _
 have hz:∀ j,W.frozen? ⟨w.heap.size,j,none⟩=false:=fun j=>by rw[←hW];simp
 clear h vR hc cc dT;go_enter func133,ntmps133;go_wp2_with fail;try rw[hW]
 obtain⟨B,hB⟩:∃ B,w.heap.size=B:=⟨_,rfl⟩;rw[hB] at hr hz hb ⊢;have r0:=hr 0;have r1:=hr 1;have r2:=hr 2;have r3:=hr 3;have r4:=hr 4;have r5:=hr 5;simp only[zZ,zk,zj] at r0 r1 r2 r3 r4 r5;clear hr hW;refine rk (fun W':World=>W'.cell? ⟨b,5,none⟩=some (.slice (some ⟨q,0,none⟩) (n+1) cp)/\W'.cell? ⟨q,n*6,none⟩=some (.bool nb)/\W'.cell? ⟨q,n*6+1,none⟩=some (.slice (some ⟨g,o,none⟩) m c)/\W'.cell? ⟨q,n*6+2,none⟩=some (.int .i64 (k:Nat))/\W'.cell? ⟨q,n*6+3,none⟩=some (.bool zb)/\W'.cell? ⟨q,n*6+4,none⟩=some (.slice (some ⟨g',o',none⟩) m' c')/\W'.cell? ⟨q,n*6+5,none⟩=some (.int .i64 (k':Nat))) 12 (zX 12) 1 ⟨c5,e0,e1,e2,e3,e4,e5⟩ ?_;(iterate 12 (refine ty ?_;try simp only[pl]))
 refine xk ?_;refine vu 12 (by kernel_rfl) (by kernel_rfl) rfl (fun J hJ=>?_);go_simp;refine hJ.out _ _ ?_;clear hJ J;refine vq (by kernel_rfl) ?_ _;go_wp2;refine bodyPost_ret (v := .agg #[.bool nb,.slice (some ⟨g,o,none⟩) m c,.int .i64 (k:Nat),.bool zb,.slice (some ⟨g',o',none⟩) m' c',.int .i64 (k':Nat)]) ?_ rfl ?_
 ·simp[results,results133,go_sem,r0,r1,r2,r3,r4,r5]
 ·refine⟨rfl,?_⟩;rw[hB];(repeat(first|(with_reducible exact hb)|(with_reducible refine Below.drew ?_)|(with_reducible refine Below.setCell ?_ ?_ _;rotate_left;focus(exact zG _))))
end
def zk7(o:zu4)(e:Ending):Prop :=
 match o with
 | .no=>∃ t b,e = .returned (.tuple #[.agg #[xf t,.bool b],.bool false])
 | .val t num=>t.length<=1000000/\e = .returned (.tuple #[.agg #[xf t,.bool num],.bool true])
 | .zu5=>False
section
variable {τ:Type}
def zng(E:qq τ)(F S:τ->Nat->Prop)(Inv:τ->World->Prop)(n:Wd)(s:τ)(w:World)(e:Ending)(w':World):Prop :=
 zk7 (E.get n s).1 e/\Inv (E.get n s).2 w'/\Fr (F s) (F (E.get n s).2) w w'/\∀ k,S (E.get n s).2 k->S s k\/w.heap.size<=k
structure Cw(gv:Value)(E:qq τ)(F S:τ->Nat->Prop)(Inv:τ->World->Prop):Prop where
 call:∃ K cp,gv = .func (.func K) #[] cp/\(∀ args w,(callFunc K args).run Tryz.prog w = .ok (.enter K args) w)/\∀ W s n,Inv s W->n.length<=5000000->Calls Tryz.prog K (#[xf n]++cp) W (zng E F S Inv n s W)
 sub:∀ s k,F s k->S s k
 E0:∀ s W k,Inv s W->S s k->k<W.heap.size
 keep:∀ s W W',Inv s W->W.heap.size<=W'.heap.size->(∀ k,S s k->W'.heap[k]? = W.heap[k]?)->Inv s W'
theorem Cw.fr{gv:Value}{E:qq τ}{F S:τ->Nat->Prop}{Inv:τ->World->Prop}(h:Cw gv E F S Inv){s:τ}{w w':World}{D D':Nat->Prop}(hi:Inv s w)(hf:Fr D D' w w')(hd:∀ k,D k->¬S s k):Inv s w' :=
 h.keep s w w' hi hf.size (fun k hk=>hf.keep k (h.E0 s w k hi hk) (fun q=>hd k q hk))
theorem Ox(A:Nat)(w:World)(hA:w.cell? ⟨A,0,none⟩=some (.bool true)):CallsD Tryz.prog 207 #[.pointer (some ⟨A,0,none⟩)] .returning w fun e u' w'=>e = .returned (.tuple #[])/\u' = .returning/\w'=w:=by
 refine callsD_of_wpS func207 rfl fun c₀ cs hu=>?_
 apply wpS_seq;apply wpS_region;simp[wpOpsS,go_sem,hu,hA,ntmps207,Exit.thenS];refine wpS_of_wp ?_;go_wp2
 cases c₀;simp_all [bodyPostS,results,results207]
theorem pS{gv:Value}{E:qq τ}{F S:τ->Nat->Prop}{Inv:τ->World->Prop}(hg:Cw gv E F S Inv)(b:Nat)(n:Wd)(s:τ)(w:World)(c2:w.cell? ⟨b,2,none⟩=some gv)(hi:Inv s w)(hn:n.length<=5000000) :
  Calls Tryz.prog 165 #[.pointer (some ⟨b,0,none⟩),xf n] w (zng E F S Inv n s w):=by
 obtain⟨K,cp,rfl,C5,vE⟩:=hg.call;have RS:∀ (fn:Fn) (first cap:Array Value) (w:World),(Instr.makeFunc fn first cap).run Tryz.prog w = .ok (.func fn first cap) w:=fun _ _ _ _=>rfl
 obtain⟨A,hA⟩:∃ A,w.heap.size=A:=⟨_,rfl⟩;obtain⟨V,hV⟩:∃ V,((w.alloc (.cells #[.string ⟨#[]⟩,.bool false] 86)).alloc (.cells #[.bool false] 4))=V:=⟨_,rfl⟩;obtain⟨W,hW⟩:∃ W,V.setCell ⟨A+1,0,none⟩ (.bool false)=W:=⟨_,rfl⟩;have s1:(w.alloc (.cells #[.string ⟨#[]⟩,.bool false] 86)).heap.size=A+1:=by simp[hA]
 have JX:Fr xS xS w W:=by
  rw[←hW,←hV];exact(((Fr.refl _ _).alloc _).alloc _).set _ (.inr (by rw[hA];exact za _))
 have c2W:=JX.cell c2 id;have TV:W.heap.size=A+2:=by rw[←hW,←hV];simp[hA,zn]
 have v0:V.cell? ⟨A,0,none⟩=some (.string ⟨#[]⟩):=by rw[←hV,zY _ _ _ (by show A<_;omega),←hA];exact xq _ _ _ _ _
 have v1:V.cell? ⟨A,1,none⟩=some (.bool false):=by rw[←hV,zY _ _ _ (by show A<_;omega),←hA];exact xq _ _ _ _ _
 have v2:V.cell? ⟨A+1,0,none⟩=some (.bool false):=by rw[←hV,←s1];exact xq _ _ _ _ _
 have y0:∀ j,V.frozen? ⟨A,j,none⟩=false:=fun j=>by rw[←hV,zU (Below.heap_alloc _ _ _ (by show A<_;omega)),←hA];simp
 have y2:∀ j,V.frozen? ⟨A+1,j,none⟩=false:=fun j=>by rw[←hV,←s1];simp
 have a0:W.cell? ⟨A,0,none⟩=some (.string ⟨#[]⟩):=by rw[←hW];exact uJ v0 _ (by show A+1≠A;omega)
 have a1:W.cell? ⟨A,1,none⟩=some (.bool false):=by rw[←hW];exact uJ v1 _ (by show A+1≠A;omega)
 have a2:W.cell? ⟨A+1,0,none⟩=some (.bool false):=by rw[←hW];exact uj v2 _
 have z0:∀ j,W.frozen? ⟨A,j,none⟩=false:=fun j=>by rw[←hW,zv];exact y0 j
 have z2:∀ j,W.frozen? ⟨A+1,j,none⟩=false:=fun j=>by rw[←hW,zv];exact y2 j
 have c2V:V.cell? ⟨b,2,none⟩=some (.func (.func K) #[] cp):=by
  have:Fr xS xS w V:=by rw[←hV];exact((Fr.refl _ _).alloc _).alloc _
  exact this.cell c2 id
 have hsV:V.heap.size=A+2:=by rw[←hV];simp[hA]
 have wk:=hg.fr hi JX (fun _ q=>q.elim);have HC:=z7 (vE W s n wk hn);have D6:=z7 JX;have HG:=z7 hg;have HSU:=z7 (fun k (hk:S s k)=>hg.E0 s w k hi hk);have HSB:=z7 hg.sub;have HA:=z7 hA;have Cv:=z7 TV;clear JX vE wk c2 hi hg s1 TV;go_enter_defers func165,ntmps165
 go_wp2_with fail;try rw[hW]
 clear hW hV v0 v1 v2 y0 y2 hsV c2V hA;refine HC.out.mono ?_;rintro e w1 ⟨hr,Vc,uZ,uT⟩;have hAS:∀ k,A<=k->¬S s k:=fun k hk q=>by have:=HSU.out k q;have:=HA.out;omega
 have nA:¬F s A:=fun q=>hAS A (zG _) (HSB.out _ _ q)
 have nA1:¬F s (A+1):=fun q=>hAS (A+1) (by omega) (HSB.out _ _ q)
 have b0:=uZ.cell a0 nA;have b1:=uZ.cell a1 nA;have b2:=uZ.cell a2 nA1;have k0:∀ j,w1.frozen? ⟨A,j,none⟩=false:=fun j=>(uZ.frozen (a:=⟨A,j,none⟩) (by show A<_;have:=Cv.out;omega) nA).trans (z0 j)
 have k2:∀ j,w1.frozen? ⟨A+1,j,none⟩=false:=fun j=>(uZ.frozen (a:=⟨A+1,j,none⟩) (by show A+1<_;have:=Cv.out;omega) nA1).trans (z2 j)
 obtain⟨t,bb,ok,rfl⟩:∃ t bb ok,e = .returned (.tuple #[.agg #[xf t,.bool bb],.bool ok]):=by
  unfold zk7 at hr;split at hr
  ·obtain⟨t,b,h⟩:=hr;exact⟨t,b,_,h⟩
  ·exact⟨_,_,_,hr.2⟩
  ·exact hr.elim
 have HR:=z7 hr;have HI:=z7 (z8 Vc (z8 uZ uT));have HAS:=z7 hAS;clear hr Vc uZ uT hAS nA nA1 a0 a1 a2 z0 z2 HC;go_wp2_with fail;obtain⟨X,hX⟩:∃ X,(((((w1.setCell ⟨A,0,none⟩ (xf t)).setCell ⟨A,1,none⟩ (.bool bb)).setCell ⟨A+1,0,none⟩ (.bool true)).setCell ⟨A,0,none⟩ (xf t)).setCell ⟨A,1,none⟩ (.bool bb))=X:=⟨_,rfl⟩;rw[hX];have n01:(⟨A,0,none⟩:Addr)≠⟨A,1,none⟩:=by simp
 have e2:X.cell? ⟨A+1,0,none⟩=some (.bool true):=by
  rw[←hX];exact uJ (uJ (uj (uJ (uJ b2 _ (by simp)) _ (by simp)) _) _ (by simp)) _ (by simp)
 have e0:X.cell? ⟨A,0,none⟩=some (xf t):=by
  rw[←hX,xd,if_neg (by simp)];refine uj (v:=xf t) ?_ _;refine uJ ?_ _ (by simp);rw[xd,if_neg (by simp)];exact uj b0 _
 have e1:X.cell? ⟨A,1,none⟩=some (.bool bb):=by
  rw[←hX];refine uj (v := .bool bb) ?_ _;rw[xd,if_neg (by simp)];refine uJ ?_ _ (by simp);refine uj (v := .bool false) ?_ _;rw[xd,if_neg (by simp)];exact b1
 have hXf:Fr (fun k=>k=A\/k=A+1) (fun k=>k=A\/k=A+1) w1 X:=by
  rw[←hX];exact(((((Fr.refl _ _).set _ (.inl (.inl rfl))).set _ (.inl (.inl rfl))).set _ (.inl (.inr rfl))).set _ (.inl (.inl rfl))).set _ (.inl (.inl rfl))
 clear hX;refine leaves_cons (f:=207) (args:=#[.pointer (some ⟨A+1,0,none⟩)]) (by simp) (by simp[go_sem]) ?_;refine(Ox (A+1) _ e2).mono ?_;rintro e u' KH ⟨rfl,rfl,rfl⟩;simp[Leaves,settle,results,results165,go_sem,e0,e1];obtain⟨Vc,uZ,uT⟩:=HI.out;have hsS:∀ k,(k=A\/k=A+1)->¬S (E.get n s).2 k:=by
  intro k hk q;rcases uT k q with q|q
  ·exact HAS.out k (by omega) q
  ·have:=Cv.out;omega
 refine⟨HR.out,HG.out.fr Vc hXf hsS,?_,fun k hk=>(uT k hk).imp id (fun q=>by have:=Cv.out;have:=HA.out;omega)⟩;have h1:Fr (F s) (F (E.get n s).2) w w1:=((D6.out.wide (G:=F s) (fun _ q=>q.elim)).trans uZ);exact⟨hXf.os.trans h1.os,hXf.tape.trans h1.tape,hXf.output.trans h1.output,ze h1.size hXf.size,fun k hk hn=>(hXf.keep k (zM hk h1.size) (fun q=>by have:=HA.out;omega)).trans (h1.keep k hk hn),h1.fp⟩
end
theorem BB(t:Wd)(num:Bool)(w:World)(ht:t.length<=1000000) :
  Calls Tryz.prog 84 #[.agg #[xf t,.bool num]] w fun e w'=>e = .returned (.bool (jY t num))/\Below w.heap.size w w':=by
 have hb:∀ ob,Below w.heap.size w (w.alloc ob):=fun ob=>(zL _ _).alloc (zG _) _
 have qs:(⟨t.toArray⟩:ByteArray).size=t.length:=size_mk _
 cases num
 ·have k1:((t.length:Int)<=60)=(t.length<=60):=by simp only[eq_iff_iff];omega
  have HS:=z7 (show jY t false=decide (t.length<=60) from rfl);have HB:=z7 (hb (.cells #[xf t,.bool false] 86));clear hb;go_enter func84,ntmps84;go_wp2;go_ret;rw[HS.out];exact⟨by simp,HB.out⟩
 ·have HS:=z7 (show jY t true=vr t from rfl);have HP:=fun ob=>z7 (Vv ⟨t.toArray⟩ (w.alloc ob) (by rw[qs];exact ht))
  go_enter func84,ntmps84;go_wp2_with fail;refine(HP _).out.mono ?_;rintro e w1 ⟨b,v,k,rfl,⟨va,vn,vk,rfl⟩,xH,-⟩;have HB:=z7 ((hb _).trans (xH.mono (by simp)));clear hb xH HP;go_wp2;go_ret;rw[HS.out];exact⟨rfl,HB.out.alloc HB.out.size _⟩
structure DO(b q j:Nat)(n:Wd)(w:World):Prop where
 b0:w.cell? ⟨b,0,none⟩=some (.pointer (some ⟨q,0,none⟩))
 c:∃ C m cc,w.cell? ⟨q,0,none⟩=some (.slice (some ⟨C,0,none⟩) m cc)/\w.cell? ⟨C,j,none⟩=some (xf n)/\j<m/\m<=1000000
theorem DO.fr{b q j:Nat}{n:Wd}{w w':World}{D D':Nat->Prop}(h:DO b q j n w)(hf:Fr D D' w w')(hd:∀ k,¬D k):DO b q j n w':=by
 obtain⟨b0,C,m,cc,h1,h2,h3⟩:=h;exact⟨hf.cell b0 (hd _),C,m,cc,hf.cell h1 (hd _),hf.cell h2 (hd _),h3⟩
def zk9(n:Nat)(e:Ending):Prop:=∃ uM:List PanicEntry,e = .panicked ({ v:=ql n,recovered:=false }::uM)/\uM.dropWhile (!·.goexit)=[]
section
variable {τ:Type}
def Xa{α:Type}(F S:τ->Nat->Prop)(Inv:τ->World->Prop)(s:τ)(w:World)(ok:α->τ->World->Ending->Prop)(r:Except (Nat×τ) (α×τ))(e:Ending)(w':World):Prop :=
 match r with
 | .ok (a,s')=>ok a s' w' e/\Inv s' w'/\Fr (F s) (F s') w w'/\∀ k,S s' k->S s k\/w.heap.size<=k
 | .error (n,s')=>zk9 n e/\Inv s' w'/\Fr (F s) (F s') w w'/\∀ k,S s' k->S s k\/w.heap.size<=k
theorem Xa.more{gv:Value}{E:qq τ}{F S:τ->Nat->Prop}{Inv:τ->World->Prop}(hg:Cw gv E F S Inv){s s':τ}{w w1 w2:World}{D D':Nat->Prop}(h:Inv s' w1/\Fr (F s) (F s') w w1/\∀ k,S s' k->S s k\/w.heap.size<=k)(hf:Fr D D' w1 w2)(hd:∀ k,D k->¬S s' k/\w.heap.size<=k):Inv s' w2/\Fr (F s) (F s') w w2/\∀ k,S s' k->S s k\/w.heap.size<=k :=
 ⟨hg.fr h.1 hf (fun k q=>(hd k q).1),⟨hf.os.trans h.2.1.os,hf.tape.trans h.2.1.tape,hf.output.trans h.2.1.output,ze h.2.1.size hf.size,fun k hk hn=>(hf.keep k (zM hk h.2.1.size) (fun q=>by have:=(hd k q).2;omega)).trans (h.2.1.keep k hk hn),h.2.1.fp⟩,h.2.2⟩
def ybj(a:Wd×Bool)(_:τ)(_:World)(e:Ending):Prop:=a.1.length<=1000000/\e = .returned (.agg #[xf a.1,.bool a.2])
theorem E7{gv:Value}{E:qq τ}{F S:τ->Nat->Prop}{Inv:τ->World->Prop}(hg:Cw gv E F S Inv)(b q j:Nat)(n:Wd)(s:τ)(w:World)(c2:w.cell? ⟨b,2,none⟩=some gv)(hc:DO b q j n w)(hi:Inv s w)(hn:n.length<=5000000) :
  Calls Tryz.prog 127 #[.pointer (some ⟨b,0,none⟩),.int .i64 (j:Nat)] w (Xa F S Inv s w ybj (bw E n s)):=by
 obtain⟨W,hW⟩:∃ W,w.alloc (.cells #[.string ⟨#[]⟩,.bool false] 86)=W:=⟨_,rfl⟩;have JX:Fr xS xS w W:=by rw[←hW];exact(Fr.refl _ _).alloc _
 obtain⟨A,hA⟩:∃ A,w.heap.size=A:=⟨_,rfl⟩;have a0:W.cell? ⟨A,0,none⟩=some (.string ⟨#[]⟩):=by rw[←hW,←hA];exact xq _ _ _ _ _
 have a1:W.cell? ⟨A,1,none⟩=some (.bool false):=by rw[←hW,←hA];exact xq _ _ _ _ _
 have z0:∀ j,W.frozen? ⟨A,j,none⟩=false:=fun j=>by rw[←hW,←hA];simp
 have TV:W.heap.size=A+1:=by rw[←hW];simp[hA]
 have eB:∀ k,S s k->k<A:=fun k hk=>by rw[←hA];exact hg.E0 s w k hi hk
 have wk:=hg.fr hi JX (fun _ q=>q.elim);obtain⟨b0,C,m,cc,q0,cj,hjm,hm⟩:=hc.fr JX (fun _ q=>q);have HAK:=z7 (pS hg b n s W (JX.cell c2 id) wk hn);have k1:(j:Int)<(m:Int):=by omega
 have D6:=z7 JX;have HG:=z7 hg;have HSU:=z7 eB;have Cv:=z7 TV;clear JX wk c2 hc hi hg eB TV;go_enter func127,ntmps127;go_wp2_with fail;refine HAK.out.mono ?_;rintro e w1 ⟨hr,Vc,uZ,uT⟩;have nA:¬F s A:=fun q=>by have:=HSU.out A (HG.out.sub _ _ q);omega
 have b0':=uZ.cell a0 nA;have b1':=uZ.cell a1 nA;have y0:∀ j,w1.frozen? ⟨A,j,none⟩=false:=fun j=>(uZ.frozen (a:=⟨A,j,none⟩) (by show A<_;have:=Cv.out;omega) nA).trans (z0 j)
 obtain⟨⟨o,s'⟩,ho⟩:∃ p,E.get n s=p:=⟨_,rfl⟩;rw[ho] at hr Vc uZ uT;have hFw:Fr (F s) (F s') w w1:=(D6.out.wide (G:=F s) (fun _ q=>q.elim)).trans uZ;have hSw:∀ k,S s' k->S s k\/w.heap.size<=k:=fun k hk=>(uT k hk).imp id (fun q=>by have:=D6.out.size;omega)
 have HO:=z7 ho;have HI:=z7 (z8 Vc (z8 hFw hSw));have znf:¬S s' A:=fun q=>(uT A q).elim (fun q=>by have:=HSU.out A q;omega) (fun q=>by have:=Cv.out;omega)
 have HAS:=z7 znf;clear Vc uZ uT hFw hSw ho HAK a0 a1 z0 b0 q0 cj nA znf
 cases o with
 | zu5=>exact hr.elim
 | no =>
  obtain⟨t,bb,rfl⟩:=hr;have HR:=z7 (show bw E n s = .error (12,s') by unfold bw;rw[HO.out]);go_wp2;refine⟨rfl,?_⟩;rw[HR.out];exact⟨⟨[],rfl,rfl⟩,Xa.more HG.out HI.out ((Fr.refl xS _).alloc _) (fun _ q=>q.elim)⟩
 | val t num =>
  obtain⟨ht,rfl⟩:=hr;have HT:=z7 ht;have HV:=fun W=>z7 (BB t num W ht)
  go_wp2_with fail;refine(HV _).out.mono ?_;rintro e w2 ⟨rfl,xB⟩;have lA:A<w1.heap.size:=zV w1 _ b0';have U3:Fr xS xS w1 w2:=((Fr.refl _ _).alloc _).trans (Fr.of xB);have d0:=U3.cell b0' id;have d1:=U3.cell b1' id;have d2:∀ j,w2.frozen? ⟨A,j,none⟩=false:=fun j=>(U3.frozen (a:=⟨A,j,none⟩) lA id).trans (y0 j)
  have e0:w2.cell? ⟨w1.heap.size,0,none⟩=some (xf t):=(xB.cell (by simp)).trans (xq _ _ _ _ 0);have e1:w2.cell? ⟨w1.heap.size,1,none⟩=some (.bool num):=(xB.cell (by simp)).trans (xq _ _ _ _ 1);have HFZ:=z7 U3;have xkj:¬(w1.heap.size=A):=fun e=>by omega
  have hAI:=Xa.more HG.out HI.out U3 (fun _ q=>q.elim);have HAI:=z7 hAI;clear xB U3 b0' b1' y0 HV hAI
  cases DX:jY t num
  ·have HR:=z7 (show bw E n s = .error (11,s') by unfold bw;rw[HO.out];simp only[DX];rfl);clear DX;go_wp2;refine⟨rfl,?_⟩;rw[HR.out];exact⟨⟨[],rfl,rfl⟩,HAI.out⟩
  ·have HR:=z7 (show bw E n s = .ok ((t,num),s') by unfold bw;rw[HO.out];simp only[DX];rfl);clear DX;go_wp2;refine bodyPost_ret (v := .agg #[xf t,.bool num]) ?_ rfl ?_
   ·simp[results,results127,go_sem,d0,d1]
   ·rw[HR.out];exact⟨⟨HT.out,rfl⟩,Xa.more HG.out HAI.out (D:=fun k=>k=A) (((Fr.refl (fun k=>k=A) _).set (a:=⟨A,0,none⟩) _ (.inl rfl)).set (a:=⟨A,1,none⟩) _ (.inl rfl)) (fun k hk=>by subst hk;exact⟨HAS.out,by omega⟩)⟩
end
theorem R9{B:Nat}{w:World}{v:Value}{wh fr:Wd}(neg:Bool)(ho:w.ownsRow B 5 1 v (wh.length+fr.length) (vy (wh++fr)))(h1:wh.all xQ=true)(h2:fr.all xQ=true)(h3:0<wh.length)(h4:wh.length+fr.length<=30) :
  gp (fun k=>k<B) w (.agg #[.bool neg,v,.int .i64 (fr.length:Nat)]) (neg,(wh,fr)):=by
 obtain⟨g,cap,rfl,hg,-,-⟩:=vQ ho (by omega);have Vm:wh.length+fr.length<=cap/\cap<=maxLen:=by
  rcases ho.2 with⟨hv,_⟩|⟨g2,uO,cur,hv,_,_,hh,hh2,_⟩
  ·cases hv
  ·cases hv;exact⟨hh,hh2⟩
 exact⟨g,0,cap,rfl,Vm.1,Vm.2,by omega,⟨_,Yc ho (m:=0) (by simp;omega) (by simp)⟩,qA ho (by simp),⟨h1,h2,fun e=>by have:=congrArg List.length e;simp at this;simp[this] at h3,by show wh.length<=100;omega,by show fr.length<=100;omega⟩⟩
section
variable {τ:Type}
theorem BC{E:qq τ}{n t:Wd}{num:Bool}{s s':τ}(h:bw E n s = .ok ((t,num),s')):jY t num=true:=by
 unfold bw at h;split at h
 ·cases h
 ·cases h
 ·split at h
  ·cases h;assumption
  ·cases h
def znd(S:τ->Nat->Prop)(w:World)(n:vv)(s':τ)(w':World)(e:Ending):Prop:=∃ v,e = .returned v/\gp (fun k=>k<w.heap.size\/S s' k) w' v n/\n.2.1.length+n.2.2.length<=30
def WdP(t:Wd)(_:τ)(_:World)(e:Ending):Prop:=t.length<=1000000/\e = .returned (xf t)
theorem eC{gv:Value}{E:qq τ}{F S:τ->Nat->Prop}{Inv:τ->World->Prop}(hg:Cw gv E F S Inv)(b q j:Nat)(n:Wd)(s:τ)(w:World)(c2:w.cell? ⟨b,2,none⟩=some gv)(hc:DO b q j n w)(hi:Inv s w)(hn:n.length<=5000000) :
  Calls Tryz.prog 172 #[.pointer (some ⟨b,0,none⟩),.int .i64 (j:Nat)] w (Xa F S Inv s w WdP (CM E n s)):=by
 have HA:=z7 (E7 hg b q j n s w c2 hc hi hn);obtain⟨r,hr⟩:∃ r,bw E n s=r:=⟨_,rfl⟩;rw[hr] at HA;have HR:=z7 hr;have HG:=z7 hg;clear hg c2 hc hi hr;go_enter func172,ntmps172;go_wp2_with fail;refine HA.out.mono ?_;intro e w1 hq
 cases r with
 | error er =>
  obtain⟨m,s'⟩:=er;obtain⟨⟨uM,rfl,hold⟩,hI⟩:=hq;have HQ:=z7 (show Xa F S Inv s w WdP (CM E n s) (.panicked ({ v:=ql m,recovered:=false }::uM)) w1 by
   unfold CM;rw[HR.out];exact⟨⟨uM,rfl,hold⟩,hI⟩)
  clear hold hI HA;go_wp2;exact⟨rfl,HQ.out⟩
 | ok p =>
  obtain⟨⟨t,num⟩,s'⟩:=p;obtain⟨⟨ht,rfl⟩,hI⟩:=hq;have HI:=z7 hI;have HT:=z7 ht;clear hI HA
  cases num
  ·have HW:=z7 (show CM E n s = .ok (t,s') by unfold CM;rw[HR.out];rfl);go_wp2;go_ret;rw[HW.out];exact⟨⟨HT.out,rfl⟩,Xa.more HG.out HI.out ((Fr.refl xS _).alloc _) (fun _ q=>q.elim)⟩
  ·have HW:=z7 (show CM E n s = .error (13,s') by unfold CM;rw[HR.out];rfl);go_wp2;refine⟨rfl,?_⟩;rw[HW.out];exact⟨⟨[],rfl,rfl⟩,Xa.more HG.out HI.out ((Fr.refl xS _).alloc _) (fun _ q=>q.elim)⟩
theorem L6{gv:Value}{E:qq τ}{F S:τ->Nat->Prop}{Inv:τ->World->Prop}(hg:Cw gv E F S Inv)(b q j:Nat)(n:Wd)(s:τ)(w:World)(c2:w.cell? ⟨b,2,none⟩=some gv)(hc:DO b q j n w)(hi:Inv s w)(hn:n.length<=5000000) :
  Calls Tryz.prog 129 #[.pointer (some ⟨b,0,none⟩),.int .i64 (j:Nat)] w (Xa F S Inv s w (znd S w) (ZW E n s)):=by
 obtain⟨W,hW⟩:∃ W,w.alloc (.cells #[.bool false,.slice none 0 0,.int .i64 0] 97)=W:=⟨_,rfl⟩;have JX:Fr xS xS w W:=by rw[←hW];exact(Fr.refl _ _).alloc _
 obtain⟨A,hA⟩:∃ A,w.heap.size=A:=⟨_,rfl⟩;have hR:dF W A:=by rw[←hW,←hA];exact⟨xq _ _ _ _ _,xq _ _ _ _ _,xq _ _ _ _ _,by simp,by simp,by simp,by simp⟩
 have TV:W.heap.size=A+1:=by rw[←hW];simp[hA]
 have eB:∀ k,S s k->k<A:=fun k hk=>by rw[←hA];exact hg.E0 s w k hi hk
 have wk:=hg.fr hi JX (fun _ q=>q.elim);have HAR:=z7 (E7 hg b q j n s W (JX.cell c2 id) (hc.fr JX (fun _ q=>q)) wk hn);obtain⟨r,hr⟩:∃ r,bw E n s=r:=⟨_,rfl⟩;rw[hr] at HAR;have gI:=z7 hr;have HG:=z7 hg;have D6:=z7 JX;have HSU:=z7 eB;have Cv:=z7 TV;have HR:=z7 hR;clear hg c2 hc hi hr JX eB wk TV hR;go_enter func129,ntmps129;go_wp2_with fail;refine HAR.out.mono ?_;intro e w1 hq;have conv:∀ {s':τ},(Inv s' w1/\Fr (F s) (F s') W w1/\∀ k,S s' k->S s k\/W.heap.size<=k)->(Inv s' w1/\Fr (F s) (F s') w w1/\∀ k,S s' k->S s k\/w.heap.size<=k):=fun h=>⟨h.1,(D6.out.wide (G:=F s) (fun _ q=>q.elim)).trans h.2.1,fun k hk=>(h.2.2 k hk).imp id (fun q=>by have:=D6.out.size;omega)⟩
 cases r with
 | error er =>
  obtain⟨m,s'⟩:=er;obtain⟨⟨uM,rfl,hold⟩,hI⟩:=hq;have HQ:=z7 (show Xa F S Inv s w (znd S w) (ZW E n s) (.panicked ({ v:=ql m,recovered:=false }::uM)) w1 by
   unfold ZW;rw[gI.out];exact⟨⟨uM,rfl,hold⟩,conv hI⟩)
  clear hold hI HAR conv;go_wp2;exact⟨rfl,HQ.out⟩
 | ok p =>
  obtain⟨⟨t,num⟩,s'⟩:=p;obtain⟨⟨ht,rfl⟩,hI⟩:=hq;have HI:=z7 (conv hI);have nA:¬F s A:=fun q=>by have:=HSU.out A (HG.out.sub _ _ q);omega
  have hSA:¬S s' A:=fun q=>(hI.2.2 A q).elim (fun q=>by have:=HSU.out A q;omega) (fun q=>by have:=Cv.out;omega)
  have uZ:=hI.2.1;have lA:A<W.heap.size:=by have:=Cv.out;omega
  have IP:dF w1 A:=⟨uZ.cell HR.out.c0 nA,uZ.cell HR.out.c1 nA,uZ.cell HR.out.c2 nA,(uZ.frozen (a:=⟨A,0,none⟩) lA nA).trans HR.out.z0,(uZ.frozen (a:=⟨A,1,none⟩) lA nA).trans HR.out.z1,(uZ.frozen (a:=⟨A,2,none⟩) lA nA).trans HR.out.z2,zM lA uZ.size⟩;have dY:=z7 IP;have HSA:=z7 hSA;have HT:=z7 ht;clear hI HAR conv uZ IP hSA nA lA
  cases num
  ·have HW:=z7 (show ZW E n s = .error (13,s') by unfold ZW;rw[gI.out];rfl);go_wp2;refine⟨rfl,?_⟩;rw[HW.out];exact⟨⟨[],rfl,rfl⟩,Xa.more HG.out HI.out ((Fr.refl xS _).alloc _) (fun _ q=>q.elim)⟩
  ·have HW:=z7 (show ZW E n s = .ok (numOf t,s') by unfold ZW;rw[gI.out];rfl);have X0:vr t=true:=by have:=BC gI.out;exact this
   have HN:=z7 X0;have qs:(⟨t.toArray⟩:ByteArray).size=t.length:=size_mk _;have HP:=fun W=>z7 (Vv ⟨t.toArray⟩ W (by rw[qs];exact ht))
   clear X0;go_wp2_with fail;refine(HP _).out.mono ?_;rintro e w2 ⟨bb,v,k,rfl,⟨va,vn,vk,rfl⟩,xB,vP⟩;obtain⟨rfl,rfl,xJ⟩:=vP HN.out;have U3:Fr xS xS w1 w2:=((Fr.refl _ _).alloc _).trans (Fr.of xB);have Md:dF w2 A:=⟨U3.cell dY.out.c0 id,U3.cell dY.out.c1 id,U3.cell dY.out.c2 id,(U3.frozen (a:=⟨A,0,none⟩) dY.out.lt id).trans dY.out.z0,(U3.frozen (a:=⟨A,1,none⟩) dY.out.lt id).trans dY.out.z1,(U3.frozen (a:=⟨A,2,none⟩) dY.out.lt id).trans dY.out.z2,Nat.lt_of_lt_of_le dY.out.lt U3.size⟩;have r0:=Md.c0;have r1:=Md.c1;have r2:=Md.c2;have y0:=Md.z0;have y1:=Md.z1;have y2:=Md.z2;have hAw:A<w2.heap.size:=Md.lt;have Rc:A<w1.heap.size:=dY.out.lt;have Xj:(w1.alloc (.cells #[xf t,.bool true] 86)).heap.size=w1.heap.size+1:=by simp
   rw[Xj] at xJ;have HO:=z7 xJ;have HFZ:=z7 U3;clear xJ vP xB U3 Md Xj HP;go_wp2;obtain⟨X,hX⟩:∃ X,((w2.setCell ⟨A,0,none⟩ (.bool (fI t))).setCell ⟨A,1,none⟩ (.slice va vn vk)).setCell ⟨A,2,none⟩ (.int .i64 ((vW t).length:Nat))=X:=⟨_,rfl⟩;have x0:X.cell? ⟨A,0,none⟩=some (.bool (fI t)):=by
    rw[←hX,xd,if_neg (by simp),xd,if_neg (by simp)];exact uj r0 _
   have x1:X.cell? ⟨A,1,none⟩=some (.slice va vn vk):=by
    rw[←hX,xd,if_neg (by simp)];refine uj (v := .slice none 0 0) ?_ _;rw[xd,if_neg (by simp)];exact r1
   have x2:X.cell? ⟨A,2,none⟩=some (.int .i64 ((vW t).length:Nat)):=by
    rw[←hX];refine uj (v := .int .i64 0) ?_ _;rw[xd,if_neg (by simp),xd,if_neg (by simp)];exact r2
   have vL:X.ownsRow (w1.heap.size+1) 5 1 (.slice va vn vk) ((vN t).length+(vW t).length) (vy (vN t++vW t)):=by
    rw[←hX];exact xh (xh (xh HO.out (p:=⟨A,0,none⟩) (fun e=>by have:=(HO.out.lt A e.symm).1;omega) _) (p:=⟨A,1,none⟩) (fun e=>by have:=(HO.out.lt A e.symm).1;omega) _) (p:=⟨A,2,none⟩) (fun e=>by have:=(HO.out.lt A e.symm).1;omega) _
   have hfX:Fr (fun k=>k=A) (fun k=>k=A) w1 X:=by
    rw[←hX];exact(((HFZ.out.wide (G:=fun k=>k=A) (fun _ q=>q.elim)).set (a:=⟨A,0,none⟩) _ (.inl rfl)).set (a:=⟨A,1,none⟩) _ (.inl rfl)).set (a:=⟨A,2,none⟩) _ (.inl rfl)
   rw[hX];have f0:=fun ob=>xG x0 ob
   have f1:=fun ob=>xG x1 ob
   have f2:=fun ob=>xG x2 ob
   clear hX;refine bodyPost_ret (v := .agg #[.bool (fI t),.slice va vn vk,.int .i64 ((vW t).length:Nat)]) ?_ rfl ?_
   ·simp[results,results129,go_sem,f0,f1,f2]
   ·rw[HW.out];obtain⟨d1,d2,hw,h30⟩:=KJ HN.out;have hn:=fun ob=>R9 (fI t) (vL.alloc ob) d1 d2 hw h30
    refine⟨⟨_,rfl,?_,h30⟩,Xa.more HG.out HI.out (hfX.alloc _) (fun k hk=>by subst hk;exact⟨HSA.out,by omega⟩)⟩;refine(hn _).fr (Fr.refl xS _) (fun _ q=>q.elim) (fun k hk => .inl ?_);rcases hk with hk|hk
    ·show k<w1.heap.size+1;omega
    ·have:=HG.out.E0 s' w1 k HI.out.1 hk;show k<w1.heap.size+1;omega
end
def Ov(o:Option Nat):Int:=match o with|some k=>((k:Nat):Int)|none=>-1
theorem Ff(q mb n p:Nat)(f:Nat->Option Nat)(w:World)(q2:w.cell? ⟨q,2,none⟩=some (.map (some mb)))(hm:ZV w mb n f)(hp:p<=4000000000) :
  Calls Tryz.prog 135 #[.pointer (some ⟨q,0,none⟩),.int .i64 (p:Nat)] w fun e w'=>e = .returned (.int .i64 (Ov (f p)))/\w=w':=by
 have Vd:=hm.look p hp;obtain⟨o,ho⟩:∃ o,f p=o:=⟨_,rfl⟩;rw[ho] at Vd ⊢;clear ho hm
 cases o with
 | none =>
  go_enter func135,ntmps135;go_wp2;go_ret;exact⟨rfl,rfl⟩
 | some k =>
  go_enter func135,ntmps135;go_wp2;go_ret;exact⟨rfl,rfl⟩
section
variable {b:Nat} {x0 x2 st v:Value} {l:Wd} {w:World}
theorem TU{g:Nat}{nv:Value}{n:vv}{t:Wd}(h:qj b x0 (.pointer (some ⟨g,0,none⟩)) x2 st v l w)(hn:gp (fun _=>False) w nv n)(hw:∀ W,Below w.heap.size w W->Calls Tryz.prog 45 #[.pointer (some ⟨g,0,none⟩),nv] W fun e w'=>e = .returned (xf t)/\Below W.heap.size W w')(hlen:l.length+t.length<=1000000000) :
  Calls Tryz.prog 128 #[.pointer (some ⟨b,0,none⟩),nv] w fun e w'=>e = .returned (.tuple #[])/\GD b x0 (.pointer (some ⟨g,0,none⟩)) x2 st v (l++t) w w':=by
 obtain⟨gd,o,cap,rfl,-⟩:=hn;obtain⟨L,hL⟩:∃ L,n.2.1.length+n.2.2.length=L:=⟨_,rfl⟩;obtain⟨k,hk⟩:∃ k,n.2.2.length=k:=⟨_,rfl⟩;rw[hL,hk] at hw ⊢;obtain⟨A,hA⟩:∃ A,w.heap.size=A:=⟨_,rfl⟩;obtain⟨W,hW⟩:∃ W,w.alloc (.cells #[.bool n.1,.slice (some ⟨gd,o,none⟩) L cap,.int .i64 (k:Nat)] 97)=W:=⟨_,rfl⟩;have hb:Below w.heap.size w W:=by rw[←hW];exact(zL _ _).alloc (zG _) _
 have JX:Fr xS xS w W:=Fr.of hb;have hc:∀ j,W.cell? ⟨A,j,none⟩=(#[zR n.1,.slice (some ⟨gd,o,none⟩) L cap,.int .i64 (k:Nat)]:Array Value)[j]? := fun j=>by rw[←hW,←hA];exact xq _ _ _ _ _
 have e0:=hc 0;have e1:=hc 1;have e2:=hc 2;simp only[zZ,zk,zj] at e0 e1 e2;have hOW:=h.fr JX id (fun _ _ q=>q);have b1:=hOW.cell.2.1;have Us:=z7 (hw W.drew (hb.trans ⟨rfl,rfl,rfl,zG _,fun _ _=>rfl⟩));have IZ:=z7 hOW;have D6:=z7 JX;obtain⟨nb,CS⟩:∃ nb,n.1=nb:=⟨_,rfl⟩;rw[CS] at e0 hW Us ⊢;clear h hw hb hc hOW JX hL hk CS;go_enter func128,ntmps128;go_wp2_with fail;try rw[hW]
 clear hW hA;refine rk (fun W':World=>W'.cell? ⟨b,1,none⟩=some (.pointer (some ⟨g,0,none⟩))/\W'.cell? ⟨A,0,none⟩=some (.bool nb)/\W'.cell? ⟨A,1,none⟩=some (.slice (some ⟨gd,o,none⟩) L cap)/\W'.cell? ⟨A,2,none⟩=some (.int .i64 (k:Nat))) 9 (zX 8) 2 ⟨b1,e0,e1,e2⟩ ?_;(iterate 8 (refine ty ?_;try simp only[pl]))
 refine xk ?_;refine xM 8 (by kernel_rfl) rfl (fun J hJ=>?_);go_simp;refine Us.out.mono ?_;rintro e w1 ⟨rfl,xH⟩;have uZ:Fr xS xS W w1:=(Fr.of xH).und;refine hJ.out _ _ ⟨uZ.cell b1 id,uZ.cell e0 id,uZ.cell e1 id,uZ.cell e2 id⟩ fun _=>?_
 clear hJ J;have WJ:=z7 (Kv t (IZ.out.fr uZ id (fun _ _ q=>q)) hlen);have UU:=z7 uZ;clear uZ xH Us;refine vu 9 (by kernel_rfl) (by kernel_rfl) rfl (fun J hJ=>?_);go_simp;refine WJ.out.mono ?_;rintro e w2 ⟨⟨u,rfl⟩,D7⟩;refine hJ.out _ _ ?_;clear hJ J;refine vq (by kernel_rfl) ?_ _;have HW2:=z7 D7;clear D7 WJ;go_wp2;go_end0
 obtain⟨v',h1,h2⟩:=HW2.out;exact⟨rfl,v',h1,((D6.out.trans UU.out).wide (G:=U7 b v) (fun _ q=>q.elim)).trans h2⟩
end
def fX(M:Nat->Prop)(w:World):List (vv×vv)->List Value->Prop
 | [],cs=>cs=[]
 |(n,z)::r,cs=>∃ nb g o m c k zb g' o' m' c' k' t,cs=(VK nb g o m c k++VK zb g' o' m' c' k')++t/\gp M w (L0 nb g o m c k) n/\gp M w (L0 zb g' o' m' c' k') z/\fX M w r t
theorem fX.len{M:Nat->Prop}{w:World}:∀ {r:List (vv×vv)} {cs:List Value},fX M w r cs->cs.length=r.length*6
 | [],cs,h=>by rw[show cs=[] from h];rfl
 | p::r,cs,h=>by
  obtain⟨nb,g,o,m,c,k,zb,g',o',m',c',k',t,rfl,_,_,ht⟩:=h;have:=fX.len ht;simp[VK,this];omega
theorem fX.fr{M M' F F':Nat->Prop}{w w':World}(hf:Fr F F' w w')(hF:∀ k,F k->M k)(hM:∀ k,M' k->M k\/w.heap.size<=k):∀ {r:List (vv×vv)} {cs:List Value},fX M w r cs->fX M' w' r cs
 | [],cs,h=>h
 | p::r,cs,h=>by
  obtain⟨nb,g,o,m,c,k,zb,g',o',m',c',k',t,rfl,h1,h2,ht⟩:=h;exact⟨nb,g,o,m,c,k,zb,g',o',m',c',k',t,rfl,h1.fr hf hF hM,h2.fr hf hF hM,fX.fr hf hF hM ht⟩
theorem fX.snoc{M:Nat->Prop}{w:World}{n z:vv}{nb zb:Bool}{g o m c k g' o' m' c' k':Nat}(h1:gp M w (L0 nb g o m c k) n)(h2:gp M w (L0 zb g' o' m' c' k') z):∀ {r:List (vv×vv)} {cs:List Value},fX M w r cs->fX M w (r++[(n,z)]) (cs++(VK nb g o m c k++VK zb g' o' m' c' k'))
 | [],cs,h=>by rw[show cs=[] from h];exact⟨nb,g,o,m,c,k,zb,g',o',m',c',k',[],by simp,h1,h2,rfl⟩
 | p::r,cs,h=>by
  obtain⟨wu,g1,o1,m1,c1,k1,zb',g2,o2,m2,c2,k2,t,rfl,a1,a2,ht⟩:=h;exact⟨wu,g1,o1,m1,c1,k1,zb',g2,o2,m2,c2,k2,_,by rw[yx],a1,a2,fX.snoc h1 h2 ht⟩
theorem fX.last{M:Nat->Prop}{w:World}{n z:vv}:∀ {r:List (vv×vv)} {cs:List Value},fX M w (r++[(n,z)]) cs->∃ Rz nb g o m c k zb g' o' m' c' k',cs=Rz++(VK nb g o m c k++VK zb g' o' m' c' k')/\fX M w r Rz/\gp M w (L0 nb g o m c k) n/\gp M w (L0 zb g' o' m' c' k') z
 | [],cs,h=>by
  obtain⟨nb,g,o,m,c,k,zb,g',o',m',c',k',t,rfl,h1,h2,ht⟩:=h;rw[show t=[] from ht];exact⟨[],nb,g,o,m,c,k,zb,g',o',m',c',k',by simp,rfl,h1,h2⟩
 | p::r,cs,h=>by
  obtain⟨nb,g,o,m,c,k,zb,g',o',m',c',k',t,rfl,h1,h2,ht⟩:=h;obtain⟨Rz,wu,g1,o1,m1,c1,k1,zb',g2,o2,m2,c2,k2,rfl,a0,a1,a2⟩:=fX.last ht;exact⟨_,wu,g1,o1,m1,c1,k1,zb',g2,o2,m2,c2,k2,by simp only[yx],⟨nb,g,o,m,c,k,zb,g',o',m',c',k',Rz,rfl,h1,h2,a0⟩,a1,a2⟩
abbrev Fb(b:Nat)(v st:Value)(Sx:Nat->Prop)(k:Nat):Prop:=k=b\/xU v k\/xU st k\/Sx k
section
variable {τ:Type}
def uz(b A0 q g:Nat)(gv:Value)(G:Nat->Prop)(F S:τ->Nat->Prop)(Inv:τ->World->Prop)(r:bh τ)(w:World):Prop :=
 ∃ v st cs,qj b (.pointer (some ⟨q,0,none⟩)) (.pointer (some ⟨g,0,none⟩)) gv st v r.out w/\w.ownsRow 0 272 6 st r.stk.length cs/\fX (Fb b v st (S r.gs)) w r.stk cs/\Inv r.gs w /\
  st.ownBlock≠some b/\(∀ k,xU v k->¬xU st k)/\(∀ k,S r.gs k->(k+2<b\/b<k)/\¬xU v k/\¬xU st k)/\(∀ k,xU v k\/xU st k->A0<=k)/\∀ k,F r.gs k->G k
structure bY(w0:World)(A0 b:Nat)(G:Nat->Prop)(q mb g:Nat)(s:MkS)(vC vI:Value)(rs:List (Value×Value))(gv:Value)(E:qq τ)(F S:τ->Nat->Prop)(Inv:τ->World->Prop):Prop where
 prog:∀ W,Fr G G w0 W->jZ q s vC vI rs mb W
 wr:∀ W nv n,Fr G G w0 W->gp (fun _=>False) W nv n->Calls Tryz.prog 45 #[.pointer (some ⟨g,0,none⟩),nv] W fun e w'=>e = .returned (xf (E.wr n))/\Below W.heap.size W w'
 wrl:∀ n:vv,Io n.2->(E.wr n).length<=5000
 set:∃ cv ov,(∀ W,Fr G G w0 W->W.cell? ⟨g,0,none⟩=some cv/\W.cell? ⟨g,1,none⟩=some ov) /\
  (∀ W nv d,Fr G G w0 W->uh W nv d->Calls Tryz.prog 60 #[cv,nv] W fun e w'=>e = .returned (.int .i64 (E.sort false d))/\Below W.heap.size W w') /\
  ∀ W nv d,Fr G G w0 W->uh W nv d->Calls Tryz.prog 60 #[ov,nv] W fun e w'=>e = .returned (.int .i64 (E.sort true d))/\Below W.heap.size W w'
 srt:∀ b d,E.sort b d<6
 get:Cw gv E F S Inv
 n1:s.code.length<=1000000
 n2:s.cs.length<=1000000
 n3:∀ t∈s.cs,t.length<=5000
 n4:∀ x∈s.code,x.v<=1000000000/\∀ y∈x.tg,y<=4000000000
 gA:∀ k,A0<=k->G k
 gb:A0<=b
def VmQ(b A0 q g:Nat)(gv:Value)(G:Nat->Prop)(F S:τ->Nat->Prop)(Inv:τ->World->Prop)(r0:bh τ)(_:Nat)(r:bh τ)(w:World):Prop:=uz b A0 q g gv G F S Inv r w/\r.out.length<=r0.out.length+5000/\r.stk.length<=r0.stk.length+1
def E8(Inv:τ->World->Prop)(S:τ->Nat->Prop)(b:Nat)(r:bh τ)(w:World):Prop:=Inv r.gs w/\∀ k,S r.gs k->k+2<b\/b<k
section
variable {w0 W:World} {A0 b q mb g k:Nat} {G:Nat->Prop} {s:MkS} {vC vI gv:Value} {rs:List (Value×Value)} {E:qq τ} {F S:τ->Nat->Prop} {Inv:τ->World->Prop} {r:bh τ} {x:jC}
theorem uz.quiet(hE:bY w0 A0 b G q mb g s vC vI rs gv E F S Inv){w w':World}(h:uz b A0 q g gv G F S Inv r w)(hf:Fr xS xS w w'):uz b A0 q g gv G F S Inv r w':=by
 obtain⟨v,st,cs,hO,vR,fP,hi,ZT,Yr,hS,hA,hF⟩:=h;exact⟨v,st,cs,hO.fr hf id (fun _ _ q=>q),hf.own vR (fun _ _ q=>q),fX.fr hf (fun _ q=>q.elim) (fun _ q => .inl q) fP,hE.get.fr hi hf (fun _ q=>q.elim),ZT,Yr,hS,hA,hF⟩
theorem uz.asked(hE:bY w0 A0 b G q mb g s vC vI rs gv E F S Inv){w w':World}(h:uz b A0 q g gv G F S Inv r w){s':τ}(hq:Inv s' w'/\Fr (F r.gs) (F s') w w'/\∀ k,S s' k->S r.gs k\/w.heap.size<=k) :
  uz b A0 q g gv G F S Inv { r with gs:=s' } w'/\Fr G G w w'/\∀ k,Fb b (.slice none 0 0) (.slice none 0 0) (S s') k->k=b\/S r.gs k\/w.heap.size<=k:=by
 obtain⟨v,st,cs,hO,vR,fP,hi,ZT,Yr,hS,hA,hF⟩:=h;obtain⟨hi',hf,WD⟩:=hq;have xC:=hO.lt;have nb:¬F r.gs b:=fun q=>by have:=(hS b (hE.get.sub _ _ q)).1;omega
 have nv:∀ k,xU v k->¬F r.gs k:=fun k hk q=>(hS k (hE.get.sub _ _ q)).2.1 hk
 have nst:∀ k,xU st k->¬F r.gs k:=fun k hk q=>(hS k (hE.get.sub _ _ q)).2.2 hk
 refine⟨⟨v,st,cs,hO.fr hf nb nv,hf.own vR nst,fX.fr hf (fun k hk => .inr (.inr (.inr (hE.get.sub _ _ hk)))) (fun k hk=>?_) fP,hi',ZT,Yr,fun k hk=>?_,hA,fun k hk=>?_⟩,?_,fun k hk=>?_⟩
 ·rcases hk with h|h|h|h
  ·exact .inl (.inl h)
  ·exact .inl (.inr (.inl h))
  ·exact .inl (.inr (.inr (.inl h)))
  ·exact(WD k h).imp (fun q => .inr (.inr (.inr q))) id
 ·rcases WD k hk with h|h
  ·exact hS k h
  ·exact⟨by omega,fun q=>by have:=ur hO.row q;omega,fun q=>by have:=ur vR q;omega⟩
 ·rcases hf.fp k hk with h|h
  ·exact hF k h
  ·exact hE.gA k (by have:=hE.gb;omega)
 ·exact(hf.tg (F'':=F r.gs) (fun k hk => .inl hk)).wide (fun k hk=>hF k hk)
 ·rcases hk with h|h|h|h
  ·exact .inl h
  ·cases h
  ·cases h
  ·exact .inr (WD k h)
theorem uz.wrote(hE:bY w0 A0 b G q mb g s vC vI rs gv E F S Inv){w w':World}{v st:Value}{cs:List Value}{t:Wd}(vR:w.ownsRow 0 272 6 st r.stk.length cs)(fP:fX (Fb b v st (S r.gs)) w r.stk cs)(hi:Inv r.gs w)(ZT:st.ownBlock≠some b)(Yr:∀ k,xU v k->¬xU st k)
  (hS:∀ k,S r.gs k->(k+2<b\/b<k)/\¬xU v k/\¬xU st k) (hA:∀ k,xU v k\/xU st k->A0<=k) (hF:∀ k,F r.gs k->G k) (xC:b<w.heap.size) (hq:GD b (.pointer (some ⟨q,0,none⟩)) (.pointer (some ⟨g,0,none⟩)) gv st v (r.out++t) w w') :
  uz b A0 q g gv G F S Inv { r with out:=r.out++t } w'/\Fr G G w w':=by
 obtain⟨v',hO',hf⟩:=hq;have nst:∀ k,xU st k->¬U7 b v k:=fun k hk q=>q.elim (fun e=>ZT (by rw[←e];exact hk)) (fun e=>Yr k e hk)
 have AX:∀ k,xU v' k->xU v k\/w.heap.size<=k:=fun k hk=>(hf.fp k (.inr hk)).elim (fun q=>q.elim (fun e=>absurd (show v'.ownBlock=some b by rw[←e];exact hk) (by obtain⟨_,_,_,_,h,_⟩:=hO';exact h)) .inl) .inr
 refine⟨⟨v',st,cs,hO',hf.own vR nst,fX.fr hf (fun k hk=>hk.elim .inl (fun h => .inr (.inl h))) (fun k hk=>?_) fP,hE.get.fr hi hf (fun k hk q=>hk.elim (fun e=>by have:=(hS k q).1;omega) (fun e=>(hS k q).2.1 e)),ZT,fun k hk=>?_,fun k hk=>?_,fun k hk=>?_,hF⟩,?_⟩
 ·rcases hk with h|h|h|h
  ·exact .inl (.inl h)
  ·exact(AX k h).imp (fun q => .inr (.inl q)) id
  ·exact .inl (.inr (.inr (.inl h)))
  ·exact .inl (.inr (.inr (.inr h)))
 ·rcases AX k hk with h|h
  ·exact Yr k h
  ·exact fun q=>by have:=ur vR q;omega
 ·refine⟨(hS k hk).1,fun q=>?_,(hS k hk).2.2⟩;rcases AX k q with h|h
  ·exact(hS k hk).2.1 h
  ·have:=hE.get.E0 r.gs w k hi hk;omega
 ·rcases hk with h|h
  ·rcases AX k h with h|h
   ·exact hA k (.inl h)
   ·have:=hE.gb;omega
  ·exact hA k (.inr h)
 ·exact(hf.tg (F'':=U7 b v) (fun k hk => .inl hk)).wide (fun k hk=>hE.gA k (hk.elim (fun e=>by rw[e];exact hE.gb) (fun e=>hA k (.inl e))))
theorem uz.Ry(hE:bY w0 A0 b G q mb g s vC vI rs gv E F S Inv){w w':World}{v st:Value}{cs:List Value}{stk:List (vv×vv)}{n:Nat}(vR:w.ownsRow 0 272 6 st n cs){Rz:List Value}(fP:fX (Fb b v st (S r.gs)) w stk Rz)(hi:Inv r.gs w)
  (hS:∀ k,S r.gs k->(k+2<b\/b<k)/\¬xU v k/\¬xU st k) (hA:∀ k,xU v k\/xU st k->A0<=k) (hF:∀ k,F r.gs k->G k) (xC:b<w.heap.size) (hq:L5 b (.pointer (some ⟨q,0,none⟩)) (.pointer (some ⟨g,0,none⟩)) gv st v r.out stk.length Rz w w') :
  uz b A0 q g gv G F S Inv { r with stk:=stk } w'/\Fr G G w w':=by
 obtain⟨R8,a1,a2,a3,a4,a5⟩:=hq;have hm:∀ j,Fb b v R8 (S r.gs) j->Fb b v st (S r.gs) j\/w.heap.size<=j:=by
  intro j hj;rcases hj with h|h|h|h
  ·exact .inl (.inl h)
  ·exact .inl (.inr (.inl h))
  ·rcases a5.fp j (.inr h) with(h|h)|h
   ·exact .inl (.inl h)
   ·exact .inl (.inr (.inr (.inl h)))
   ·exact .inr h
  ·exact .inl (.inr (.inr (.inr h)))
 have Kb:∀ j,pP b st j->Fb b v st (S r.gs) j:=fun j hj=>hj.elim .inl (fun h => .inr (.inr (.inl h)))
 have hl:=hE.get.E0 r.gs w;refine⟨⟨v,R8,Rz,a1,a2,fX.fr a5 Kb hm fP,hE.get.fr hi a5 (fun j hj=>?_),a3,a4,fun j hj=>⟨(hS j hj).1,(hS j hj).2.1,fun h=>?_⟩,fun j hj=>?_,hF⟩,?_⟩
 ·rcases hj with rfl|h
  ·exact fun q=>by have:=(hS _ q).1;omega
  ·exact fun q=>(hS _ q).2.2 h
 ·rcases a5.fp j (.inr h) with(h|h)|h
  ·have:=(hS j hj).1;omega
  ·exact(hS j hj).2.2 h
  ·have:=hl j hi hj;omega
 ·rcases hj with h|h
  ·exact hA j (.inl h)
  ·rcases a5.fp j (.inr h) with(h|h)|h
   ·rw[h];exact hE.gb
   ·exact hA j (.inr h)
   ·have:=hE.gb;omega
 ·exact(a5.tg (F'':=pP b st) (fun k hk => .inl hk)).wide (fun j hj=>hE.gA j (hj.elim (fun h=>by rw[h];exact hE.gb) (fun h=>hA j (.inr h))))
theorem Ou(hE:bY w0 A0 b G q mb g s vC vI rs gv E F S Inv)(hf:Fr G G w0 W)(hR:uz b A0 q g gv G F S Inv r W)(hk:s.code[k]? = some x)(uR:x.op=5){stk:List (vv×vv)}{tp:vv×vv}(hs:r.stk=stk++[tp])(dm:r.stk.length<=1000000) :
  Calls Tryz.prog 87 #[.pointer (some ⟨b,0,none⟩),.int .i64 (k:Nat)] W fun e w'=>e = .returned (.int .i64 ((k+1:Nat):Int))/\VmQ b A0 q g gv G F S Inv r (k+1) { r with stk:=stk } w'/\Fr G G W w':=by
 have hp:=hE.prog W hf;obtain⟨I,ic,kv,tv,q1,lt,i0,-⟩:=hp.ins hk;rw[uR] at i0;obtain⟨v,st,cs,hO,vR,fP,hi,ZT,Yr,hS,hA,hF⟩:=hR;obtain⟨tn,tz⟩:=tp;rw[hs] at fP vR;obtain⟨Rz,nb,g1,o1,m1,c1,k1,zb,g2,o2,m2,c2,k2,rfl,X8,-,-⟩:=fP.last;have hlen:(stk++[(tn,tz)]).length=stk.length+1:=by simp
 rw[hlen] at vR;have hn:stk.length<=1000000:=by rw[hs,hlen] at dm;omega
 have HP:=z7 (pR hO vR X8.len ZT Yr hn);have b0:=hO.cell.1;obtain⟨n,hN⟩:∃ n,s.code.length=n:=⟨_,rfl⟩;rw[hN] at q1 lt;have ZK:=hE.n1;rw[hN] at ZK;have k3:(k:Int)<(n:Int):=by omega
 have HH:=z7 (z8 vR (z8 X8 (z8 hi (z8 hS (z8 hA hF)))));have HE:=z7 hE;have HS:=z7 (z8 hs hO.lt);clear hE hf hp hk uR hO vR fP hi ZT Yr hS hA hF hs hlen X8 hN dm;go_enter func87,ntmps87;go_wp2_with fail;refine HP.out.mono ?_;rintro e w1 ⟨rfl,hq⟩;have HQ:=z7 hq;clear hq HP;go_wp2;go_ret;obtain⟨h0,h1,h2,h3,h4,h5⟩:=HH.out;obtain⟨hr,YY⟩:=uz.Ry HE.out h0 h1 h2 h3 h4 h5 HS.out.2 HQ.out;exact⟨by first|rfl|simp,⟨hr,zl _ _,by rw[HS.out.1];simp;omega⟩,YY⟩
end
end
theorem Ug(a0 a3:Bool)(p:Addr)(n c:Nat)(k:Int)(p':Addr)(n' c':Nat)(k':Int)(w:World):(Instr.field 272 (.agg #[.bool a0,.slice (some p) n c,.int .i64 k,.bool a3,.slice (some p') n' c',.int .i64 k']) 1).run Tryz.prog w = .ok (.agg #[.bool a3,.slice (some p') n' c',.int .i64 k']) w:=by kernel_rfl
theorem L7(a0 a3:Bool)(p:Addr)(n c:Nat)(k:Int)(p':Addr)(n' c':Nat)(k':Int)(w:World):(Instr.field 272 (.agg #[.bool a0,.slice (some p) n c,.int .i64 k,.bool a3,.slice (some p') n' c',.int .i64 k']) 0).run Tryz.prog w = .ok (.agg #[.bool a0,.slice (some p) n c,.int .i64 k]) w:=by kernel_rfl
theorem gp.any{M:Nat->Prop}{w:World}{v:Value}{n:vv}(h:gp M w v n):gp (fun _=>False) w v n:=h.fr (Fr.refl xS _) (fun _ q=>q.elim) (fun _ q=>q.elim)
theorem gp.ok{M:Nat->Prop}{w:World}{v:Value}{n:vv}(h:gp M w v n):Io n.2:=by
 obtain⟨_,_,_,_,_,_,_,_,_,h⟩:=h;exact h
section
variable {τ:Type} {w0 W:World} {A0 b q mb g k:Nat} {G:Nat->Prop} {s:MkS} {vC vI gv:Value} {rs:List (Value×Value)} {E:qq τ} {F S:τ->Nat->Prop} {Inv:τ->World->Prop} {r:bh τ} {x:jC}
theorem FZ(hE:bY w0 A0 b G q mb g s vC vI rs gv E F S Inv)(hf:Fr G G w0 W)(hR:uz b A0 q g gv G F S Inv r W){nv:Value}{n:vv}{M:Nat->Prop}(hn:gp M W nv n)(hlen:r.out.length<=900000000) :
  Calls Tryz.prog 128 #[.pointer (some ⟨b,0,none⟩),nv] W fun e w'=>e = .returned (.tuple #[])/\uz b A0 q g gv G F S Inv { r with out:=r.out++E.wr n } w'/\Fr G G W w':=by
 obtain⟨v,st,cs,hO,vR,fP,hi,ZT,Yr,hS,hA,hF⟩:=hR;have hl:=hE.wrl n hn.ok;refine(TU hO hn.any (fun W' hW'=>hE.wr W' nv n (hf.trans ((Fr.of hW').wide (F:=xS) (fun _ q=>q.elim))) (hn.any.fr (Fr.of (F:=xS) hW') (fun _ q=>q.elim) (fun _ q=>q.elim))) (by omega)).mono ?_;rintro e w' ⟨he,hq⟩;exact⟨he,uz.wrote hE vR fP hi ZT Yr hS hA hF hO.lt hq⟩
theorem TQ(hE:bY w0 A0 b G q mb g s vC vI rs gv E F S Inv)(hf:Fr G G w0 W)(hR:uz b A0 q g gv G F S Inv r W)(hk:s.code[k]? = some x)(uR:x.op=6){stk:List (vv×vv)}{tp:vv×vv}(hs:r.stk=stk++[tp])(dm:r.stk.length<=1000000)(hlen:r.out.length<=900000000) :
  Calls Tryz.prog 87 #[.pointer (some ⟨b,0,none⟩),.int .i64 (k:Nat)] W fun e w'=>e = .returned (.int .i64 ((k+1:Nat):Int))/\VmQ b A0 q g gv G F S Inv r (k+1) { r with out:=r.out++E.wr tp.2 } w'/\Fr G G W w':=by
 obtain⟨I,ic,kv,tv,q1,lt,i0,-⟩:=(hE.prog W hf).ins hk;rw[uR] at i0;have mL:=hR;obtain⟨v,st,cs,hO,vR,fP,hi,ZT,Yr,hS,hA,hF⟩:=hR;obtain⟨tn,tz⟩:=tp;have Ys:(stk++[(tn,tz)]).length=stk.length+1:=by simp
 rw[hs] at fP vR dm;rw[Ys] at vR dm;obtain⟨Rz,nb,g1,o1,m1,c1,k1,zb,g2,o2,m2,c2,k2,rfl,X8,-,hz⟩:=fP.last;have HT:=z7 (JW hO nb zb g1 o1 m1 c1 k1 g2 o2 m2 c2 k2 vR X8.len (by omega));have b0:=hO.cell.1;have ZK:=hE.n1;obtain⟨n,hN⟩:∃ n,s.code.length=n:=⟨_,rfl⟩;rw[hN] at q1 lt ZK;have k3:(k:Int)<(n:Int):=by omega
 have eX:=Ug;have JC:=fun (W':World) (hb:Below W.heap.size W W')=>FZ hE (hf.trans ((Fr.of hb).wide (F:=xS) (fun _ q=>q.elim))) (mL.quiet hE (Fr.of hb)) (hz.any.fr (Fr.of (F:=xS) hb) (fun _ q=>q.elim) (M':=fun _=>False) (fun _ q=>q.elim)) hlen
 have pT:=z7 JC;have HE:=z7 hE;have HW:=z7 (hE.wrl tz hz.ok);clear hE hf hk uR hO vR fP hi ZT Yr hS hA hF hs X8 hN mL JC dm hlen Ys;go_enter func87,ntmps87;go_wp2_with fail;refine HT.out.mono ?_;rintro e w1 ⟨rfl,xH⟩;have HX:=z7 (pT.out w1 xH);have HB:=z7 xH;clear HT xH pT;go_wp2_with fail;refine HX.out.mono ?_;rintro e w2 ⟨rfl,hr,vF⟩;have HR:=z7 (z8 hr vF);clear hr vF HX;go_wp2;go_ret;refine⟨by first|rfl|simp,⟨HR.out.1,by have:=HW.out;simp;omega,by simp⟩,((Fr.of HB.out).wide (F:=xS) (fun _ q=>q.elim)).trans HR.out.2⟩
end
section
variable {τ:Type} {w0 W:World} {A0 b q mb g k:Nat} {G:Nat->Prop} {s:MkS} {vC vI gv:Value} {rs:List (Value×Value)} {E:qq τ} {F S:τ->Nat->Prop} {Inv:τ->World->Prop} {r:bh τ} {x:jC}
theorem uz.err(hE:bY w0 A0 b G q mb g s vC vI rs gv E F S Inv){w w':World}(h:uz b A0 q g gv G F S Inv r w){s':τ}(hq:Inv s' w'/\Fr (F r.gs) (F s') w w'/\∀ k,S s' k->S r.gs k\/w.heap.size<=k) :
  E8 Inv S b { r with gs:=s' } w'/\Fr G G w w':=by
 obtain⟨h1,h2,h3⟩:=uz.asked hE h hq;obtain⟨v,st,cs,hO,vR,fP,hi,ZT,Yr,hS,hA,hF⟩:=h1;exact⟨⟨hi,fun k hk=>(hS k hk).1⟩,h2⟩
theorem Z8{n:Wd}(h:Y7 s x=some n):∃ j,x.k[0]? = some j/\s.cs[j]? = some n:=by
 unfold Y7 at h
 cases hx:x.k[0]? with
 | none=>rw[hx] at h;cases h
 | some j=>rw[hx] at h;exact⟨j,rfl,h⟩
theorem eE(hE:bY w0 A0 b G q mb g s vC vI rs gv E F S Inv)(hf:Fr G G w0 W)(hR:uz b A0 q g gv G F S Inv r W)(hk:s.code[k]? = some x)(uR:x.op=1){t:Wd}(hc:Y7 s x=some t)(hlen:r.out.length<=900000000) :
  Calls Tryz.prog 87 #[.pointer (some ⟨b,0,none⟩),.int .i64 (k:Nat)] W fun e w'=>e = .returned (.int .i64 ((k+1:Nat):Int))/\VmQ b A0 q g gv G F S Inv r (k+1) { r with out:=r.out++t } w'/\Fr G G W w':=by
 obtain⟨j,hj,ht⟩:=Z8 hc;obtain⟨v,st,cs,hO,vR,fP,hi,ZT,Yr,hS,hA,hF⟩:=hR;have h3:=hE.n3 t (zy ht);refine(SJ hO (hE.prog W hf) hk uR hj ht hE.n1 hE.n2 (by omega)).mono ?_;rintro e w' ⟨rfl,hq⟩;obtain⟨hr,YY⟩:=uz.wrote hE vR fP hi ZT Yr hS hA hF hO.lt hq;exact⟨rfl,⟨hr,by simp;omega,za _⟩,YY⟩
def Oq(b A0 q g:Nat)(gv:Value)(G:Nat->Prop)(F S:τ->Nat->Prop)(Inv:τ->World->Prop)(r:bh τ)(k:Nat){α:Type}(fn:α->τ->bh τ)(res:Except (Nat×τ) (α×τ))(W:World)(e:Ending)(w':World):Prop :=
 (match res with
  | .ok (a,s')=>e = .returned (.int .i64 ((k+1:Nat):Int))/\VmQ b A0 q g gv G F S Inv r (k+1) (fn a s') w'
  | .error (n,s')=>zk9 n e/\E8 Inv S b { r with gs:=s' } w')/\Fr G G W w'
theorem L8(hE:bY w0 A0 b G q mb g s vC vI rs gv E F S Inv)(hf:Fr G G w0 W)(hR:uz b A0 q g gv G F S Inv r W)(hk:s.code[k]? = some x)(uR:x.op=3){t:Wd}(hc:Y7 s x=some t)(hlen:r.out.length<=900000000) :
  Calls Tryz.prog 87 #[.pointer (some ⟨b,0,none⟩),.int .i64 (k:Nat)] W (Oq b A0 q g gv G F S Inv r k (fun v s'=>{ r with out:=r.out++E.wr v,gs:=s' }) (ZW E t r.gs) W):=by
 obtain⟨j,hj,ht⟩:=Z8 hc;have hp:=hE.prog W hf;obtain⟨I,ic,kv,tv,q1,lt,i0,-,i3,-,kr,-⟩:=hp.ins hk;obtain⟨C,cc,q0,cj,K3⟩:=hp.mO ht;obtain⟨K,kc,rfl,kj,M0⟩:=kr.at_ hj;have h3:=hE.n3 t (zy ht);have ZK:=hE.n1;have dE:=hE.n2;obtain⟨n,hN⟩:∃ n,s.code.length=n:=⟨_,rfl⟩;obtain⟨m,hM⟩:∃ m,s.cs.length=m:=⟨_,rfl⟩;obtain⟨z,hZ⟩:∃ z,x.k.length=z:=⟨_,rfl⟩;rw[hN] at q1 lt ZK;rw[hM] at q0 K3 dE;rw[hZ] at i3 M0;rw[uR] at i0;have mL:=hR;obtain⟨v,st,cs,hO,vR,fP,hi,ZT,Yr,hS,hA,hF⟩:=hR;have b0:=hO.cell.1;have Xc:DO b q j t W:=⟨b0,C,m,cc,q0,cj,K3,dE⟩;have M9:=z7 (L6 hE.get b q j t r.gs W hO.cell.2.2.1 Xc hi (by omega));have k1:(k:Int)<(n:Int):=by omega
 have k3:(0:Int)<(z:Int):=by omega
 obtain⟨res,vP⟩:∃ res,ZW E t r.gs=res:=⟨_,rfl⟩;rw[vP] at M9 ⊢;have HE:=z7 hE;have HR:=z7 mL;have HF:=z7 hf;have HL:=z7 hlen;clear hE hf hp hk uR hO vR fP hi ZT Yr hS hA hF hN hM hZ kr hj ht hc mL Xc vP hlen;go_enter func87,ntmps87;go_wp2_with fail;refine M9.out.mono ?_;intro e w1 hq
 cases res with
 | error er =>
  obtain⟨c,s'⟩:=er;obtain⟨⟨uM,rfl,hold⟩,hI⟩:=hq;obtain⟨h1,h2⟩:=uz.err HE.out HR.out hI;have HQ:=z7 (show Oq b A0 q g gv G F S Inv r k (fun v s'=>{ r with out:=r.out++E.wr v,gs:=s' }) (.error (c,s'):Except (Nat×τ) (vv×τ)) W (.panicked ({ v:=ql c,recovered:=false }::uM)) w1 from⟨⟨⟨uM,rfl,hold⟩,h1⟩,h2⟩);clear hold hI M9 h1 h2;go_wp2;exact⟨rfl,HQ.out⟩
 | ok p =>
  obtain⟨nn,s'⟩:=p;obtain⟨⟨nv,rfl,lh,qs⟩,hI⟩:=hq;obtain⟨h1,h2,-⟩:=uz.asked HE.out HR.out hI;have pT:=z7 (FZ HE.out (HF.out.trans h2) h1 lh HL.out);have Jd:=z7 h2;have HWL:=z7 (HE.out.wrl nn lh.ok);obtain⟨gd,o,cap,rfl,-⟩:=lh;clear hI M9 h1 h2;go_wp2_with fail;refine pT.out.mono ?_;rintro e w2 ⟨rfl,hr,vF⟩;have gI:=z7 (z8 hr vF);clear hr vF pT;go_wp2;go_ret;exact⟨⟨by first|rfl|simp,gI.out.1,by have:=HWL.out;simp;omega,za _⟩,Jd.out.trans gI.out.2⟩
end
section
variable {τ:Type} {w0 W:World} {A0 b q mb g k:Nat} {G:Nat->Prop} {s:MkS} {vC vI gv:Value} {rs:List (Value×Value)} {E:qq τ} {F S:τ->Nat->Prop} {Inv:τ->World->Prop} {r:bh τ} {x:jC}
theorem eH(hE:bY w0 A0 b G q mb g s vC vI rs gv E F S Inv)(hf:Fr G G w0 W)(hR:uz b A0 q g gv G F S Inv r W)(hk:s.code[k]? = some x)(uR:x.op=2){t:Wd}(hc:Y7 s x=some t)(hlen:r.out.length<=900000000) :
  Calls Tryz.prog 87 #[.pointer (some ⟨b,0,none⟩),.int .i64 (k:Nat)] W (Oq b A0 q g gv G F S Inv r k (fun (p:Wd×Bool) s'=>{ r with out:=r.out++SC E p.1 p.2,gs:=s' }) (bw E t r.gs) W):=by
 obtain⟨j,hj,ht⟩:=Z8 hc;have hp:=hE.prog W hf;obtain⟨I,ic,kv,tv,q1,lt,i0,-,i3,-,kr,-⟩:=hp.ins hk;obtain⟨C,cc,q0,cj,K3⟩:=hp.mO ht;obtain⟨K,kc,rfl,kj,M0⟩:=kr.at_ hj;have h3:=hE.n3 t (zy ht);have ZK:=hE.n1;have dE:=hE.n2;obtain⟨n,hN⟩:∃ n,s.code.length=n:=⟨_,rfl⟩;obtain⟨m,hM⟩:∃ m,s.cs.length=m:=⟨_,rfl⟩;obtain⟨z,hZ⟩:∃ z,x.k.length=z:=⟨_,rfl⟩;rw[hN] at q1 lt ZK;rw[hM] at q0 K3 dE;rw[hZ] at i3 M0;rw[uR] at i0;have mL:=hR;obtain⟨v,st,cs,hO,vR,fP,hi,ZT,Yr,hS,hA,hF⟩:=hR;have b0:=hO.cell.1;have Xc:DO b q j t W:=⟨b0,C,m,cc,q0,cj,K3,dE⟩;have M9:=z7 (E7 hE.get b q j t r.gs W hO.cell.2.2.1 Xc hi (by omega));have k1:(k:Int)<(n:Int):=by omega
 have k3:(0:Int)<(z:Int):=by omega
 obtain⟨res,vP⟩:∃ res,bw E t r.gs=res:=⟨_,rfl⟩;rw[vP] at M9 ⊢;have aZ:=z7 vP;have HE:=z7 hE;have HR:=z7 mL;have HF:=z7 hf;have HL:=z7 hlen;clear hE hf hp hk uR hO vR fP hi ZT Yr hS hA hF hN hM hZ kr hj ht hc mL Xc vP hlen;go_enter func87,ntmps87;go_wp2_with fail;refine M9.out.mono ?_;intro e w1 hq
 cases res with
 | error er =>
  obtain⟨c,s'⟩:=er;obtain⟨⟨uM,rfl,hold⟩,hI⟩:=hq;obtain⟨h1,h2⟩:=uz.err HE.out HR.out hI;have HQ:=z7 (show Oq b A0 q g gv G F S Inv r k (fun (p:Wd×Bool) s'=>{ r with out:=r.out++SC E p.1 p.2,gs:=s' }) (.error (c,s'):Except (Nat×τ) ((Wd×Bool)×τ)) W (.panicked ({ v:=ql c,recovered:=false }::uM)) w1 from⟨⟨⟨uM,rfl,hold⟩,h1⟩,h2⟩);clear hold hI M9 h1 h2;go_wp2;exact⟨rfl,HQ.out⟩
 | ok p =>
  obtain⟨⟨u,num⟩,s'⟩:=p;obtain⟨⟨hu,rfl⟩,hI⟩:=hq;obtain⟨h1,h2,-⟩:=uz.asked HE.out HR.out hI;have hv:=BC aZ.out;have qs:(⟨u.toArray⟩:ByteArray).size=u.length:=size_mk _;have HP:=fun W=>z7 (Vv ⟨u.toArray⟩ W (by rw[qs];exact hu))
  have dY:=z7 h1;have Jd:=z7 h2;have HV:=z7 hv;clear hI M9 h1 h2 hv
  cases num
  ·go_wp2_with fail;refine(HP _).out.mono ?_;rintro e w2 ⟨bb,pv,pk,rfl,⟨va,vn,vk,rfl⟩,xB,-⟩;have U3:Fr xS xS w1 w2:=((Fr.refl _ _).alloc _).trans (Fr.of xB);have e0:w2.cell? ⟨w1.heap.size,0,none⟩=some (xf u):=(xB.cell (by simp)).trans (xq _ _ _ _ 0);have e1:w2.cell? ⟨w1.heap.size,1,none⟩=some (.bool false):=(xB.cell (by simp)).trans (xq _ _ _ _ 1);obtain⟨V,hVe⟩:∃ V,w1.heap.size=V:=⟨_,rfl⟩;rw[hVe] at e0 e1;obtain⟨W3,kJ⟩:∃ W3,w2.alloc (.cells #[.bool bb,.slice va vn vk,.int .i64 pk] 97)=W3:=⟨_,rfl⟩;have gY:Fr xS xS w1 W3:=by rw[←kJ];exact U3.alloc _
   have d0:W3.cell? ⟨V,0,none⟩=some (xf u):=by rw[←kJ];exact xG e0 _
   have d1:W3.cell? ⟨V,1,none⟩=some (.bool false):=by rw[←kJ];exact xG e1 _
   have h60:u.length<=60:=by have:=HV.out;simpa[jY] using this
   have tR:=dY.out.quiet HE.out gY;have Vi:=z7 gY;obtain⟨v',R8,Rz,hO',zo2,X8,hi',zo3,zo4,sf,hA',hF'⟩:=tR;have Us:=z7 (Kv (w:=W3.drew) u hO' (by have:=HL.out;simp only;omega));have gI:=z7 (fun w' hq=>uz.wrote (t:=u) (w':=w') HE.out zo2 X8 hi' zo3 zo4 sf hA' hF' hO'.lt hq);clear xB U3 e0 e1 hO' zo2 X8 hi' zo3 zo4 sf hA' hF' gY HP
   cases vr u;all_goals
    go_wp2_with fail;try rw[kJ]
    refine rk (fun W':World=>W'.cell? ⟨V,0,none⟩=some (xf u)) 5 (zX 5) 1 d0 ?_;(iterate 5 (refine ty ?_;try simp only[pl]))
    refine xk ?_;refine vu 5 (by kernel_rfl) (by kernel_rfl) rfl (fun J hJ=>?_);go_simp;refine Us.out.mono ?_;rintro e w4 ⟨⟨uu,rfl⟩,TK⟩;refine hJ.out _ _ ?_;clear hJ J;refine vq (by kernel_rfl) ?_ _;obtain⟨Da,eI⟩:=gI.out w4 (by obtain⟨v4,a1,a2⟩:=TK;exact⟨v4,a1,a2.und⟩);have H4:=z7 (z8 Da eI);clear TK Da eI kJ;go_wp2;go_ret;exact⟨⟨by first|rfl|simp,H4.out.1,by simp[SC];omega,za _⟩,(Jd.out.trans (Vi.out.wide (fun _ q=>q.elim))).trans H4.out.2⟩
  ·have X0:vr u=true:=by have:=HV.out;exact this
   have HN:=z7 X0;clear X0;go_wp2_with fail;refine(HP _).out.mono ?_;rintro e w2 ⟨bb,pv,pk,rfl,⟨va,vn,vk,rfl⟩,xB,vP⟩;obtain⟨rfl,rfl,xJ⟩:=vP HN.out;obtain⟨d1',d2',hw',h30⟩:=KJ HN.out;have U3:Fr xS xS w1 w2:=((Fr.refl _ _).alloc _).trans (Fr.of xB);have e0:w2.cell? ⟨w1.heap.size,0,none⟩=some (xf u):=(xB.cell (by simp)).trans (xq _ _ _ _ 0);have e1:w2.cell? ⟨w1.heap.size,1,none⟩=some (.bool true):=(xB.cell (by simp)).trans (xq _ _ _ _ 1);obtain⟨V,hVe⟩:∃ V,w1.heap.size=V:=⟨_,rfl⟩;rw[hVe] at e0 e1;obtain⟨W3,kJ⟩:∃ W3,w2.alloc (.cells #[.bool (fI u),.slice va vn vk,.int .i64 ((vW u).length:Nat)] 97)=W3:=⟨_,rfl⟩;have gY:Fr xS xS w1 W3:=by rw[←kJ];exact U3.alloc _
   have d1:W3.cell? ⟨V,1,none⟩=some (.bool true):=by rw[←kJ];exact xG e1 _
   have fu:=R9 (fI u) (w:=W3) (by rw[←kJ];exact xJ.alloc _) d1' d2' hw' h30;have tR:=dY.out.quiet HE.out gY;have pT:=z7 (FZ HE.out ((HF.out.trans Jd.out).trans (gY.wide (fun _ q=>q.elim))) tR fu HL.out);have HWL:=z7 (HE.out.wrl _ fu.ok);have Vi:=z7 gY;have n0:∀ j,W3.cell? ⟨w2.heap.size,j,none⟩=(#[zR (fI u),.slice va vn vk,.int .i64 ((vW u).length:Nat)]:Array Value)[j]? := fun j=>by rw[←kJ];exact xq _ _ _ _ _
   have m0:=n0 0;have m1:=n0 1;have m2:=n0 2;simp only[zZ,zk,zj] at m0 m1 m2;clear xB U3 e0 e1 fu tR gY HP vP xJ n0;rw[HN.out];go_wp2_with fail;refine pT.out.mono ?_;rintro e w4 ⟨rfl,Da,VD⟩;have H4:=z7 (z8 Da VD);clear Da VD pT;go_wp2;go_ret;exact⟨⟨by first|rfl|simp,H4.out.1,by have:=HWL.out;simp[SC,numOf];omega,za _⟩,(Jd.out.trans (Vi.out.wide (fun _ q=>q.elim))).trans H4.out.2⟩
end
section
variable {τ:Type} {w0 W:World} {A0 b q mb g k:Nat} {G:Nat->Prop} {s:MkS} {vC vI gv:Value} {rs:List (Value×Value)} {E:qq τ} {F S:τ->Nat->Prop} {Inv:τ->World->Prop} {r:bh τ} {x:jC}
structure E9(b A0 q g:Nat)(gv:Value)(G:Nat->Prop)(F S:τ->Nat->Prop)(Inv:τ->World->Prop)(r:bh τ)(v st:Value)(cs:List Value)(w:World):Prop where
 o:qj b (.pointer (some ⟨q,0,none⟩)) (.pointer (some ⟨g,0,none⟩)) gv st v r.out w
 row:w.ownsRow 0 272 6 st r.stk.length cs
 en:fX (Fb b v st (S r.gs)) w r.stk cs
 inv:Inv r.gs w
 sb:st.ownBlock≠some b
 sv:∀ k,xU v k->¬xU st k
 ds:∀ k,S r.gs k->(k+2<b\/b<k)/\¬xU v k/\¬xU st k
 da:∀ k,xU v k\/xU st k->A0<=k
 df:∀ k,F r.gs k->G k
theorem E9.asked(hE:bY w0 A0 b G q mb g s vC vI rs gv E F S Inv){v st:Value}{cs:List Value}{w w':World}(h:E9 b A0 q g gv G F S Inv r v st cs w){s':τ}(hq:Inv s' w'/\Fr (F r.gs) (F s') w w'/\∀ k,S s' k->S r.gs k\/w.heap.size<=k) :
  E9 b A0 q g gv G F S Inv { r with gs:=s' } v st cs w'/\Fr G G w w':=by
 obtain⟨hO,vR,fP,hi,ZT,Yr,hS,hA,hF⟩:=h;obtain⟨hi',hf,WD⟩:=hq;have xC:=hO.lt;have nb:¬F r.gs b:=fun q=>by have:=(hS b (hE.get.sub _ _ q)).1;omega
 have nv:∀ k,xU v k->¬F r.gs k:=fun k hk q=>(hS k (hE.get.sub _ _ q)).2.1 hk
 have nst:∀ k,xU st k->¬F r.gs k:=fun k hk q=>(hS k (hE.get.sub _ _ q)).2.2 hk
 refine⟨⟨hO.fr hf nb nv,hf.own vR nst,fX.fr hf (fun k hk => .inr (.inr (.inr (hE.get.sub _ _ hk)))) (fun k hk=>?_) fP,hi',ZT,Yr,fun k hk=>?_,hA,fun k hk=>?_⟩,?_⟩
 ·rcases hk with h|h|h|h
  ·exact .inl (.inl h)
  ·exact .inl (.inr (.inl h))
  ·exact .inl (.inr (.inr (.inl h)))
  ·exact(WD k h).imp (fun q => .inr (.inr (.inr q))) id
 ·rcases WD k hk with h|h
  ·exact hS k h
  ·exact⟨by omega,fun q=>by have:=ur hO.row q;omega,fun q=>by have:=ur vR q;omega⟩
 ·rcases hf.fp k hk with h|h
  ·exact hF k h
  ·exact hE.gA k (by have:=hE.gb;omega)
 ·exact(hf.tg (F'':=F r.gs) (fun k hk => .inl hk)).wide (fun k hk=>hF k hk)
theorem E9.quiet(hE:bY w0 A0 b G q mb g s vC vI rs gv E F S Inv){v st:Value}{cs:List Value}{w w':World}(h:E9 b A0 q g gv G F S Inv r v st cs w)(hf:Fr xS xS w w'):E9 b A0 q g gv G F S Inv r v st cs w' :=
 ⟨h.o.fr hf id (fun _ _ q=>q),hf.own h.row (fun _ _ q=>q),fX.fr hf (fun _ q=>q.elim) (fun _ q => .inl q) h.en,hE.get.fr h.inv hf (fun _ q=>q.elim),h.sb,h.sv,h.ds,h.da,h.df⟩
theorem Ok(hE:bY w0 A0 b G q mb g s vC vI rs gv E F S Inv)(hf:Fr G G w0 W)(hR:uz b A0 q g gv G F S Inv r W)(hk:s.code[k]? = some x)(uR:x.op=4){t:Wd}(hc:Y7 s x=some t)(dm:r.stk.length<=900000) :
  Calls Tryz.prog 87 #[.pointer (some ⟨b,0,none⟩),.int .i64 (k:Nat)] W (Oq b A0 q g gv G F S Inv r k (fun v s'=>{ r with stk:=r.stk++[(v,VT v x.v)],gs:=s' }) (ZW E t r.gs) W):=by
 obtain⟨j,hj,ht⟩:=Z8 hc;have hp:=hE.prog W hf;obtain⟨I,ic,kv,tv,q1,lt,i0,i2,i3,-,kr,-⟩:=hp.ins hk;obtain⟨C,cc,q0,cj,K3⟩:=hp.mO ht;obtain⟨K,kc,rfl,kj,M0⟩:=kr.at_ hj;have h3:=hE.n3 t (zy ht);have hv9:=(hE.n4 x (zy hk)).1;have ZK:=hE.n1;have dE:=hE.n2;obtain⟨n,hN⟩:∃ n,s.code.length=n:=⟨_,rfl⟩;obtain⟨m,hM⟩:∃ m,s.cs.length=m:=⟨_,rfl⟩;obtain⟨z,hZ⟩:∃ z,x.k.length=z:=⟨_,rfl⟩;obtain⟨xv,hXV⟩:∃ xv,x.v=xv:=⟨_,rfl⟩;rw[hN] at q1 lt ZK;rw[hM] at q0 K3 dE;rw[hZ] at i3 M0;rw[hXV] at i2 hv9 ⊢;rw[uR] at i0;obtain⟨v,st,cs,hO,vR,fP,hi,ZT,Yr,hS,hA,hF⟩:=hR;have Lz:E9 b A0 q g gv G F S Inv r v st cs W:=⟨hO,vR,fP,hi,ZT,Yr,hS,hA,hF⟩;have b0:=hO.cell.1;have hlb:=hO.lt;have Xc:DO b q j t W:=⟨b0,C,m,cc,q0,cj,K3,dE⟩;have M9:=z7 (L6 hE.get b q j t r.gs W hO.cell.2.2.1 Xc hi (by omega));have k1:(k:Int)<(n:Int):=by omega
 have k3:(0:Int)<(z:Int):=by omega
 obtain⟨res,vP⟩:∃ res,ZW E t r.gs=res:=⟨_,rfl⟩;rw[vP] at M9 ⊢;have HVI:=z7 (zQ (hp.q1.symm.trans (show W.cell? ⟨q,1,none⟩=some (.slice (some ⟨I,0,none⟩) s.code.length ic) by rw[hN];exact q1)));have HK:=z7 hk;have HXV:=z7 hXV;have HLB:=z7 (z8 hlb (z8 (fun k (hk:xU v k)=>ur hO.row hk) (fun k (hk:xU st k)=>ur vR hk)));have HE:=z7 hE;have Ew:=z7 Lz;have HF:=z7 hf;have HSL:=z7 dm;clear hE hf hp hk uR hO vR fP hi ZT Yr hS hA hF hN hM hZ kr hj ht hc Xc vP hlb Lz hXV dm;go_enter func87,ntmps87;go_wp2_with fail;refine M9.out.mono ?_;intro e w1 hq
 cases res with
 | error er =>
  obtain⟨c,s'⟩:=er;obtain⟨⟨uM,rfl,hold⟩,hI⟩:=hq;obtain⟨h1,h2⟩:=Ew.out.asked HE.out hI;have HQ:=z7 (show Oq b A0 q g gv G F S Inv r k (fun v s'=>{ r with stk:=r.stk++[(v,VT v xv)],gs:=s' }) (.error (c,s'):Except (Nat×τ) (vv×τ)) W (.panicked ({ v:=ql c,recovered:=false }::uM)) w1 from⟨⟨⟨uM,rfl,hold⟩,h1.inv,fun k hk=>(h1.ds k hk).1⟩,h2⟩);clear hold hI M9 h1 h2;go_wp2;exact⟨rfl,HQ.out⟩
 | ok p =>
  obtain⟨nn,s'⟩:=p;obtain⟨⟨nv,rfl,lh,qs⟩,hI⟩:=hq;obtain⟨h1,h2⟩:=Ew.out.asked HE.out hI;have zky:gp (Fb b v st (S s')) w1 nv nn:=lh.fr (Fr.refl xS _) (fun _ q=>q.elim) (fun k hk => .inl (by
   rcases hk with rfl|h|h|h
   ·exact .inl HLB.out.1
   ·exact .inl (HLB.out.2.1 k h)
   ·exact .inl (HLB.out.2.2 k h)
   ·exact .inr h))
  have UH:=HE.out.prog w1 (HF.out.trans h2);have Jd:=z7 h2;have zkx:=z7 h1;have HNN:=z7 zky;have dQ:=z7 qs;obtain⟨gd,o,cap,zo7,-⟩:=lh;obtain⟨nb,CS⟩:∃ nb,nn.1=nb:=⟨_,rfl⟩;obtain⟨LL,hLL⟩:∃ LL,nn.2.1.length+nn.2.2.length=LL:=⟨_,rfl⟩;obtain⟨sc,hsc⟩:∃ sc,nn.2.2.length=sc:=⟨_,rfl⟩;rw[CS,hLL,hsc] at zo7;subst zo7;obtain⟨I2,ic2,kv2,tv2,q1',-,-,i2',-⟩:=UH.ins HK.out;have hIe:=zQ (UH.q1.symm.trans q1');rw[HVI.out] at hIe;simp only[zD,zE,zW,and_true,true_and] at hIe;rw[←hIe.1,HXV.out] at i2';obtain⟨B9,tG⟩:∃ B9,w1.heap.size=B9:=⟨_,rfl⟩;obtain⟨W2,ME⟩:∃ W2,w1.alloc (.cells #[.bool nb,.slice (some ⟨gd,o,none⟩) LL cap,.int .i64 (sc:Nat)] 97)=W2:=⟨_,rfl⟩;have vF:Fr xS xS w1 W2:=by rw[←ME];exact(Fr.refl _ _).alloc _
  have n0:∀ j,W2.cell? ⟨B9,j,none⟩=(#[zR nb,.slice (some ⟨gd,o,none⟩) LL cap,.int .i64 (sc:Nat)]:Array Value)[j]? := fun j=>by rw[←ME,←tG];exact xq _ _ _ _ _
  have m0:=n0 0;have m1:=n0 1;have m2:=n0 2;simp only[zZ,zk,zj] at m0 m1 m2;have i2W:=vF.cell i2' id;have zo8:=TY _ nn xv W2.drew ((zky.any.fr vF (fun _ q=>q.elim) (M':=fun _=>False) (fun _ q=>q.elim)).fr (w':=W2.drew) (F:=xS) (F':=xS) ((Fr.refl _ _).drew) (fun _ q=>q.elim) (M':=fun _=>False) (fun _ q=>q.elim)) hv9 (by omega);have zo9:=z7 zo8;have dI:=z7 vF;clear h1 h2 hI M9 zky UH zo8 vF n0 hIe q1' i2' b0 q0 q1 i0 i2 i3 cj kj qs;go_wp2_with fail;try rw[ME]
  clear ME tG CS hLL hsc;refine rk (fun W':World=>W'.cell? ⟨B9,0,none⟩=some (.bool nb)/\W'.cell? ⟨B9,1,none⟩=some (.slice (some ⟨gd,o,none⟩) LL cap)/\W'.cell? ⟨B9,2,none⟩=some (.int .i64 (sc:Nat))/\W'.cell? ⟨I,k*5+2,none⟩=some (.int .i64 xv)) 11 (zX 9) 3 ⟨m0,m1,m2,i2W⟩ ?_;(iterate 9 (refine ty ?_;try simp only[pl]))
  refine xk ?_;refine xM 9 (by kernel_rfl) rfl (fun J hJ=>?_);go_simp;refine zo9.out.mono ?_;rintro e w3 ⟨⟨v3,rfl,CJ⟩,uP⟩;have gY:Fr xS xS W2 w3:=(Fr.of uP).und;have HZ:=z7 CJ;have HOK:=z7 CJ.ok;obtain⟨zz,Mk⟩:∃ zz,VT nn xv=zz:=⟨_,rfl⟩;rw[Mk] at CJ HZ;obtain⟨g3,o3,zoz,hv3,-⟩:=CJ;obtain⟨zb,hzb⟩:∃ zb,zz.1=zb:=⟨_,rfl⟩;obtain⟨L3,hL3⟩:∃ L3,zz.2.1.length+zz.2.2.length=L3:=⟨_,rfl⟩;obtain⟨sc3,zox⟩:∃ sc3,zz.2.2.length=sc3:=⟨_,rfl⟩;rw[hzb,hL3,zox] at hv3;subst hv3;have rc:=zkx.out.quiet HE.out (dI.out.trans gY);have Dz:=zkx.out.o.lt;have h1:gp (Fb b v st (S s')) w3 (L0 nb gd o LL cap sc) nn:=HNN.out.fr (dI.out.trans gY) (fun _ q=>q.elim) (fun _ q => .inl q);have h2:gp (Fb b v st (S s')) w3 (L0 zb g3 o3 L3 zoz sc3) zz:=HZ.out.fr (Fr.refl xS _) (fun _ q=>q.elim) (fun k hk => .inl (by
   have ME:=dI.out.size;have Ve:=Jd.out.size;show k<W2.heap.size;rcases hk with rfl|h|h|h
   ·omega
   ·have:=HLB.out.2.1 k h;omega
   ·have:=HLB.out.2.2 k h;omega
   ·have:=HE.out.get.E0 s' w1 k zkx.out.inv h;omega))
  have fP:=fX.snoc h1 h2 rc.en;have wj:=z7 (eF rc.o rc.row rc.sb rc.sv (by have:=HSL.out;simp only;omega) nb zb gd o LL cap sc g3 o3 L3 zoz sc3);have jN:=z7 (fun w' hq=>uz.Ry (r:={ r with gs:=s' }) (w:=w3) (w':=w') (stk:=r.stk++[(nn,zz)]) HE.out rc.row fP rc.inv rc.ds rc.da rc.df rc.o.lt (by rw[zJ];exact hq));have c0:=gY.cell m0 id;have c1:=gY.cell m1 id;have c2:=gY.cell m2 id;have c3:=gY.cell i2W id;have Vi:=z7 gY;have HZZ:=z7 Mk;clear gY rc h1 h2 fP uP zo9 hzb hL3 zox Dz Mk m0 m1 m2 i2W;refine hJ.out _ _ ⟨c0,c1,c2,c3⟩ fun _=>?_
  clear hJ J;refine kU [10] 1 rfl (by intro _ _ d _ _ h;cases d<;>exact h) (by kernel_rfl) (by kernel_rfl) ⟨c0,c1,c2,c3⟩ ?_;refine ty ?_;try simp only[pl]
  refine xk ?_;refine vu 11 (by kernel_rfl) (by kernel_rfl) rfl (fun J hJ=>?_);go_simp;refine wj.out.mono ?_;rintro e w4 ⟨rfl,TK⟩;refine hJ.out _ _ ?_;clear hJ J;refine vq (by kernel_rfl) ?_ _;obtain⟨Da,eI⟩:=jN.out w4 TK;have H4:=z7 (z8 Da eI);clear TK Da eI wj jN;go_wp2;go_ret;have fU:=H4.out.1;rw[←HZZ.out] at fU;exact⟨⟨by first|rfl|simp,fU,zl _ _,by simp⟩,(Jd.out.trans ((dI.out.trans Vi.out).wide (fun _ q=>q.elim))).trans H4.out.2⟩
end
def JV(s:MkS)(p:Nat):Int:=Ov (dK s.code s.code.length p)
section
variable {τ:Type} {w0 W:World} {A0 b q mb g k:Nat} {G:Nat->Prop} {s:MkS} {vC vI gv:Value} {rs:List (Value×Value)} {E:qq τ} {F S:τ->Nat->Prop} {Inv:τ->World->Prop} {r:bh τ} {x:jC}
theorem step_goto(hE:bY w0 A0 b G q mb g s vC vI rs gv E F S Inv)(hf:Fr G G w0 W)(hR:uz b A0 q g gv G F S Inv r W)(hk:s.code[k]? = some x)(uR:x.op=11){p:Nat}(Oj:x.tg[0]? = some p) :
  Calls Tryz.prog 87 #[.pointer (some ⟨b,0,none⟩),.int .i64 (k:Nat)] W fun e w'=>e = .returned (.int .i64 (JV s p))/\Fr xS xS W w':=by
 have hp:=hE.prog W hf;obtain⟨I,ic,kv,tv,q1,lt,i0,-,-,i4,-,tr⟩:=hp.ins hk;obtain⟨T,tc,rfl,tj,JC⟩:=tr.at_ Oj;have JA:=(hE.n4 x (zy hk)).2 p (zy Oj);have QL:=z7 (Ff q mb s.code.length p _ W.drew hp.q2 (hp.mp.keep rfl) JA);have ZK:=hE.n1;obtain⟨jv,BE⟩:∃ jv,JV s p=jv:=⟨_,rfl⟩;have HJ:=z7 BE;rw[show Ov (dK s.code s.code.length p)=jv from BE] at QL;rw[BE];obtain⟨n,hN⟩:∃ n,s.code.length=n:=⟨_,rfl⟩;obtain⟨z,hZ⟩:∃ z,x.tg.length=z:=⟨_,rfl⟩;rw[hN] at q1 lt ZK;rw[hZ] at i4 JC;rw[uR] at i0;obtain⟨v,st,cs,hO,-⟩:=hR;have b0:=hO.cell.1;have k1:(k:Int)<(n:Int):=by omega
 have k3:(0:Int)<(z:Int):=by omega
 clear hE hf hp hk uR hO hN hZ tr Oj BE;go_enter func87,ntmps87;go_wp2_with fail;refine rt (fun W':World=>W'.cell? ⟨b,0,none⟩=some (.pointer (some ⟨q,0,none⟩))/\W'.cell? ⟨I,k*5+4,none⟩=some (.slice (some ⟨T,0,none⟩) z tc)/\W'.cell? ⟨T,0,none⟩=some (.int .i64 p)) (zX 10) 2 ⟨b0,i4,tj⟩ ?_;(iterate 10 (refine ty ?_;try simp only[pl]))
 refine xk ?_;refine xg 10 (by kernel_rfl) rfl (fun J hJ=>?_);go_simp;refine QL.out.mono ?_;rintro e w1 ⟨rfl,rfl⟩;refine hJ.out _ _ ⟨b0,i4,tj⟩ fun _=>?_
 clear hJ J;refine xE [11] 0 rfl (by intro _ _ d _ _ h;cases d<;>exact h) (by kernel_rfl) (by kernel_rfl) ⟨b0,i4,tj⟩ ?_;refine ty ?_;try simp only[pl]
 refine xk ?_;refine wpAnyH_done (by kernel_rfl) ?_ _;go_wp2;go_ret;exact⟨rfl,(Fr.refl _ _).drew⟩
theorem Og(hE:bY w0 A0 b G q mb g s vC vI rs gv E F S Inv)(hf:Fr G G w0 W)(hR:uz b A0 q g gv G F S Inv r W)(hk:s.code[k]? = some x)(uR:x.op=7){p:Nat}(Oj:x.tg[0]? = some p){stk:List (vv×vv)}{tp:vv×vv}(hs:r.stk=stk++[tp])(dm:r.stk.length<=1000000) :
  Calls Tryz.prog 87 #[.pointer (some ⟨b,0,none⟩),.int .i64 (k:Nat)] W fun e w'=>e = .returned (.int .i64 (if qE tp.1 x.v then JV s p else ((k+1:Nat):Int)))/\Fr xS xS W w':=by
 have hp:=hE.prog W hf;obtain⟨I,ic,kv,tv,q1,lt,i0,i2,-,i4,-,tr⟩:=hp.ins hk;obtain⟨T,tc,rfl,tj,JC⟩:=tr.at_ Oj;obtain⟨hv9,JA⟩:=hE.n4 x (List.mem_of_getElem? hk);have JA:=JA p (List.mem_of_getElem? Oj);have QL:=Lib.hid (fun (w:World) (hq:w.cell? ⟨q,2,none⟩=some (.map (some mb))) (hm:ZV w mb s.code.length (dK s.code s.code.length))=>Ff q mb s.code.length p (dK s.code s.code.length) w hq hm JA);have QP:=Lib.hid (And.intro hp.q2 hp.mp);have ZK:=hE.n1;obtain⟨jv,BE⟩:∃ jv,JV s p=jv:=⟨_,rfl⟩;rw[show Ov (dK s.code s.code.length p)=jv from BE] at QL;rw[BE];obtain⟨n,hN⟩:∃ n,s.code.length=n:=⟨_,rfl⟩;obtain⟨z,hZ⟩:∃ z,x.tg.length=z:=⟨_,rfl⟩;obtain⟨xv,hXV⟩:∃ xv,x.v=xv:=⟨_,rfl⟩;rw[hN] at q1 lt ZK QP QL;rw[hZ] at i4 JC;rw[hXV] at i2 hv9 ⊢;rw[uR] at i0;obtain⟨v,st,cs,hO,vR,fP,-⟩:=hR;obtain⟨tn,tz⟩:=tp;obtain⟨JJ,hJJ⟩:∃ JJ,(if qE tn xv=true then jv else ((k+1:Nat):Int))=JJ:=⟨_,rfl⟩;have HJJ:=Lib.hid hJJ;rw[show(if qE (tn,tz).1 xv=true then jv else ((k+1:Nat):Int))=JJ from hJJ];clear hJJ;have Ys:(stk++[(tn,tz)]).length=stk.length+1:=by simp
 rw[hs] at fP vR dm;rw[Ys] at vR dm;obtain⟨Rz,nb,g1,o1,m1,c1,oF,zb,g2,o2,m2,c2,k2,rfl,X8,hn,-⟩:=fP.last;have HT:=z7 (JW (w:=W.drew) hO nb zb g1 o1 m1 c1 oF g2 o2 m2 c2 k2 vR X8.len (by omega));have b0:=hO.cell.1;have k1:(k:Int)<(n:Int):=by omega
 have k3:(0:Int)<(z:Int):=by omega
 have eX:=L7;have HSM:=z7 (fun (w:World) (hb:Fr xS xS W w)=>eJ _ tn xv w (hn.any.fr hb (fun _ q=>q.elim) (M':=fun _=>False) (fun _ q=>q.elim)) hv9);clear hE hf hp hk uR hO hN hZ tr Oj BE vR fP X8 hs dm Ys hXV hn;go_enter func87,ntmps87;go_wp2_with fail;refine rt (fun W':World=>W'.cell? ⟨I,k*5+2,none⟩=some (.int .i64 xv)) [0,1,2,5,6,7,8] 4 i2 ?_;(iterate 7 (refine ty ?_;try simp only[pl]))
 refine xk ?_;refine xg 3 (by kernel_rfl) rfl (fun J hJ=>?_);go_simp;refine HT.out.mono ?_;rintro e w1 ⟨rfl,xH⟩;have uZ:Fr xS xS W w1:=(Fr.of xH).und;have i2a:=uZ.cell i2 id;refine hJ.out _ _ i2a fun _=>?_
 clear hJ J;refine xE [4] 2 rfl (by intro _ _ d _ _ h;cases d<;>exact h) (by kernel_rfl) (by kernel_rfl) i2a ?_;refine ty ?_;try simp only[pl]
 refine xk ?_;refine xg 9 (by kernel_rfl) rfl (fun J hJ=>?_);go_simp;refine(HSM.out w1 uZ).mono ?_;rintro e w2 ⟨rfl,xB⟩;have vF:Fr xS xS W w2:=uZ.trans (Fr.of xB);have i2b:=vF.cell i2 id;have wg:=vF.cell b0 id;have wb:=vF.cell i4 id;have pW:=vF.cell tj id;have q2b:=vF.cell QP.out.1 id;have NY:=z7 (QP.out.2.keep (vF.keep mb QP.out.2.lt id));refine hJ.out _ _ i2b fun _=>?_
 clear hJ J;refine xE [10] 0 rfl (by intro _ _ d _ _ h;cases d<;>exact h) (by kernel_rfl) (by kernel_rfl) i2b ?_;refine ty ?_;try simp only[pl]
 refine xk ?_;refine wpAnyH_done (by kernel_rfl) ?_ _;have dI:=z7 vF;clear uZ xH vF xB i2a HT HSM eX b0 i4 tj i2
 cases Vx:qE tn xv
 ·have HSE:=z7 (show((k+1:Nat):Int)=JJ by rw[←HJJ.out,Vx];rfl);clear Vx;go_wp2;go_ret;exact⟨by rw[←HSE.out];first|rfl|simp,dI.out⟩
 ·have HSE:=z7 (show jv=JJ by rw[←HJJ.out,Vx];rfl);have C1:=z7 (QL.out w2.drew q2b (NY.out.keep rfl));clear Vx QL;go_wp2_with fail;refine rt (fun W':World=>W'.cell? ⟨b,0,none⟩=some (.pointer (some ⟨q,0,none⟩))/\W'.cell? ⟨I,k*5+4,none⟩=some (.slice (some ⟨T,0,none⟩) z tc)/\W'.cell? ⟨T,0,none⟩=some (.int .i64 p)) (zX 10) 2 ⟨wg,wb,pW⟩ ?_;(iterate 10 (refine ty ?_;try simp only[pl]))
  refine xk ?_;refine xg 10 (by kernel_rfl) rfl (fun J hJ=>?_);go_simp;refine C1.out.mono ?_;rintro e w3 ⟨rfl,rfl⟩;refine hJ.out _ _ ⟨wg,wb,pW⟩ fun _=>?_
  clear hJ J;refine xE [11] 0 rfl (by intro _ _ d _ _ h;cases d<;>exact h) (by kernel_rfl) (by kernel_rfl) ⟨wg,wb,pW⟩ ?_;refine ty ?_;try simp only[pl]
  refine xk ?_;refine wpAnyH_done (by kernel_rfl) ?_ _;go_wp2;go_ret;exact⟨by rw[←HSE.out];rfl,dI.out.drew⟩
end
section
variable {τ:Type} {w0 W:World} {A0 b q mb g k:Nat} {G:Nat->Prop} {s:MkS} {vC vI gv:Value} {rs:List (Value×Value)} {E:qq τ} {F S:τ->Nat->Prop} {Inv:τ->World->Prop} {r:bh τ} {x:jC}
theorem TJ(hE:bY w0 A0 b G q mb g s vC vI rs gv E F S Inv)(hf:Fr G G w0 W)(hR:uz b A0 q g gv G F S Inv r W)(hk:s.code[k]? = some x)(uR:x.op=8){p:Nat}{stk:List (vv×vv)}{tp:vv×vv}(hs:r.stk=stk++[tp])(Oj:x.tg[E.sort false tp.2.2]? = some p)(dm:r.stk.length<=1000000) :
  Calls Tryz.prog 87 #[.pointer (some ⟨b,0,none⟩),.int .i64 (k:Nat)] W fun e w'=>e = .returned (.int .i64 (JV s p))/\Fr xS xS W w':=by
 have hp:=hE.prog W hf;obtain⟨I,ic,kv,tv,q1,lt,i0,i2,-,i4,-,tr⟩:=hp.ins hk;obtain⟨T,tc,rfl,tj,JC⟩:=tr.at_ Oj;have JA:=(hE.n4 x (List.mem_of_getElem? hk)).2 p (List.mem_of_getElem? Oj);have QL:=Lib.hid (fun (w:World) (hq:w.cell? ⟨q,2,none⟩=some (.map (some mb))) (hm:ZV w mb s.code.length (dK s.code s.code.length))=>Ff q mb s.code.length p (dK s.code s.code.length) w hq hm JA);have QP:=Lib.hid (And.intro hp.q2 hp.mp);have ZK:=hE.n1;obtain⟨jv,BE⟩:∃ jv,JV s p=jv:=⟨_,rfl⟩;rw[show Ov (dK s.code s.code.length p)=jv from BE] at QL;rw[BE];obtain⟨n,hN⟩:∃ n,s.code.length=n:=⟨_,rfl⟩;obtain⟨z,hZ⟩:∃ z,x.tg.length=z:=⟨_,rfl⟩;rw[hN] at q1 lt ZK QP QL;rw[hZ] at i4 JC;rw[uR] at i0;obtain⟨v,st,cs,hO,vR,fP,-⟩:=hR;obtain⟨tn,tz⟩:=tp;have Ys:(stk++[(tn,tz)]).length=stk.length+1:=by simp
 rw[hs] at fP vR dm;rw[Ys] at vR dm;obtain⟨Rz,nb,g1,o1,m1,c1,oF,zb,g2,o2,m2,c2,k2,rfl,X8,-,hz⟩:=fP.last;have HT:=z7 (JW (w:=W.drew) hO nb zb g1 o1 m1 c1 oF g2 o2 m2 c2 k2 vR X8.len (by omega));obtain⟨cv,ov,hcv,qD,jJ⟩:=hE.set;have g0:=(hcv W hf).1;obtain⟨ix,Sk⟩:∃ ix,E.sort false tz.2=ix:=⟨_,rfl⟩;have CR:=z7 (fun (w:World) (hb:Fr xS xS W w)=>qD w _ tz.2 (hf.trans (hb.wide (G:=G) (fun _ q=>q.elim))) ((hz.any.fr hb (fun _ q=>q.elim) (M':=fun _=>False) (fun _ q=>q.elim))).num);simp only[Sk] at CR tj JC;have b0:=hO.cell.1;have b1:=hO.cell.2.1;have k1:(k:Int)<(n:Int):=by omega
 have k3:(ix:Int)<(z:Int):=by omega
 have eX:=Ug;clear hE hf hp hk uR hO hN hZ tr Oj BE vR fP X8 hs dm Ys hz hcv qD jJ Sk;go_enter func87,ntmps87;go_wp2_with fail;refine rt (fun W':World=>W'.cell? ⟨b,0,none⟩=some (.pointer (some ⟨q,0,none⟩))/\W'.cell? ⟨b,1,none⟩=some (.pointer (some ⟨g,0,none⟩))/\W'.cell? ⟨g,0,none⟩=some cv/\W'.cell? ⟨I,k*5+4,none⟩=some (.slice (some ⟨T,0,none⟩) z tc)/\W'.cell? ⟨T,ix,none⟩=some (.int .i64 p)) (zX 18) 7 ⟨b0,b1,g0,i4,tj⟩ ?_;(iterate 18 (refine ty ?_;try simp only[pl]))
 refine xk ?_;refine xg 18 (by kernel_rfl) rfl (fun J hJ=>?_);go_simp;refine HT.out.mono ?_;rintro e w1 ⟨rfl,xH⟩;have uZ:Fr xS xS W w1:=(Fr.of xH).und;have a1:=uZ.cell b0 id;have a2:=uZ.cell b1 id;have a3:=uZ.cell g0 id;have a4:=uZ.cell i4 id;have a5:=uZ.cell tj id;refine hJ.out _ _ ⟨a1,a2,a3,a4,a5⟩ fun _=>?_
 clear hJ J;refine xE [19] 5 rfl (by intro _ _ d _ _ h;cases d<;>exact h) (by kernel_rfl) (by kernel_rfl) ⟨a1,a2,a3,a4,a5⟩ ?_;refine ty ?_;try simp only[pl]
 refine xk ?_;refine xg 20 (by kernel_rfl) rfl (fun J hJ=>?_);go_simp;refine(CR.out w1 uZ).mono ?_;rintro e w2 ⟨rfl,xB⟩;have vF:Fr xS xS W w2:=uZ.trans (Fr.of xB);have d1:=vF.cell b0 id;have d2:=vF.cell b1 id;have d3:=vF.cell g0 id;have d4:=vF.cell i4 id;have d5:=vF.cell tj id;have q2b:=vF.cell QP.out.1 id;have C1:=z7 (QL.out w2 q2b (QP.out.2.keep (vF.keep mb QP.out.2.lt id)));have dI:=z7 vF;clear a1 a2 a3 a4 a5 uZ xH vF xB b0 b1 g0 i4 tj HT CR QL QP q2b;refine hJ.out _ _ ⟨d1,d2,d3,d4,d5⟩ fun _=>?_
 clear hJ J;refine xE [21,22] 2 rfl (by intro _ _ d _ _ h;cases d<;>exact h) (by kernel_rfl) (by kernel_rfl) ⟨d1,d2,d3,d4,d5⟩ ?_;(iterate 2 (refine ty ?_;try simp only[pl]))
 refine xk ?_;refine xg 23 (by kernel_rfl) rfl (fun J hJ=>?_);go_simp;refine C1.out.mono ?_;rintro e w3 ⟨rfl,rfl⟩;refine hJ.out _ _ ⟨d1,d2,d3,d4,d5⟩ fun _=>?_
 clear hJ J;refine xE [24] 0 rfl (by intro _ _ d _ _ h;cases d<;>exact h) (by kernel_rfl) (by kernel_rfl) ⟨d1,d2,d3,d4,d5⟩ ?_;refine ty ?_;try simp only[pl]
 refine xk ?_;refine wpAnyH_done (by kernel_rfl) ?_ _;go_wp2;go_ret;exact⟨rfl,dI.out⟩
theorem TF(hE:bY w0 A0 b G q mb g s vC vI rs gv E F S Inv)(hf:Fr G G w0 W)(hR:uz b A0 q g gv G F S Inv r W)(hk:s.code[k]? = some x)(uR:x.op=9){p:Nat}{stk:List (vv×vv)}{tp:vv×vv}(hs:r.stk=stk++[tp])(Oj:x.tg[E.sort true tp.2.2]? = some p)(dm:r.stk.length<=1000000) :
  Calls Tryz.prog 87 #[.pointer (some ⟨b,0,none⟩),.int .i64 (k:Nat)] W fun e w'=>e = .returned (.int .i64 (JV s p))/\Fr xS xS W w':=by
 have hp:=hE.prog W hf;obtain⟨I,ic,kv,tv,q1,lt,i0,i2,-,i4,-,tr⟩:=hp.ins hk;obtain⟨T,tc,rfl,tj,JC⟩:=tr.at_ Oj;have JA:=(hE.n4 x (List.mem_of_getElem? hk)).2 p (List.mem_of_getElem? Oj);have QL:=Lib.hid (fun (w:World) (hq:w.cell? ⟨q,2,none⟩=some (.map (some mb))) (hm:ZV w mb s.code.length (dK s.code s.code.length))=>Ff q mb s.code.length p (dK s.code s.code.length) w hq hm JA);have QP:=Lib.hid (And.intro hp.q2 hp.mp);have ZK:=hE.n1;obtain⟨jv,BE⟩:∃ jv,JV s p=jv:=⟨_,rfl⟩;rw[show Ov (dK s.code s.code.length p)=jv from BE] at QL;rw[BE];obtain⟨n,hN⟩:∃ n,s.code.length=n:=⟨_,rfl⟩;obtain⟨z,hZ⟩:∃ z,x.tg.length=z:=⟨_,rfl⟩;rw[hN] at q1 lt ZK QP QL;rw[hZ] at i4 JC;rw[uR] at i0;obtain⟨v,st,cs,hO,vR,fP,-⟩:=hR;obtain⟨tn,tz⟩:=tp;have Ys:(stk++[(tn,tz)]).length=stk.length+1:=by simp
 rw[hs] at fP vR dm;rw[Ys] at vR dm;obtain⟨Rz,nb,g1,o1,m1,c1,oF,zb,g2,o2,m2,c2,k2,rfl,X8,-,hz⟩:=fP.last;have HT:=z7 (JW (w:=W.drew) hO nb zb g1 o1 m1 c1 oF g2 o2 m2 c2 k2 vR X8.len (by omega));obtain⟨cv,ov,hcv,qD,jJ⟩:=hE.set;have g0:=(hcv W hf).2;obtain⟨ix,Sk⟩:∃ ix,E.sort true tz.2=ix:=⟨_,rfl⟩;have CR:=z7 (fun (w:World) (hb:Fr xS xS W w)=>jJ w _ tz.2 (hf.trans (hb.wide (G:=G) (fun _ q=>q.elim))) ((hz.any.fr hb (fun _ q=>q.elim) (M':=fun _=>False) (fun _ q=>q.elim))).num);simp only[Sk] at CR tj JC;have b0:=hO.cell.1;have b1:=hO.cell.2.1;have k1:(k:Int)<(n:Int):=by omega
 have k3:(ix:Int)<(z:Int):=by omega
 have eX:=Ug;clear hE hf hp hk uR hO hN hZ tr Oj BE vR fP X8 hs dm Ys hz hcv qD jJ Sk;go_enter func87,ntmps87;go_wp2_with fail;refine rt (fun W':World=>W'.cell? ⟨b,0,none⟩=some (.pointer (some ⟨q,0,none⟩))/\W'.cell? ⟨b,1,none⟩=some (.pointer (some ⟨g,0,none⟩))/\W'.cell? ⟨g,1,none⟩=some ov/\W'.cell? ⟨I,k*5+4,none⟩=some (.slice (some ⟨T,0,none⟩) z tc)/\W'.cell? ⟨T,ix,none⟩=some (.int .i64 p)) (zX 18) 7 ⟨b0,b1,g0,i4,tj⟩ ?_;(iterate 18 (refine ty ?_;try simp only[pl]))
 refine xk ?_;refine xg 18 (by kernel_rfl) rfl (fun J hJ=>?_);go_simp;refine HT.out.mono ?_;rintro e w1 ⟨rfl,xH⟩;have uZ:Fr xS xS W w1:=(Fr.of xH).und;have a1:=uZ.cell b0 id;have a2:=uZ.cell b1 id;have a3:=uZ.cell g0 id;have a4:=uZ.cell i4 id;have a5:=uZ.cell tj id;refine hJ.out _ _ ⟨a1,a2,a3,a4,a5⟩ fun _=>?_
 clear hJ J;refine xE [19] 5 rfl (by intro _ _ d _ _ h;cases d<;>exact h) (by kernel_rfl) (by kernel_rfl) ⟨a1,a2,a3,a4,a5⟩ ?_;refine ty ?_;try simp only[pl]
 refine xk ?_;refine xg 20 (by kernel_rfl) rfl (fun J hJ=>?_);go_simp;refine(CR.out w1 uZ).mono ?_;rintro e w2 ⟨rfl,xB⟩;have vF:Fr xS xS W w2:=uZ.trans (Fr.of xB);have d1:=vF.cell b0 id;have d2:=vF.cell b1 id;have d3:=vF.cell g0 id;have d4:=vF.cell i4 id;have d5:=vF.cell tj id;have q2b:=vF.cell QP.out.1 id;have C1:=z7 (QL.out w2 q2b (QP.out.2.keep (vF.keep mb QP.out.2.lt id)));have dI:=z7 vF;clear a1 a2 a3 a4 a5 uZ xH vF xB b0 b1 g0 i4 tj HT CR QL QP q2b;refine hJ.out _ _ ⟨d1,d2,d3,d4,d5⟩ fun _=>?_
 clear hJ J;refine xE [21,22] 2 rfl (by intro _ _ d _ _ h;cases d<;>exact h) (by kernel_rfl) (by kernel_rfl) ⟨d1,d2,d3,d4,d5⟩ ?_;(iterate 2 (refine ty ?_;try simp only[pl]))
 refine xk ?_;refine xg 23 (by kernel_rfl) rfl (fun J hJ=>?_);go_simp;refine C1.out.mono ?_;rintro e w3 ⟨rfl,rfl⟩;refine hJ.out _ _ ⟨d1,d2,d3,d4,d5⟩ fun _=>?_
 clear hJ J;refine xE [24] 0 rfl (by intro _ _ d _ _ h;cases d<;>exact h) (by kernel_rfl) (by kernel_rfl) ⟨d1,d2,d3,d4,d5⟩ ?_;refine ty ?_;try simp only[pl]
 refine xk ?_;refine wpAnyH_done (by kernel_rfl) ?_ _;go_wp2;go_ret;exact⟨rfl,dI.out⟩
end
section
variable {τ:Type} {w0 W:World} {A0 b q mb g k:Nat} {G:Nat->Prop} {s:MkS} {vC vI gv:Value} {rs:List (Value×Value)} {E:qq τ} {F S:τ->Nat->Prop} {Inv:τ->World->Prop} {r:bh τ} {x:jC}
def eL(s:MkS)(x:jC)(u:Wd)(_:τ)(_:World)(e:Ending):Prop:=e = .returned (.int .i64 ((VU s x u:Nat):Int))
theorem eM{α:Type}[BEq α][LawfulBEq α]{l:List α}{a:α}{i:Nat}(hi:i<l.length)(h:a ∉ l.take i)(he:l[i]=a):l.idxOf a=i:=by
 have h1:l=l.take i++l[i]::l.drop (i+1):=by rw[←zr hi,zh]
 rw[h1,List.idxOf_append,if_neg h,he,List.idxOf_cons_self,zi];omega
theorem eN{α:Type}{l:List α}{a:α}{i:Nat}(hi:i<l.length)(h:a ∉ l.take i)(he:l[i]≠a):a ∉ l.take (i+1):=by
 rw[List.take_succ_eq_append_getElem hi,List.mem_append,List.mem_singleton];exact fun q=>q.elim h (fun e=>he e.symm)
theorem Of(hE:bY w0 A0 b G q mb g s vC vI rs gv E F S Inv)(hf:Fr G G w0 W)(hR:uz b A0 q g gv G F S Inv r W)(hk:s.code[k]? = some x){t:Wd}(hc:Y7 s x=some t){I ic:Nat}(Js:vI = .slice (some ⟨I,0,none⟩) s.code.length ic)(uN:x.k.tail.all (fun j=>decide (j<s.cs.length))=true)(M0:x.k.length<=1000000) :
  Calls Tryz.prog 136 #[.pointer (some ⟨b,0,none⟩),.pointer (some ⟨I,k*5,none⟩)] W (Xa F S Inv r.gs W (eL s x) (CM E t r.gs)):=by
 obtain⟨j,hj,ht⟩:=Z8 hc;have hp:=hE.prog W hf;obtain⟨I1,ic1,kv,tv,q1,lt,i0,-,i3,-,kr,-⟩:=hp.ins hk;have YP:=zQ (hp.q1.symm.trans q1);rw[Js] at YP;simp only[zD,zE,zW,and_true,true_and] at YP;rw[←YP.1] at i3;obtain⟨C,cc,q0,cj,K3⟩:=hp.mO ht;obtain⟨K,kc,rfl,kj,ya5⟩:=kr.at_ hj;have h3:=hE.n3 t (zy ht);obtain⟨v,st,cs,hO,vR,fP,hi,ZT,Yr,hS,hA,hF⟩:=hR;have Lz:E9 b A0 q g gv G F S Inv r v st cs W:=⟨hO,vR,fP,hi,ZT,Yr,hS,hA,hF⟩;have Xc:DO b q j t W:=⟨hO.cell.1,C,s.cs.length,cc,q0,cj,K3,hE.n2⟩;have Dr:=z7 (eC hE.get b q j t r.gs W hO.cell.2.2.1 Xc hi (by omega));obtain⟨z,hZ⟩:∃ z,x.k.length=z:=⟨_,rfl⟩;rw[hZ] at i3 ya5 M0;obtain⟨res,vP⟩:∃ res,CM E t r.gs=res:=⟨_,rfl⟩;rw[vP] at Dr ⊢;have k3:(0:Int)<(z:Int):=by omega
 have HE:=z7 hE;have HF:=z7 hf;have Ew:=z7 Lz;have HK:=z7 hk;have HVI:=z7 Js;have mU:=z7 uN;have HZ:=z7 hZ;clear hE hf Lz hk Js uN hp hO vR fP hi ZT Yr hS hA hF kr hj ht hc Xc vP q1 i0 q0 cj lt K3 YP hZ;go_enter func136,ntmps136;go_wp2_with fail;refine Dr.out.mono ?_;intro e w1 hq
 cases res with
 | error er =>
  obtain⟨c,s'⟩:=er;obtain⟨⟨uM,rfl,hold⟩,hI⟩:=hq;have HQ:=z7 (show Xa F S Inv r.gs W (eL s x) (.error (c,s'):Except (Nat×τ) (Wd×τ)) (.panicked ({ v:=ql c,recovered:=false }::uM)) w1 from⟨⟨uM,rfl,hold⟩,hI⟩);clear hold hI Dr;go_wp2;exact⟨rfl,HQ.out⟩
 | ok p =>
  obtain⟨u,s'⟩:=p;obtain⟨⟨hu,rfl⟩,hI⟩:=hq;obtain⟨h1,h2⟩:=Ew.out.asked HE.out hI;have hp:=HE.out.prog w1 (HF.out.trans h2);obtain⟨I1,ic1,kv,tv,q1,lt,i0,-,i3',-,kr,-⟩:=hp.ins HK.out;have YP:=zQ (hp.q1.symm.trans q1);rw[HVI.out] at YP;simp only[zD,zE,zW,and_true,true_and] at YP;rw[←YP.1] at i3';obtain⟨K2,kc2,Qa,ya6,ya7,ES⟩:=vQ kr (by rw[HZ.out];omega);have WB:x.k.length<=kc2:=by
   rcases kr.2 with⟨hv,hn⟩|⟨g2,uO,cur,hv,_,_,hh,_⟩
   ·rw[HZ.out] at hn;omega
   ·rw[Qa] at hv;cases hv;exact hh
  rw[Qa,HZ.out] at i3';rw[HZ.out] at WB;have b0:=h1.o.cell.1;have HI:=z7 hI;have HP:=z7 hp;have TD:=z7 ES;obtain⟨y,rfl⟩:∃ y,z=y+1:=⟨z - 1,by omega⟩;have l4:1<=kc2:=by omega
  have l5:((y:Int)+1) - 1=(y:Int):=by omega
  obtain⟨L,hL⟩:∃ L,x.k.tail.map (fun j=>s.cs[j]?)=L:=⟨_,rfl⟩;have hLl:L.length=y:=by rw[←hL,List.length_map,yv,HZ.out];omega
  have wZ:VU s x u=L.idxOf (some u):=by unfold VU;rw[hL]
  have HL:=z7 (z8 hL (z8 hLl wZ));have qs:(⟨u.toArray⟩:ByteArray).size=u.length:=size_mk _;clear h1 h2 hI Dr hp q1 lt i0 kr YP Qa ES ya6 ya7 kj i3 hL hLl wZ;by_cases hk1:kc2=1
  ·obtain rfl:y=0:=by omega
   subst hk1;have HQ:=z7 (show VU s x u=0 by
    obtain⟨a,b,c⟩:=HL.out;rw[c,List.eq_nil_of_length_eq_zero b];rfl)
   go_wp2_with fail;go_loopw [20] (fun iv wr=>iv = .int .i64 0/\wr=w1) (fun _ _=>0)
   case atStart=>exact⟨rfl,rfl⟩
   case round =>
    obtain⟨rfl,rfl⟩:=hrel;go_wp2;go_ret;exact⟨by unfold eL;rw[HQ.out];rfl,HI.out⟩
  ·go_wp2_with fail;go_loopw [20] (fun iv wr=>∃ i:Nat,iv = .int .i64 (i:Nat)/\i<=y/\some u ∉ L.take i/\Fr xS xS w1 wr) (fun iv _=>y - (intOf iv).toNat)
   case atStart=>exact⟨0,rfl,Nat.zero_le _,by simp,Fr.refl _ _⟩
   case round =>
    obtain⟨i,rfl,hiy,EA,YY⟩:=hrel;have Jd:=z7 YY;have HN:=z7 EA;by_cases xC:i<y
    ·obtain⟨hL,hLl,wZ⟩:=HL.out;have Vc:i<L.length:=by omega
     have hkt:i<x.k.tail.length:=by rw[yv,HZ.out];omega
     have Ot:x.k.tail[i]<s.cs.length:=of_decide_eq_true (zf.1 mU.out _ (yu hkt));have we:x.k[i+1]? = some x.k.tail[i]:=by rw[List.getElem_tail,zu]
     obtain⟨jj,hjj⟩:∃ jj,x.k.tail[i]=jj:=⟨_,rfl⟩;rw[hjj] at Ot we;obtain⟨c,Pv⟩:∃ c,s.cs[jj]? = some c:=⟨_,zu Ot⟩;have hLi:L[i]=some c:=by
      have:L[i]? = some (some c):=by rw[←hL,List.getElem?_map,zu hkt,hjj,Option.map_some,Pv]
      rw[zu Vc] at this;exact zQ this
     obtain⟨C2,cc2,q0,cj,K3⟩:=HP.out.mO Pv;have q0':=YY.cell q0 id;have cj':=YY.cell cj id;have b0':=YY.cell b0 id;have i3b:=YY.cell i3' id;have kj':wr.cell? ⟨K2,i+1,none⟩=some (.int .i64 jj):=YY.cell (by rw[TD.out _ (by rw[HZ.out];omega)];simp[Zf,we]) id;obtain⟨mm,M4⟩:∃ mm,s.cs.length=mm:=⟨_,rfl⟩;rw[M4] at q0' K3;have f1:(i:Int)<(y:Int):=by omega
     have f2:(1:Int)+(i:Int)<(y:Int)+1:=by omega
     have f3:(0:Int)<=1+(i:Int):=by omega
     have f4:zS.wrap (1+(i:Int))=1+(i:Int):=by rw[zN];omega
     have f5:(1+(i:Int)).toNat=i+1:=by omega
     have f6:(jj:Int)<(mm:Int):=by omega
     have xj1:(⟨c.toArray⟩:ByteArray).size=c.length:=size_mk _;clear YY EA q0 cj K3 Pv hjj we Ot hkt hL hLl wZ M4;by_cases hcu:c=u
     ·subst hcu;have HS:=z7 (show VU s x c=i by rw[HL.out.2.2];exact eM Vc HN.out hLi);clear hLi Vc;go_wp2_with fail;refine rt (fun W':World=>W'.cell? ⟨b,0,none⟩=some (.pointer (some ⟨q,0,none⟩))/\W'.cell? ⟨q,0,none⟩=some (.slice (some ⟨C2,0,none⟩) mm cc2)/\W'.cell? ⟨I,k*5+3,none⟩=some (.slice (some ⟨K2,0,none⟩) (y+1) kc2)/\W'.cell? ⟨K2,i+1,none⟩=some (.int .i64 jj)/\W'.cell? ⟨C2,jj,none⟩=some (xf c)) (zX 19) 0 ⟨b0',q0',i3b,kj',cj'⟩ ?_;(iterate 19 (refine ty ?_;try simp only[pl]))
      refine xk ?_;refine wpAnyH_done (by kernel_rfl) ?_ _;go_wp2;go_ret;exact⟨by unfold eL;rw[HS.out];rfl,Xa.more HE.out.get HI.out (Jd.out.drew) (fun _ q=>q.elim)⟩
     ·have lr:=z7 (eN Vc HN.out (by rw[hLi];exact fun e=>hcu (zQ e)));have xj2:(c==u)=false:=by simpa using hcu
      clear hLi Vc;go_wp2_with fail;refine rt (fun W':World=>W'.cell? ⟨b,0,none⟩=some (.pointer (some ⟨q,0,none⟩))/\W'.cell? ⟨q,0,none⟩=some (.slice (some ⟨C2,0,none⟩) mm cc2)/\W'.cell? ⟨I,k*5+3,none⟩=some (.slice (some ⟨K2,0,none⟩) (y+1) kc2)/\W'.cell? ⟨K2,i+1,none⟩=some (.int .i64 jj)/\W'.cell? ⟨C2,jj,none⟩=some (xf c)) (zX 19) 0 ⟨b0',q0',i3b,kj',cj'⟩ ?_;(iterate 19 (refine ty ?_;try simp only[pl]))
      refine xk ?_;refine wpAnyH_done (by kernel_rfl) ?_ _;go_wp2;exact⟨⟨i+1,congrArg (zH .i64) (by omega),by omega,lr.out,Jd.out.drew⟩,by simp only[intOf];omega⟩
    ·obtain rfl:i=y:=by omega
     have HS:=z7 (show VU s x u=i by
      obtain⟨hL,hLl,wZ⟩:=HL.out;rw[wZ];have h:=HN.out;rw[List.take_of_length_le (by omega)] at h;rw[List.idxOf_eq_length h,hLl])
     have i3b:=YY.cell i3' id;have f1:¬((i:Int)<(i:Int)):=by omega
     clear YY EA;go_wp2;go_ret;exact⟨by unfold eL;rw[HS.out];first|rfl|simp,Xa.more HE.out.get HI.out Jd.out (fun _ q=>q.elim)⟩
end
theorem jZ.b6{q mb k:Nat}{s:MkS}{vC vI:Value}{rs:List (Value×Value)}{w:World}{x:jC}(h:jZ q s vC vI rs mb w)(hk:s.code[k]? = some x):∃ I ic kv tv,rs[k]? = some (kv,tv)/\vI = .slice (some ⟨I,0,none⟩) s.code.length ic/\zlz q k x I s.code.length ic kv tv w:=by
 have hil:=(zo.1 hk).1;obtain⟨⟨kv,tv⟩,hr⟩:∃ r,rs[k]? = some r:=⟨_,zu (by have:=h.rows.len;omega)⟩;obtain⟨h1,h2⟩:=h.rows.k k x _ hk hr;obtain⟨I,ic,Js,-,hI,RA⟩:=vQ h.cI (by omega);have c:∀ j,j<5->w.cell? ⟨I,k*5+j,none⟩=(D9 x (kv,tv))[j]? := fun j hj=>by rw[RA _ (by omega),UC _ _ h.rows.len k j x _ hk hr hj]
 exact⟨I,ic,kv,tv,hr,Js,⟨by rw[h.q1,Js],hil,c 0 (by omega),c 2 (by omega),c 3 (by omega),c 4 (by omega),h1,h2⟩⟩
section
variable {τ:Type} {w0 W:World} {A0 b q mb g k:Nat} {G:Nat->Prop} {s:MkS} {vC vI gv:Value} {rs:List (Value×Value)} {E:qq τ} {F S:τ->Nat->Prop} {Inv:τ->World->Prop} {r:bh τ} {x:jC}
def zou(b A0 q g:Nat)(gv:Value)(G:Nat->Prop)(F S:τ->Nat->Prop)(Inv:τ->World->Prop)(s:MkS)(x:jC)(r:bh τ)(res:Except (Nat×τ) (Wd×τ))(W:World)(e:Ending)(w':World):Prop :=
 (match res with
  | .ok (u,s')=>(∀ p,x.tg[VU s x u]? = some p->e = .returned (.int .i64 (JV s p)))/\uz b A0 q g gv G F S Inv { r with gs:=s' } w'
  | .error (n,s')=>zk9 n e/\E8 Inv S b { r with gs:=s' } w')/\Fr G G W w'
theorem Ly(hE:bY w0 A0 b G q mb g s vC vI rs gv E F S Inv)(hf:Fr G G w0 W)(hR:uz b A0 q g gv G F S Inv r W)(hk:s.code[k]? = some x)(uR:x.op=10){t:Wd}(hc:Y7 s x=some t)(uN:x.k.tail.all (fun j=>decide (j<s.cs.length))=true)(M0:x.k.length<=1000000)(JU:∀ u,∃ p,x.tg[VU s x u]? = some p) :
  Calls Tryz.prog 87 #[.pointer (some ⟨b,0,none⟩),.int .i64 (k:Nat)] W (zou b A0 q g gv G F S Inv s x r (CM E t r.gs) W):=by
 have hp:=hE.prog W hf;obtain⟨I,ic,kv,tv,bF,Js,q1,lt,i0,-,-,i4,-,tr⟩:=hp.b6 hk;obtain⟨p0,hp0⟩:=JU [];obtain⟨T,tc,htv,-,yax⟩:=tr.at_ hp0;obtain⟨v,st,cs,hO,vR,fP,hi,ZT,Yr,hS,hA,hF⟩:=hR;have Lz:E9 b A0 q g gv G F S Inv r v st cs W.drew:=⟨hO,vR,fX.fr ((Fr.refl xS W).drew) (fun _ q=>q.elim) (fun _ q => .inl q) fP,hE.get.fr hi ((Fr.refl xS W).drew) (fun _ q=>q.elim),ZT,Yr,hS,hA,hF⟩;have hRA:uz b A0 q g gv G F S Inv r W.drew:=⟨v,st,cs,Lz.o,Lz.row,Lz.en,Lz.inv,Lz.sb,Lz.sv,Lz.ds,Lz.da,Lz.df⟩;have eX:Fr G G w0 W.drew:=hf.drew;have HCH:=z7 (Of hE eX hRA hk hc Js uN M0);have b0:=hO.cell.1;have ZK:=hE.n1;obtain⟨n,hN⟩:∃ n,s.code.length=n:=⟨_,rfl⟩;obtain⟨z,hZ⟩:∃ z,x.tg.length=z:=⟨_,rfl⟩;obtain⟨res,vP⟩:∃ res,CM E t r.gs=res:=⟨_,rfl⟩;rw[vP] at HCH ⊢;have HI4:=z7 (fun (w:World) (h:jZ q s vC vI rs mb w)=>show w.cell? ⟨I,k*5+4,none⟩=some (.slice (some ⟨T,0,none⟩) z tc)/\∀ j y,x.tg[j]? = some y->w.cell? ⟨T,j,none⟩=some (.int .i64 (y:Nat)) from by
  obtain⟨I',ic',o8,tv',zoq,zku,q1',-,-,-,-,i4',-,tr'⟩:=h.b6 hk;rw[Js] at zku;simp only[zD,zE,zW,and_true,true_and] at zku;rw[bF] at zoq
  cases zoq;rw[←zku.1] at i4';refine⟨by rw[i4',htv,hZ],fun j y hj=>?_⟩;obtain⟨T',tc',zok,pI,-⟩:=tr'.at_ hj;rw[htv] at zok
  cases zok;exact pI)
 have i4W:=(HI4.out W hp).1;have tjW:=(HI4.out W hp).2;rw[hN] at q1 lt ZK;rw[uR] at i0;have k1:(k:Int)<(n:Int):=by omega
 have HE:=z7 hE;have HF:=z7 eX;have Ew:=z7 Lz;have HTB:=z7 JU;have HX4:=z7 (fun p hp=>(hE.n4 x (zy hk)).2 p hp);obtain⟨TG,hTG⟩:∃ TG,x.tg=TG:=⟨_,rfl⟩;rw[hTG] at tjW hZ HI4;have HZ:=z7 hZ;have HTG:=z7 hTG;clear hE hf Lz hRA hk uR hc uN hp hO vR fP hi ZT Yr hS hA hF hN hZ tr bF Js i4 yax JU vP hp0 eX hTG htv;go_enter func87,ntmps87;go_wp2_with fail;refine rt (fun W':World=>W'.cell? ⟨b,0,none⟩=some (.pointer (some ⟨q,0,none⟩))/\W'.cell? ⟨I,k*5+4,none⟩=some (.slice (some ⟨T,0,none⟩) z tc)/\∀ j y,TG[j]? = some y->W'.cell? ⟨T,j,none⟩=some (.int .i64 (y:Nat))) (zX 10) 5 ⟨b0,i4W,tjW⟩ ?_;(iterate 10 (refine ty ?_;try simp only[pl]))
 refine xk ?_;refine xg 10 (by kernel_rfl) rfl (fun J hJ=>?_);go_simp;refine HCH.out.mono ?_;intro e w1 hq
 cases res with
 | error er =>
  obtain⟨c,s'⟩:=er;obtain⟨⟨uM,rfl,hold⟩,hI⟩:=hq;obtain⟨h1,h2⟩:=Ew.out.asked HE.out hI;have HQ:=z7 (show zou b A0 q g gv G F S Inv s x r (.error (c,s'):Except (Nat×τ) (Wd×τ)) W (.panicked ({ v:=ql c,recovered:=false }::uM)) w1 from⟨⟨⟨uM,rfl,hold⟩,h1.inv,fun k hk=>(h1.ds k hk).1⟩,h2.und⟩);clear hold hI HCH h1 h2;exact⟨rfl,HQ.out⟩
 | ok p =>
  obtain⟨u,s'⟩:=p;obtain⟨NL,hI⟩:=hq;obtain rfl:=NL;obtain⟨h1,h2⟩:=Ew.out.asked HE.out hI;have UH:=HE.out.prog w1 (HF.out.trans h2);obtain⟨wb,pW⟩:=HI4.out w1 UH;have wg:=h1.o.cell.1;obtain⟨p,U0⟩:=HTB.out u;obtain⟨ix,Sk⟩:∃ ix,VU s x u=ix:=⟨_,rfl⟩;rw[Sk] at U0 ⊢;have zkq:TG[ix]? = some p:=by rw[←HTG.out];exact U0
  have k3:(ix:Int)<(z:Int):=by have:=(zo.1 zkq).1;have:=HZ.out;omega
  have QL:=z7 (Ff q mb s.code.length p (dK s.code s.code.length) w1 UH.q2 UH.mp (HX4.out p (zy U0)));have tj1:=pW ix p zkq;have Jd:=z7 (show Fr G G W w1 from h2.und);have dY:=z7 h1;obtain⟨jv,BE⟩:∃ jv,JV s p=jv:=⟨_,rfl⟩;rw[show Ov (dK s.code s.code.length p)=jv from BE] at QL;have HJV:=z7 BE;have Dh:=z7 (z8 U0 Sk);clear hI HCH h1 h2 UH BE U0 Sk b0 i4W tjW;refine hJ.out _ _ ⟨wg,wb,pW⟩ fun _=>?_
  clear hJ J;refine xE [11,12] 2 rfl (by intro _ _ d _ _ h;cases d<;>exact h) (by kernel_rfl) (by kernel_rfl) ⟨wg,wb,pW⟩ ?_;refine ty ?_;try simp only[pl]
  refine QT (v := .int .i64 (p:Nat)) rfl (by rfl) ?_ ?_
  ·intro w' sf;have t1:=sf.2.2 ix p zkq;go_simp
  try simp only[pl]
  refine xk ?_;refine xg 13 (by kernel_rfl) rfl (fun J hJ=>?_);go_simp;refine QL.out.mono ?_;rintro e w3 ⟨rfl,rfl⟩;refine hJ.out _ _ ⟨wg,wb,pW⟩ fun _=>?_
  clear hJ J;refine xE [14] 0 rfl (by intro _ _ d _ _ h;cases d<;>exact h) (by kernel_rfl) (by kernel_rfl) ⟨wg,wb,pW⟩ ?_;refine ty ?_;try simp only[pl]
  refine xk ?_;refine wpAnyH_done (by kernel_rfl) ?_ _;go_wp2;go_ret;refine⟨⟨fun p' hp'=>?_,⟨_,_,_,dY.out.o,dY.out.row,dY.out.en,dY.out.inv,dY.out.sb,dY.out.sv,dY.out.ds,dY.out.da,dY.out.df⟩⟩,Jd.out⟩;rw[Dh.out.2,Dh.out.1] at hp'
  cases hp';rw[HJV.out];rfl
end
def eO(s:MkS):Prop:=∀ x∈s.code,(x.op=7->0<x.tg.length)/\(x.op=10->x.k.length<=1000000/\x.k.tail.all (fun j=>decide (j<s.cs.length))=true/\x.k.tail.length<x.tg.length)
section
variable {τ:Type} {w0 W:World} {A0 b q mb g k:Nat} {G:Nat->Prop} {s:MkS} {vC vI gv:Value} {rs:List (Value×Value)} {E:qq τ} {F S:τ->Nat->Prop} {Inv:τ->World->Prop} {r:bh τ} {x:jC}
def VmI(w0:World)(b A0 q g:Nat)(gv:Value)(G:Nat->Prop)(F S:τ->Nat->Prop)(Inv:τ->World->Prop)(m _:Nat)(r:bh τ)(W:World):Prop :=
 uz b A0 q g gv G F S Inv r W/\Fr G G w0 W/\r.out.length+m*5000<=900000000/\r.stk.length+m<=900000
def VmJ(w0:World)(b A0 q g:Nat)(gv:Value)(G:Nat->Prop)(F S:τ->Nat->Prop)(Inv:τ->World->Prop)(r:bh τ)(W:World):Prop :=
 uz b A0 q g gv G F S Inv r W/\r.out.length<=900000000
theorem Lx{n k m:Nat}(hl:n+(m+1)*5000<=k):n+m*5000<=k:=by
 rw[Nat.succ_mul] at hl;exact ze (Nat.add_le_add_left (zl _ _) n) hl
theorem BH{n k m:Nat}(hl:n+(m+1)<=k):n+m<=k:=by omega
theorem TB{n k m:Nat}(hl:n+(m+1)*5000<=k):n<=k:=by omega
theorem Rx{m:Nat}(hf:Fr G G w0 W)(hl:r.out.length+(m+1)*5000<=900000000)(hs:r.stk.length+(m+1)<=900000){r':bh τ}{e:Ending}{w':World}(h1:e = .returned (.int .i64 ((k+1:Nat):Int)))(h2:VmQ b A0 q g gv G F S Inv r (k+1) r' w')(h3:Fr G G W w') :
  NC G (VmI w0 b A0 q g gv G F S Inv m) (VmJ w0 b A0 q g gv G F S Inv) (E8 Inv S b) (.go (k+1) r') W e w' :=
 ⟨⟨h1,h2.1,hf.trans h3,by have:=h2.2.1;omega,by have:=h2.2.2;omega⟩,h3⟩
theorem pA{m:Nat}(hf:Fr G G w0 W)(hl:r.out.length+(m+1)*5000<=900000000)(hs:r.stk.length+(m+1)<=900000){r':bh τ}{e:Ending}{w':World}(h1:e = .returned (.int .i64 ((k+1:Nat):Int)))(h2:uz b A0 q g gv G F S Inv r' w')(h3:Fr G G W w')(a1:r'.out=r.out)(a2:r'.stk=r.stk) :
  NC G (VmI w0 b A0 q g gv G F S Inv m) (VmJ w0 b A0 q g gv G F S Inv) (E8 Inv S b) (.go (k+1) r') W e w':=by
 have k2:r.out.length+m*5000<=900000000:=Lx hl;have k3:r.stk.length+m<=900000:=BH hs;exact⟨⟨h1,h2,hf.trans h3,by simp only[a1];exact k2,by simp only[a2];exact k3⟩,h3⟩
theorem FY{m p:Nat}(hf:Fr G G w0 W)(hl:r.out.length+(m+1)*5000<=900000000)(hs:r.stk.length+(m+1)<=900000){r':bh τ}{e:Ending}{w':World}(h1:e = .returned (.int .i64 (JV s p)))(h2:uz b A0 q g gv G F S Inv r' w')(h3:Fr G G W w')(a1:r'.out=r.out)(a2:r'.stk=r.stk) :
  NC G (VmI w0 b A0 q g gv G F S Inv m) (VmJ w0 b A0 q g gv G F S Inv) (E8 Inv S b) (Mj s (some p) r') W e w':=by
 have k2:r.out.length+m*5000<=900000000:=Lx hl;have k1:r.out.length<=900000000:=TB hl;have k3:r.stk.length+m<=900000:=BH hs;refine⟨?_,h3⟩;simp only[Mj];subst h1;unfold JV
 cases dK s.code s.code.length p with
 | none=>exact⟨rfl,h2,by simp only[a1];exact k1⟩
 | some k'=>exact⟨rfl,h2,hf.trans h3,by simp only[a1];exact k2,by simp only[a2];exact k3⟩
def yaq(r:bh τ)(k:Nat){α:Type}(fn:α->τ->bh τ)(res:Except (Nat×τ) (α×τ)):SB (bh τ):=match res with | .error (n,s') => .err n { r with gs:=s' } | .ok (a,s') => .go (k+1) (fn a s')
theorem Od{m:Nat}{α:Type}{fn:α->τ->bh τ}(hf:Fr G G w0 W)(hl:r.out.length+(m+1)*5000<=900000000)(hs:r.stk.length+(m+1)<=900000){res:Except (Nat×τ) (α×τ)}{e:Ending}{w':World}(h:Oq b A0 q g gv G F S Inv r k fn res W e w'){o:SB (bh τ)}
  (ho:o=yaq r k fn res) :
  NC G (VmI w0 b A0 q g gv G F S Inv m) (VmJ w0 b A0 q g gv G F S Inv) (E8 Inv S b) o W e w':=by
 subst ho;obtain⟨h1,h2⟩:=h
 cases res with
 | error er=>exact⟨h1,h2⟩
 | ok a=>exact Rx hf hl hs h1.1 h1.2 h2
theorem Z9{α:Type}{l:List α}{t:α}(h:l.getLast? = some t):l=l.dropLast++[t]:=by
 obtain⟨ys,rfl⟩:=List.getLast?_eq_some_iff.1 h;simp
theorem eP{x:jC}{i:Nat}{r:bh τ}(h:Mj s x.tg[i]? r ≠ .bad):∃ p,x.tg[i]? = some p:=by
 cases hp:x.tg[i]? with
 | none=>rw[hp] at h;exact absurd rfl h
 | some p=>exact⟨p,rfl⟩
theorem r6(hE:bY w0 A0 b G q mb g s vC vI rs gv E F S Inv)(hT:eO s){m:Nat}(hI:VmI w0 b A0 q g gv G F S Inv (m+1) k r W)(hb:jA E s k r ≠ .bad) :
  Calls Tryz.prog 87 #[.pointer (some ⟨b,0,none⟩),.int .i64 (k:Nat)] W (NC G (VmI w0 b A0 q g gv G F S Inv m) (VmJ w0 b A0 q g gv G F S Inv) (E8 Inv S b) (jA E s k r) W):=by
 obtain⟨hR,hf,hl,hs⟩:=hI;have Bw:∀ {w w':World},Fr xS xS w w'->Fr G G w w':=fun h=>(h.tg (F'':=xS) (fun k hk=>hk.elim)).wide (fun k hk=>hk.elim)
 have dm:r.stk.length<=900000:=by omega
 have Vx:r.stk.length<=1000000:=by omega
 have ER:r.out.length<=900000000:=by omega
 cases hk:s.code[k]? with
 | none=>exact absurd (by simp only[jA,hk]) hb
 | some x =>
  have vR:jA E s k r=qy E s x k r:=by simp only[jA,hk]
  rw[vR] at hb ⊢;have Qm:x.op=0\/x.op=1\/x.op=2\/x.op=3\/x.op=4\/x.op=5\/x.op=6\/x.op=7\/x.op=8\/x.op=9\/x.op=10\/x.op=11\/12<=x.op:=by omega
  rcases Qm with uR|uR|uR|uR|uR|uR|uR|uR|uR|uR|uR|uR|uR
  ·rw[show qy E s x k r = .fin r by unfold qy;rw[uR];rfl];obtain⟨v,st,cs,hO,mL⟩:=hR;refine(step_end hO (hE.prog W hf) hk uR hE.n1).mono ?_;rintro e w' ⟨rfl,rfl⟩;exact⟨⟨rfl,⟨v,st,cs,hO,mL⟩,ER⟩,Fr.refl _ _⟩
  ·cases hc:Y7 s x with
   | none=>exact absurd (by unfold qy;rw[uR];simp only[hc]) hb
   | some t =>
    rw[show qy E s x k r = .go (k+1) { r with out:=r.out++t } by unfold qy;rw[uR];simp only[hc]];exact(eE hE hf hR hk uR hc ER).mono fun e w' h=>Rx hf hl hs h.1 h.2.1 h.2.2
  ·cases hc:Y7 s x with
   | none=>exact absurd (by unfold qy;rw[uR];simp only[hc]) hb
   | some t =>
    refine(eH hE hf hR hk uR hc ER).mono fun e w' h=>Od hf hl hs h ?_
    unfold qy;rw[uR];simp only[hc];generalize bw E t r.gs=z;rcases z with⟨n,g'⟩|⟨⟨t,num⟩,g'⟩<;>rfl
  ·cases hc:Y7 s x with
   | none=>exact absurd (by unfold qy;rw[uR];simp only[hc]) hb
   | some t =>
    refine(L8 hE hf hR hk uR hc ER).mono fun e w' h=>Od hf hl hs h ?_
    unfold qy;rw[uR];simp only[hc];generalize ZW E t r.gs=z;rcases z with⟨n,g'⟩|⟨v,g'⟩<;>rfl
  ·cases hc:Y7 s x with
   | none=>exact absurd (by unfold qy;rw[uR];simp only[hc]) hb
   | some t =>
    refine(Ok hE hf hR hk uR hc dm).mono fun e w' h=>Od hf hl hs h ?_
    unfold qy;rw[uR];simp only[hc];generalize ZW E t r.gs=z;rcases z with⟨n,g'⟩|⟨v,g'⟩<;>rfl
  ·cases hc:r.stk.getLast? with
   | none=>exact absurd (by unfold qy;rw[uR];simp only[hc]) hb
   | some t =>
    rw[show qy E s x k r = .go (k+1) { r with stk:=r.stk.dropLast } by unfold qy;rw[uR];simp only[hc]];exact(Ou hE hf hR hk uR (Z9 hc) Vx).mono fun e w' h=>Rx hf hl hs h.1 h.2.1 h.2.2
  ·cases hc:r.stk.getLast? with
   | none=>exact absurd (by unfold qy;rw[uR];simp only[hc]) hb
   | some t =>
    rw[show qy E s x k r = .go (k+1) { r with out:=r.out++E.wr t.2 } by unfold qy;rw[uR];simp only[hc]];exact(TQ hE hf hR hk uR (Z9 hc) Vx ER).mono fun e w' h=>Rx hf hl hs h.1 h.2.1 h.2.2
  ·cases hc:r.stk.getLast? with
   | none=>exact absurd (by unfold qy;rw[uR];simp only[hc]) hb
   | some t =>
    rw[show qy E s x k r=if qE t.1 x.v then Mj s x.tg[0]? r else .go (k+1) r by unfold qy;rw[uR];simp only[hc]] at hb ⊢;obtain⟨p,hp⟩:∃ p,x.tg[0]? = some p:=⟨_,zu ((hT x (zy hk)).1 uR)⟩;rw[hp];refine(Og hE hf hR hk uR hp (Z9 hc) Vx).mono fun e w' h=>?_
    by_cases EH:qE t.1 x.v=true
    ·rw[if_pos EH];exact FY hf hl hs (by rw[h.1,if_pos EH]) (hR.quiet hE h.2) (Bw h.2) rfl rfl
    ·rw[if_neg EH];exact pA hf hl hs (by rw[h.1,if_neg EH]) (hR.quiet hE h.2) (Bw h.2) rfl rfl
  ·cases hc:r.stk.getLast? with
   | none=>exact absurd (by unfold qy;rw[uR];simp only[hc]) hb
   | some t =>
    rw[show qy E s x k r=Mj s x.tg[E.sort false t.2.2]? r by unfold qy;rw[uR];simp only[hc]] at hb ⊢;obtain⟨p,hp⟩:=eP hb;rw[hp];exact(TJ hE hf hR hk uR (Z9 hc) hp Vx).mono fun e w' h=>FY hf hl hs h.1 (hR.quiet hE h.2) (Bw h.2) rfl rfl
  ·cases hc:r.stk.getLast? with
   | none=>exact absurd (by unfold qy;rw[uR];simp only[hc]) hb
   | some t =>
    rw[show qy E s x k r=Mj s x.tg[E.sort true t.2.2]? r by unfold qy;rw[uR];simp only[hc]] at hb ⊢;obtain⟨p,hp⟩:=eP hb;rw[hp];exact(TF hE hf hR hk uR (Z9 hc) hp Vx).mono fun e w' h=>FY hf hl hs h.1 (hR.quiet hE h.2) (Bw h.2) rfl rfl
  ·cases hc:Y7 s x with
   | none=>exact absurd (by unfold qy;rw[uR];simp only[hc]) hb
   | some t =>
    obtain⟨a1,a2,a3⟩:=(hT x (zy hk)).2 uR;have JU:∀ u,∃ p,x.tg[VU s x u]? = some p:=fun u=>⟨_,zu (Nat.lt_of_le_of_lt (by unfold VU;exact ze List.idxOf_le_length (by simp)) a3)⟩
    refine(Ly hE hf hR hk uR hc a2 a1 JU).mono fun e w' h=>?_
    rw[show qy E s x k r=(match CM E t r.gs with | .error (e,g) => .err e { r with gs:=g } | .ok (t,g)=>Mj s x.tg[VU s x t]? { r with gs:=g }) by unfold qy;rw[uR];simp only[hc,a2,if_true];generalize CM E t r.gs=z;rcases z with⟨n,g'⟩|⟨u,g'⟩<;>rfl];obtain⟨h1,h2⟩:=h
    cases hw:CM E t r.gs with
    | error er =>
     rw[hw] at h1;exact⟨h1,h2⟩
    | ok p =>
     obtain⟨u,s'⟩:=p;rw[hw] at h1;obtain⟨p,hp⟩:=JU u;show NC _ _ _ _ (Mj s x.tg[VU s x u]? { r with gs:=s' }) _ _ _;rw[hp];exact FY hf hl hs (h1.1 p hp) h1.2 h2 rfl rfl
  ·rw[show qy E s x k r=Mj s x.tg[0]? r by unfold qy;rw[uR];rfl] at hb ⊢;obtain⟨p,hp⟩:=eP hb;rw[hp];exact(step_goto hE hf hR hk uR hp).mono fun e w' h=>FY hf hl hs h.1 (hR.quiet hE h.2) (Bw h.2) rfl rfl
  ·refine absurd ?_ hb;unfold qy;split<;>first|rfl|omega
end
end Go.Proofs.YthpldolmpinnhaaGreatDoor
