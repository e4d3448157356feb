import Derived.Test.YthpldolmpinnhaaGreatDoorJG33
import Derived.Deep.CutBlock
set_option maxHeartbeats 64000000
open Go.Lib renaming hid→z7
open And renaming intro→z8
open List renaming mem_of_getElem?→zy,getElem?_cons_zero→zu,getElem?_cons_succ→zk,replicate→zj,getElem?_toArray→zg,all_eq_true→zY,range→zV,length_append→zU,mem_of_mem_drop→zJ,length_drop→zE,take_left→zP,eq_of_mem_replicate→zS,length_replicate→za,length_pos_iff→ze,append_assoc→zi,length_take→zl,all_append→zn
open Go.Value renaming ownBlock→zx,int→zD,bool→zI
open Go.World renaming frozen?_setCell→zv,cell?_alloc_lt→zf,block_lt_of_cell?→zZ,frozen?_of_block→zX,setCell→zR
open Nat renaming le_refl→zQ,lt_of_lt_of_le→zF,le_succ→zL,le_add_right→zm
open Go.RowKit.Below renaming refl→zG
open Go.Builtin renaming append_→zH,zeroCells→zM
open Go.IntKind renaming wrap_i64→zN,i64→zO
open Option.some renaming inj→zW
open Array renaming toList_append→zc
open Go.Proofs.Tryz
namespace Go.Proofs.YthpldolmpinnhaaGreatDoor
open Go Go.RowKit
set_option maxRecDepth 10000
def fy(M:Nat->Prop)(w:World)(v:Value)(n:vq):Prop :=
 ∃ g o cap,v = .agg #[.bool n.1,.slice (some ⟨g,o,none⟩) (n.2.1.length+n.2.2.length) cap,.int .i64 n.2.2.length]/\n.2.1.length+n.2.2.length<=cap/\cap<=maxLen/\¬M g/\(∃ c,w.cell? ⟨g,0,none⟩=some (.int .u8 c))/\xK w (some ⟨g,o,none⟩) (xl (n.2.1++n.2.2))/\EG n.2
theorem fy.num{M:Nat->Prop}{w:World}{v:Value}{n:vq}(h:fy M w v n):uP w v n.2:=by
 obtain⟨g,o,cap,h1,h2,h3,_,h4,h5,h6⟩:=h;exact⟨n.1,g,o,cap,h1,h2,h3,h4,h5,h6⟩
theorem xK.fr{F F':Nat->Prop}{w w':World}{a:Addr}{l:List Int}(h:xK w (some a) l)(hf:Fr F F' w w')(ha:¬F a.block):xK w' (some a) l:=fun j hj=>by
 obtain⟨b,hb,hc⟩:=h j hj
 cases hb;have e:(a.add j).block=a.block:=by unfold Addr.add;split<;>rfl
 exact⟨a,rfl,hf.cell hc (by rw[e];exact ha)⟩
theorem fy.fr{M M' F F':Nat->Prop}{w w':World}{v:Value}{n:vq}(h:fy M w v n)(hf:Fr F F' w w')(hF:∀ k,F k->M k)(hM:∀ k,M' k->M k\/w.heap.size<=k):fy M' w' v n:=by
 obtain⟨g,o,cap,h1,h2,h3,hg,⟨c,h4⟩,h5,h6⟩:=h;have hl:=zZ w _ h4;exact⟨g,o,cap,h1,h2,h3,fun q=>(hM g q).elim hg (fun q=>by simp only at hl;omega),⟨c,hf.cell h4 (fun q=>hg (hF g q))⟩,h5.fr hf (fun q=>hg (hF g q)),h6⟩
theorem Ro(l:Wd)(a:Addr)(c sz:Nat)(w:World)(hs:l.length<=sz)(h0:0<sz)(hk:sz<=300)(hB:xK w (some a) (xl l)) :
  Calls Tryz.prog 167 #[.slice (some a) l.length c,.int .i64 (sz:Int)] w fun e w'=>(∃ g cp,e = .returned (.slice (some ⟨g,0,none⟩) sz cp)/\xK w' (some ⟨g,0,none⟩) (xl (fU sz l))/\w.heap.size<=g)/\Below w.heap.size w w':=by
 obtain⟨k,rfl⟩:∃ k,sz=l.length+k:=⟨sz - l.length,by omega⟩;refine(iU l a c k w (by omega) (by omega) hB).mono ?_;rintro e w' ⟨⟨v,rfl,ho⟩,hb⟩;have Oy:(fU (l.length+k) l).length=l.length+k:=by rw[Gg];omega
 obtain⟨g,cp,rfl,hg,-,-⟩:=vZ ho h0;exact⟨⟨g,cp,rfl,qO ho Oy.symm,hg⟩,hb⟩
theorem Wv(w:World)(B g cap n:Nat)(l:Wd)(xV:w.ownsRow B 5 1 (.slice (some ⟨g,0,none⟩) n cap) n (vz l))(k:Nat)(hn:n+k<=1000000)(ty:TypeId) :
  ∃ v' w',(zH #[48,3] ty #[.slice (some ⟨g,0,none⟩) n cap,.int .i64 (k:Int)]).run Tryz.prog w = .ok v' w'/\w'.ownsRow B 5 1 v' (n+k) (vz (l++zj k 48))/\w.grownBy w' (some g):=by
 obtain⟨i,hi,hz,h2,h3⟩:=vx.info;have ht:=vx.under;have oX:=underlying3;rcases xV.2 with⟨hv,_⟩|⟨g',vw,cur,hv,Dl,hg,hnc,jS,dT,X7⟩
 .cases hv
 cases hv;have Ha:l.length=n:=by have:=xV.1;simpa[vz] using this
 have yb1:cur.size=cap:=by simpa using dT
 have hw:zO.wrap (k:Int)=k:=by rw[zN];omega
 have yab:¬((k:Int)<0):=by omega
 have TI:¬(281474976710656<(k:Int)*(i.bytes:Int)):=by rw[h3];omega
 have hzc:(zM (zD .u8 0).cells k)=(zj k (zD .u8 0)).toArray:=by
  apply Array.ext';apply List.ext_getElem
  .simp[zM,Value.cells]
  .intro j h1 h2;simp[zM,Value.cells];rw[Nat.mod_one];rfl
 by_cases Ga:n+k<=cap
 .by_cases h0:k=0
  .subst h0;refine⟨_,w,?_,by simpa using xV,World.grownBy.refl _ _⟩;have hw0:zO.wrap 0=0:=by decide
   have yc0:n<=cap:=hnc;simp[zH,run_underlying ht,run_underlying oX,sizeOf,typeInfo,hi,h2,h3,asInt,asIntOf,hw0,yc0];rfl
  .have vM:=run_storeCells_at Tryz.prog g n 5 (zj k (zD .u8 0)) 0 cur w hg (by simp;omega) (by intro v hv;rw[zS hv];rfl);simp only[Nat.add_zero,za] at vM;refine⟨.slice (some ⟨g,0,none⟩) (n+k) cap,w.setRow g (cur.toList.take n++zj k (zD .u8 0)++cur.toList.drop (n+k)).toArray,?_,⟨by simp[vz,Ha],.inr ⟨g,cap,_,rfl,Dl,setRow_heap w g cur _ _ _ hg,Ga,jS,?_,?_⟩⟩,⟨rfl,rfl,rfl,by simp,fun j _ hj=>setRow_other w g j _ (fun e=>hj (by simp[e]))⟩⟩
   .simp[zH,run_underlying ht,run_underlying oX,sizeOf,typeInfo,zeroValue,hi,hz,h2,h3,asInt,asIntOf,hw,yab,h0,Ga,hzc,Addr.add_lit,vM];intro xgy;omega
   .simp;omega
   .have ht':cur.toList.take n=vz l:=by simpa using X7
    rw[ht',Fi,Xr];have:(vz l++zj k (zD .u8 0)).length=(n+k)*1:=by simp[vz,Ha]
    rw[<-this];exact zP
 .have holds:∀ j u,(vz l)[j]? = some u->w.cell? ((⟨g,0,none⟩:Addr).add j)=some u:=xV.cells (g:=g) rfl;have Jj:=run_firstCells_some (P:=Tryz.prog) w.drew i.size n ⟨g,0,none⟩ n cap (vz l) (by rw[h2];simp[vz,Ha]) (by simpa using holds);have hr:=Lib.run_append_grow_zeros (P:=Tryz.prog) w _ _ ty _ i _ .i64 .i64 ht oX hi hz (some ⟨g,0,none⟩) n cap (vz l) Jj k (by omega) (by omega) (by omega) (by omega) (by rw[h3];omega) (by rw[h3];exact growslice_fits (by omega) (by omega));have xB:=(Array.getElem?_eq_some_iff.1 hg).1;have hge:=grownCap_ge w (n+k) cap 5;refine⟨_,_,hr,⟨by simp[vz,Ha],.inr ⟨w.heap.size,_,_,rfl,by omega,heap_alloc_new w.drew _,hge,grownCap_le_maxLen w (n+k) cap 5 (by unfold maxLen;omega),?_,?_⟩⟩,⟨rfl,rfl,rfl,by simp,fun k hk _=>heap_alloc_old w.drew _ hk⟩⟩
  .have Qv:(zD IntKind.u8 0).cells.size=1:=rfl;simp only[Array.size_append,List.size_toArray,size_zeroCells,Qv];simp[vz,Ha];omega
  .rw[hzc,zc,zc,Fi,Xr];have:(vz l++zj k (zD .u8 0)).length=(n+k)*1:=by simp[vz,Ha]
   rw[<-this];exact zP
theorem iJ(n:vq)(v:Nat):X9 n v=if n.1 then (decide (xE (n.2.1++n.2.2)+v*10 ^ n.2.2.length≠0),Bz (xE (n.2.1++n.2.2)+v*10 ^ n.2.2.length) n.2.2.length)
 else if xE (n.2.1++n.2.2)<v*10 ^ n.2.2.length then (true,Bz (v*10 ^ n.2.2.length - xE (n.2.1++n.2.2)) n.2.2.length)
 else (false,Bz (xE (n.2.1++n.2.2) - v*10 ^ n.2.2.length) n.2.2.length):=rfl
def EH(B O q sc:Nat)(nb:Bool)(r:Nat)(w wc:World):Prop :=
 ∃ g n' cap d,wc.cell? ⟨O,0,none⟩=some (.bool nb)/\wc.cell? ⟨O,1,none⟩=some (.slice (some ⟨g,0,none⟩) n' cap)/\wc.cell? ⟨O,2,none⟩=some (.int .i64 (sc:Nat))/\(∀ j,wc.frozen? ⟨O,j,none⟩=false) /\
  wc.cell? ⟨q,2,none⟩=some (.int .i64 (sc:Nat))/\dC wc (q+1)/\wc.ownsRow B 5 1 (.slice (some ⟨g,0,none⟩) n' cap) n' (vz d)/\g≠O/\d.length=n'/\sc+1<=n'/\n'<=61/\d.all xF=true/\xE d=r/\Below B w wc
theorem dC.other{w:World}{q:Nat}(h:dC w q){a:Addr}(ha:a.block≠q)(u:Value):dC (w.setCell a u) q :=
 ⟨uV h.c0 _ ha,uV h.c1 _ ha,uV h.c2 _ ha,by rw[zv];exact h.z0,by rw[zv];exact h.z1,by rw[zv];exact h.z2,by simpa[zR] using h.lt⟩
theorem EH.mk1{B O q sc r n' cap g:Nat}{nb:Bool}{w w6:World}{u:Value}{d:Wd}(c0:w6.cell? ⟨O,0,none⟩=some (.bool nb))(c1:w6.cell? ⟨O,1,none⟩=some u)(c2:w6.cell? ⟨O,2,none⟩=some (.int .i64 (sc:Nat)))(fz:∀ j,w6.frozen? ⟨O,j,none⟩=false)
  (cq:w6.cell? ⟨q,2,none⟩=some (.int .i64 (sc:Nat))) (hR:dC w6 (q+1)) (hq:q+1<O) (ho:w6.ownsRow B 5 1 (.slice (some ⟨g,0,none⟩) n' cap) n' (vz d)) (hg:g≠O) (hl:d.length=n') (h1:sc+1<=n') (h3:n'<=61) (hd:d.all xF=true) (hr:xE d=r) (hb:Below B w w6) (hO:B<=O) :
  EH B O q sc nb r w (w6.setCell ⟨O,1,none⟩ (.slice (some ⟨g,0,none⟩) n' cap)) :=
 ⟨g,n',cap,d,by rw[xk,if_neg (by simp)];exact c0,uy c1 _,by rw[xk,if_neg (by simp)];exact c2,fun j=>by rw[zv];exact fz j,uV cq _ (by show O≠q;omega),hR.other (by show O≠q+1;omega) _,xp ho (by simp[zx,Ne.symm hg]) _,hg,hl,h1,h3,hd,hr,hb.setCell hO _⟩
theorem EH.Xu{B O q sc r:Nat}{nb:Bool}{w wc:World}(h:EH B O q sc nb r w wc)(hq:q+1<O)(hO:B<=O)(b:Bool):EH B O q sc b r w (wc.setCell ⟨O,0,none⟩ (.bool b)):=by
 obtain⟨g,n',cap,d,c0,c1,c2,fz,cq,hR,ho,hg,hl,h1,h3,hd,hr,hb⟩:=h;exact⟨g,n',cap,d,uy c0 _,by rw[xk,if_neg (by simp)];exact c1,by rw[xk,if_neg (by simp)];exact c2,fun j=>by rw[zv];exact fz j,uV cq _ (by show O≠q;omega),hR.other (by show O≠q+1;omega) _,xp ho (by simp[zx,Ne.symm hg]) _,hg,hl,h1,h3,hd,hr,hb.setCell hO _⟩
theorem Rp{B gd j m c n' cp sc r:Nat}{w:World}{d:Wd}(fb:Bool)(ho:w.ownsRow B 5 1 (.slice (some ⟨gd,0,none⟩) n' cp) n' (vz d))(e1:j+m=n')(e2:j+c=cp)(hl:d.length=n')(hd:d.all xF=true)(h3:n'<=61)(hp:fU (sc+1) (xH r)=d.drop j) :
  fy (fun k=>k<B) w (.agg #[.bool fb,.slice (some ⟨gd,j,none⟩) m c,.int .i64 (sc:Nat)]) (fb,Bz r sc):=by
 have U5:n'<=cp/\cp<=maxLen:=by
  rcases ho.2 with⟨hv,_⟩|⟨g2,uL,cur,hv,_,_,hh,hh2,_⟩
  .cases hv
  .cases hv;exact⟨hh,hh2⟩
 have uo:(d.drop j).length=m:=by rw[zE];omega
 have hm:sc+1<=m:=by rw[<-uo,<-hp,Gg];omega
 have hdd:(d.drop j).all xF=true:=by
  rw[zY] at hd |-
  exact fun x hx=>hd x (zJ hx)
 have hf:Bz r sc=((d.drop j).take (m - sc),(d.drop j).drop (m - sc)):=by unfold Bz;rw[hp,uo]
 have hB:=(qO ho hl.symm).drop j;rw[Nat.zero_add,show(xl d).drop j=xl (d.drop j) by simp[xl]] at hB;have l1:((d.drop j).take (m - sc)).length=m - sc:=by rw[zl];omega
 have l2:((d.drop j).drop (m - sc)).length=sc:=by rw[zE];omega
 refine⟨gd,j,c,?_,?_,by omega,by have:=(ho.lt gd rfl).1;omega,⟨_,Yr ho (m:=0) (by omega) hl⟩,?_,?_⟩
 .rw[hf,l1,l2,show m - sc+sc=m by omega]
 .rw[hf,l1,l2];omega
 .rw[hf,List.take_append_drop];exact hB
 .rw[hf];refine⟨?_,?_,fun e=>?_,by rw[l1];omega,by rw[l2];omega⟩
  .rw[zY] at hdd |-
   exact fun x hx=>hdd x (List.mem_of_mem_take hx)
  .rw[zY] at hdd |-
   exact fun x hx=>hdd x (zJ hx)
  .have:=congrArg List.length e;rw[l1] at this;simp at this;omega
theorem Wu(v:Value)(n:vq)(x:Nat)(w:World)(h:fy (fun _=>False) w v n)(hx:x<=1000000000)(hl:n.2.1.length+n.2.2.length<=40) :
  Calls Tryz.prog 131 #[v,.int .i64 (x:Nat)] w fun e w'=>(∃ v',e = .returned v'/\fy (fun k=>k<w.heap.size) w' v' (X9 n x))/\Below w.heap.size w w':=by
 obtain⟨neg,X⟩:=n;obtain⟨g,o,cap,rfl,Zm,jS,-,h0,hB,kZ⟩:=h;simp only at hl Zm hB kZ |-
 obtain⟨B,hBe⟩:=xX w.heap.size;obtain⟨L,hL⟩:=xX (X.1.length+X.2.length);obtain⟨sc,hsc⟩:=xX X.2.length;have hL1:sc+1<=L:=by have:=ze.2 kZ.ne;omega
 rw[hL] at hl Zm |-
 rw[hsc] at |-
 obtain⟨W,hW⟩:=xX ((w.alloc (.cells #[.bool neg,.slice (some ⟨g,o,none⟩) L cap,.int .i64 (sc:Nat)] 97)).alloc (.cells #[.bool false,.slice none 0 0,.int .i64 0] 97));have s1:(w.alloc (.cells #[.bool neg,.slice (some ⟨g,o,none⟩) L cap,.int .i64 (sc:Nat)] 97)).heap.size=B+1:=by simp[hBe]
 have b1:Below B w (w.alloc (.cells #[.bool neg,.slice (some ⟨g,o,none⟩) L cap,.int .i64 (sc:Nat)] 97)):=(zG _ _).alloc (by omega) _;have b2:Below B w W:=by rw[<-hW];exact b1.alloc (by omega) _
 have cW:∀ j,j<3->W.cell? ⟨B,j,none⟩=(#[zI neg,.slice (some ⟨g,o,none⟩) L cap,.int .i64 (sc:Nat)]:Array Value)[j]? := fun j hj=>by
  rw[<-hW,zf _ _ _ (by show B<_;omega),<-hBe];exact xu _ _ _ _ _
 have hRW:dC W (B+1):=by
  rw[<-hW,<-s1];exact⟨xu _ _ _ _ _,xu _ _ _ _ _,xu _ _ _ _ _,by simp,by simp,by simp,by simp⟩
 have Gu:=z7 hRW;have q0:=cW 0 (by omega);have q1:=cW 1 (by omega);have q2:=cW 2 (by omega);simp only[zg,zu,zk] at q0 q1 q2;have sW:W.heap.size=B+2:=by rw[<-hW];simp[hBe]
 have HB:=z7 hB;have HX:=z7 (z8 kZ (z8 hL hsc));have HW:=z7 b2;have Oj:=z7 hBe;have CS:=z7 sW;clear hB kZ hL hsc b1 b2 s1 cW h0 hRW;go_enter func131,ntmps131;go_wp2_with fail;have HWE:=z7 hW;clear hW hBe;refine rt (fun W':World=>W'.cell? ⟨B,2,none⟩=some (.int .i64 (sc:Nat))) [0,3,4] 4 q2 ?_;(iterate 3 (refine ty ?_;try simp only[pl]))
 refine xq ?_;refine jx 1 (fun J hJ=>?_);go_simp;refine(Yj x W.drew hx).mono ?_;rintro e w1 ⟨⟨g1,rZ,rfl,Ds⟩,xG⟩;have Wq:Below W.heap.size W w1:=⟨xG.os,xG.tape,xG.output,xG.size,xG.block⟩;have r0:=(Wq.cell (p:=⟨B,0,none⟩) (by show B<_;omega)).trans q0;have r1:=(Wq.cell (p:=⟨B,1,none⟩) (by show B<_;omega)).trans q1;have r2:=(Wq.cell (p:=⟨B,2,none⟩) (by show B<_;omega)).trans q2;have iV:=QM;have uH:=Wq.size;have uo:=qA 9 x (by omega);obtain⟨w2,v2,I6,X3,je⟩:∃ w2 v2,(zH #[48,3] 48 #[.slice (some ⟨g1,0,none⟩) (xH x).length rZ,.int .i64 (sc:Int)]).run Tryz.prog w1 = .ok v2 w2/\w2.ownsRow (B+2) 5 1 v2 ((xH x).length+sc) (vz (xH x++zj sc 48))/\w1.grownBy w2 (some g1):=by
  obtain⟨v2,w2,a,b,c⟩:=Wv w1 _ g1 rZ _ _ Ds sc (by omega) 48;exact⟨w2,v2,a,by rw[<-CS.out];exact b,c⟩
 have Zw:B+2<=g1:=by
  have:=(Ds.lt g1 rfl).1;rw[show W.drew.heap.size=W.heap.size from rfl,CS.out] at this;exact this
 have VO:Below (B+2) W w2:=(Wq.mono (by omega)).grown je (by omega) (fun q hq=>by cases hq;exact Zw);have u0:=(VO.cell (p:=⟨B,0,none⟩) (by show B<_;omega)).trans q0;have u1:=(VO.cell (p:=⟨B,1,none⟩) (by show B<_;omega)).trans q1;have u2:=(VO.cell (p:=⟨B,2,none⟩) (by show B<_;omega)).trans q2;obtain⟨dl,rL⟩:=xX ((xH x).length);have Hy:1<=dl:=by have:=ze.2 (bV x);omega
 rw[rL] at X3 uo I6;have Le:=z7 rL;have ee:=z7 X3;have Gm:=z7 VO;clear Ds xG Wq je VO X3;rw[rL];clear rL;refine hJ.out _ _ r2 fun _=>?_
 clear hJ J;refine VA [2] 2 r2 ?_;refine ty ?_;try simp only[pl]
 refine xq ?_;refine jx 5 (fun J hJ=>?_);refine Lib.wp_append_run _ _ _ _ _ rfl _ _ rfl rfl _ _ I6 ?_;refine hJ.out _ _ u2 fun _=>?_
 clear hJ J;refine VA [6] 0 u2 ?_;refine ty ?_;try simp only[pl]
 refine xq ?_;refine b7 ?_ _;have R7:=vZ ee.out (by omega);obtain⟨g2,cp2,rfl,je,yc3,-⟩:=R7;obtain⟨sz,qc⟩:∃ sz:Nat,max (L:Int) ((dl:Int)+(sc:Int))=(sz:Int):=⟨max L (dl+sc),by omega⟩;have z1:L<=sz:=by omega
 have z2:dl+sc<=sz:=by omega
 have z3:sz<=60:=by omega
 clear I6 r0 r1 r2 q0 q1 q2;have uG:Below B w w2:=HW.out.trans (Gm.out.mono (by omega));have SK:=Ro (X.1++X.2) ⟨g,o,none⟩ cap sz w2 (by rw[zU,HX.out.2.1];exact z1) (by omega) (by omega) (HB.out.below (by rw[Oj.out];exact uG));rw[zU,HX.out.2.1] at SK;have HW1:=z7 SK;have zog:=z7 uG;clear SK uG;go_wp2_with fail;refine HW1.out.mono ?_;rintro e w3 ⟨⟨ga,ca,rfl,oW,hga⟩,ub⟩;have qf:=ub.size;have ZQ:Below B w w3:=zog.out.trans (ub.mono (by have:=Gm.out.size;omega));have Ms:Below (B+2) W w3:=Gm.out.trans (ub.mono (by have:=Gm.out.size;omega));have Ha:(xH x++zj sc 48).length=dl+sc:=by rw[zU,za,Le.out]
 have K7:=Ro (xH x++zj sc 48) ⟨g2,0,none⟩ cp2 sz w3 (by rw[Ha];exact z2) (by omega) (by omega) ((qO ee.out Ha.symm).below ub);rw[Ha] at K7;have wW:=z7 K7;have HA3:=z7 oW;have zof:=z7 ZQ;have HZ3:=z7 Ms;have bk:=z7 qf;clear K7 oW ub ZQ Ms HW1 Gm zog qf;go_wp2_with fail;refine wW.out.mono ?_;rintro e w4 ⟨⟨gb,cb,rfl,rM,hgb⟩,ur⟩;have Ma:=ur.size;have hz4:Below (B+2) W w4:=HZ3.out.trans (ur.mono (by have:=HZ3.out.size;omega));have dO:Below B w w4:=zof.out.trans (ur.mono (by have:=HZ3.out.size;omega));have t0:w4.cell? ⟨B,0,none⟩=some (.bool neg):=by
  rw[hz4.cell (p:=⟨B,0,none⟩) (by show B<B+2;omega),<-HWE.out,zf _ _ _ (by simp[Oj.out]),<-Oj.out];exact xu _ _ _ _ _
 have t2:w4.cell? ⟨B,2,none⟩=some (.int .i64 (sc:Nat)):=by
  rw[hz4.cell (p:=⟨B,2,none⟩) (by show B<B+2;omega),<-HWE.out,zf _ _ _ (by simp[Oj.out]),<-Oj.out];exact xu _ _ _ _ _
 have I5:dC w4 (B+1):=Gu.out.below (by rw[CS.out];exact hz4);have hA4:=HA3.out.below ur;obtain⟨P1,pQ⟩:=xX (fU sz (X.1++X.2));obtain⟨P2,hP2⟩:=xX (fU sz (xH x++zj sc 48));have dX:(X.1++X.2).all xF=true:=by rw[zn,HX.out.1.ig,HX.out.1.Tn];rfl
 have dZ:(xH x++zj sc 48).all xF=true:=by rw[zn,Xo,Bool.true_and,zY];intro c hc;rw[zS hc];rfl
 have l1:P1.length=sz:=by rw[<-pQ,Gg,zU,HX.out.2.1];omega
 have l2:P2.length=sz:=by rw[<-hP2,Gg,Ha];omega
 have d1:P1.all xF=true:=by rw[<-pQ];exact Rm dX
 have d2:P2.all xF=true:=by rw[<-hP2];exact Rm dZ
 have v1:xE P1=xE (X.1++X.2):=by rw[<-pQ];exact QH _ _
 have v2:xE P2=x*10 ^ sc:=by rw[<-hP2,fU,QH,LW,Re]
 rw[pQ] at hA4;rw[hP2] at rM;have HA4:=z7 hA4;have IG:=z7 rM;have HP:=z7 (z8 l1 (z8 l2 (z8 d1 (z8 d2 (z8 v1 v2)))));have HZ4:=z7 hz4;have ni:=z7 I5;have zob:=z7 dO;have t4:B+2<=w4.heap.size:=by have:=hz4.size;omega
 clear hA4 rM l1 l2 d1 d2 v1 v2 pQ hP2 dX dZ ur hz4 I5 dO HA3 zof HZ3 bk wW Ha Ma iV u0 u1 u2;go_wp2_with fail;obtain⟨l1,l2,d1,d2,v1,v2⟩:=HP.out;refine(Yg P1 P2 sz ca sz cb ⟨ga,0,none⟩ ⟨gb,0,none⟩ _ l1.symm l2.symm (HA4.out.alloc _) (IG.out.alloc _) (l1.trans l2.symm) d1 d2).mono ?_;rintro e rN ⟨rfl,hw5⟩;obtain⟨O,hO⟩:=xX w4.heap.size;obtain⟨cc,Ps⟩:=xX (EC P1 P2);have Zd:cc<0 ↔ xE P1<xE P2:=by rw[<-Ps];exact iX (l1.trans l2.symm) d1 d2
 rw[Ps];have o0:rN.cell? ⟨O,0,none⟩=some (.bool neg):=by rw[<-hw5,<-hO];exact xu _ _ _ _ _
 have o1:rN.cell? ⟨O,1,none⟩=some (.slice none 0 0):=by rw[<-hw5,<-hO];exact xu _ _ _ _ _
 have o2:rN.cell? ⟨O,2,none⟩=some (.int .i64 (sc:Nat)):=by rw[<-hw5,<-hO];exact xu _ _ _ _ _
 have b45:Below O w4 rN:=by rw[<-hw5];exact(zG _ _).alloc (by omega) _
 have u0:=(b45.cell (p:=⟨B,0,none⟩) (by show B<O;omega)).trans t0;have u2:=(b45.cell (p:=⟨B,2,none⟩) (by show B<O;omega)).trans t2;have fz:∀ j,rN.frozen? ⟨O,j,none⟩=false:=by intro j;rw[<-hw5,<-hO];simp
 have s5:rN.heap.size=O+1:=by rw[<-hw5,<-hO];simp
 have HA5:=z7 (HA4.out.below (by rw[hO];exact b45));have HB5:=z7 (IG.out.below (by rw[hO];exact b45));have rO:=z7 (zob.out.trans (b45.mono (by omega)));have HR5:=z7 (ni.out.below (by rw[hO];exact b45));have AM:=z7 Zd;have Ay:=z7 (iJ (neg,X) x);rw[hO] at t4 |-
 have Mc:=z7 s5;clear Zd hw5 Ps b45 HA4 IG zob HZ4 t0 t2 hO l1 l2 d1 d2 v1 v2 s5 hgb hga yc3 je;go_upto_block 0 with fail
 go_cut [] (fun wc=>∃ nb r,EH B O B sc nb r w wc/\X9 (neg,X) x=(nb && decide (r≠0),Bz r sc))
 case rest =>
  obtain⟨nb,r,⟨gd,n',cp,d,c0,c1,c2,cz,cq,hR,ho,hgO,zp0,bO,Ww,hdd,hdr,Dn⟩,kR⟩:=hcut;clear o0 o1 o2 u0 u2 fz HA5 HB5 rO AM Ay HP ee Mc Le;have HO:=z7 ho;have HD:=z7 (z8 zp0 (z8 hdd hdr));have XU:=z7 kR;have HBC:=z7 Dn;clear ho zp0 hdd hdr kR Dn;have HR:=z7 hR;clear hR HR5 ni Gu;go_upto_block 1 with fail
  go_cut [] (fun wl=>∃ j m c,j+m=n'/\j+c=cp/\wl.cell? ⟨O,0,none⟩=some (.bool nb)/\wl.cell? ⟨O,1,none⟩=some (.slice (some ⟨gd,j,none⟩) m c)/\wl.cell? ⟨O,2,none⟩=some (.int .i64 (sc:Nat))/\(∀ j,wl.frozen? ⟨O,j,none⟩=false)/\dC wl (B+1)/\wl.ownsRow B 5 1 (.slice (some ⟨gd,0,none⟩) n' cp) n' (vz d)/\Below B w wl /\
   fU (sc+1) (xH r)=d.drop j)
  case rest =>
   obtain⟨j,m,c,e1,e2,c0,c1,c2,cz,hR,ho,hb,Rc⟩:=hcut;have hgB:gd≠B+1:=by
    rintro rfl;have h1:=Yr ho (m:=0) (by have:=HD.out.1;omega) HD.out.1;rw[hR.c0] at h1
    cases h1
   have uo:(d.drop j).length=m:=by rw[zE,HD.out.1];omega
   have hB:=(qO ho HD.out.1.symm).drop j;rw[Nat.zero_add,show(xl d).drop j=xl (d.drop j) by simp[xl]] at hB;have HZ:=z7 (KO (d.drop j) m uo.symm (some ⟨gd,j,none⟩) c nb (sc:Int) wc (by omega) hB);have hz:(d.drop j).all (· == 48)=decide (r=0):=by
    have h1:(d.drop j).all xF=true:=by
     have:=HD.out.2.1;rw[zY] at this |-
     exact fun x hx=>this x (zJ hx)
    have h2:=Fc h1;rw[<-Rc,fU,QH,Re] at h2;rw[Bool.eq_iff_iff,decide_eq_true_eq,<-h2,<-Rc,fU]
   rw[hz] at HZ;have HQ:=z7 (z8 e1 (z8 e2 (z8 ho (z8 hb Rc))));have r0:=hR.c0;have r1:=hR.c1;have r2:=hR.c2;have y0:=hR.z0;have y1:=hR.z1;have y2:=hR.z2;clear e1 e2 ho hb Rc uo hB hz hR HR
   cases nb
   .go_wp2;obtain⟨e1,e2,ho,hb,Rc⟩:=HQ.out;refine bodyPost_ret (v := .agg #[.bool false,.slice (some ⟨gd,j,none⟩) m c,.int .i64 (sc:Nat)]) ?_ rfl ?_
    .simp[results,results131,go_sem,r0,r1,r2]
    .refine⟨⟨_,rfl,?_⟩,?_⟩
     .rw[XU.out,Oj.out];exact Rp _ (xp (xp (xp (xp ho (by simp[zx];omega) _) (by simp[zx];omega) _) (by simp[zx];omega) _) (by simp[zx];omega) _) e1 e2 HD.out.1 HD.out.2.1 Ww Rc
     .rw[Oj.out];exact(((hb.setCell (by show B<=O;omega) _).setCell (by show B<=B+1;omega) _).setCell (by show B<=B+1;omega) _).setCell (by show B<=B+1;omega) _
   .go_wp2_with fail;refine HZ.out.mono ?_;rintro e w7 ⟨rfl,jP⟩;have lO:=zZ wc _ c0;have lR:=zZ wc _ r0;have c0':=(jP.cell (p:=⟨O,0,none⟩) lO).trans c0;have pV:=(jP.cell (p:=⟨O,1,none⟩) lO).trans c1;have c2':=(jP.cell (p:=⟨O,2,none⟩) lO).trans c2;have cz':∀ j,w7.frozen? ⟨O,j,none⟩=false:=fun j=>(zX (jP.block O lO)).trans (cz j)
    have r0':=(jP.cell (p:=⟨B+1,0,none⟩) lR).trans r0;have r1':=(jP.cell (p:=⟨B+1,1,none⟩) lR).trans r1;have r2':=(jP.cell (p:=⟨B+1,2,none⟩) lR).trans r2;have y0':=(jP.frozen (p:=⟨B+1,0,none⟩) lR).trans y0;have y1':=(jP.frozen (p:=⟨B+1,1,none⟩) lR).trans y1;have y2':=(jP.frozen (p:=⟨B+1,2,none⟩) lR).trans y2;have HB7:=z7 jP;clear c0 c1 c2 cz r0 r1 r2 y0 y1 y2 jP HZ;obtain⟨zz,Mt⟩:=xX (decide (r=0));rw[Mt];have HZZ:=z7 Mt;clear Mt;go_wp2;obtain⟨e1,e2,ho,hb,Rc⟩:=HQ.out;refine bodyPost_ret (v := .agg #[.bool (!zz),.slice (some ⟨gd,j,none⟩) m c,.int .i64 (sc:Nat)]) ?_ rfl ?_
    .simp[results,results131,go_sem,r0',r1',r2']
    .refine⟨⟨_,rfl,?_⟩,?_⟩
     .rw[XU.out,Oj.out,Bool.true_and,show decide (r≠0) = !zz by rw[<-HZZ.out];simp];exact Rp _ (xp (xp (xp (xp (fR ho HB7.out) (by simp[zx];omega) _) (by simp[zx];omega) _) (by simp[zx];omega) _) (by simp[zx];omega) _) e1 e2 HD.out.1 HD.out.2.1 Ww Rc
     .rw[Oj.out];exact((((hb.trans (HB7.out.mono (by omega))).setCell (by show B<=O;omega) _).setCell (by show B<=B+1;omega) _).setCell (by show B<=B+1;omega) _).setCell (by show B<=B+1;omega) _
  case first =>
   go_wp2_with fail;go_loopw [] (fun wr=>∃ j m c,j+m=n'/\j+c=cp/\sc+1<=m/\wr.cell? ⟨O,0,none⟩=some (.bool nb)/\wr.cell? ⟨O,1,none⟩=some (.slice (some ⟨gd,j,none⟩) m c)/\wr.cell? ⟨O,2,none⟩=some (.int .i64 (sc:Nat))/\(∀ j,wr.frozen? ⟨O,j,none⟩=false)/\wr.cell? ⟨B,2,none⟩=some (.int .i64 (sc:Nat))/\dC wr (B+1)/\wr.ownsRow B 5 1 (.slice (some ⟨gd,0,none⟩) n' cp) n' (vz d)/\Below B w wr/\xE (d.drop j)=r) (fun wr=>match wr.cell? ⟨O,1,none⟩ with|some (.slice _ n _)=>n|_=>0)
   case atStart=>exact⟨0,n',cp,by omega,by omega,bO,c0,c1,c2,cz,cq,HR.out,HO.out,HBC.out,HD.out.2.2⟩
   case round =>
    clear c0 c1 c2 cz cq;obtain⟨j,m,c,e1,e2,e3,c0,c1,c2,cz,cq,hR,ho,hb,hv⟩:=hrel;obtain⟨dl1,dl2,-⟩:=HD.out;have U5:n'<=cp:=by
     rcases ho.2 with⟨hv,_⟩|⟨g2,uL,cur,hv,_,_,hh,_⟩
     .cases hv
     .cases hv;exact hh
    have hjd:j<d.length:=by omega
    have ph:=Yr ho hjd dl1;have xj:=kF (zY.1 dl2 _ (List.getElem_mem hjd));obtain⟨y,hy⟩:=xX (d[j].toNat - 48);rw[show((d[j].toNat:Int) - 48)=(y:Int) by omega] at ph;have hdd:(d.drop j).all xF=true:=by
     rw[zY] at dl2 |-
     exact fun x hx=>dl2 x (zJ hx)
    have uo:(d.drop j).length=m:=by rw[zE];omega
    have vy:d.drop j≠[]:=fun e=>by rw[e] at uo;simp at uo;omega
    have hdc:=List.drop_eq_getElem_cons hjd;by_cases hm:sc+1<m
    .have k1:(sc:Int)+1<(m:Int):=by omega
     have k2:decide ((sc:Int)+1<(m:Int))=true:=decide_eq_true k1;by_cases h0:y=0
     .subst h0;have TI:d[j]=48:=UInt8.toNat.inj (by show _=48;omega);have R7:xE (d.drop (j+1))=r:=by
       rw[hdc,TI,qu] at hv;simpa using hv
      have xgd:¬(c=1):=by omega
      have qK:1<=c:=by omega
      have Vl:1<=m:=by omega
      have HQ:=z7 (z8 e1 (z8 e2 (z8 e3 (z8 hR (z8 ho (z8 hb R7))))));have HM:=z7 hm;clear e1 e2 e3 hR ho hb R7 hv xj hy hdd uo vy hdc TI dl1 dl2 U5 hjd hm;go_wp2;obtain⟨e1,e2,e3,hR,ho,hb,R7⟩:=HQ.out;have hm:=HM.out;refine⟨⟨j+1,m - 1,c - 1,by omega,by omega,by omega,by rw[xk,if_neg (by simp)];exact c0,uy c1 _,by rw[xk,if_neg (by simp)];exact c2,fun i=>by rw[zv];exact cz i,uV cq _ (by show O≠B;omega),hR.other (by show O≠B+1;omega) _,xp ho (by simp[zx,Ne.symm hgO]) _,hb.setCell (by show B<=O;omega) _,R7⟩,?_⟩;rw[uy c1,c1];show m - 1<m;omega
     .have h0':((y:Int)==0)=false:=by simp;omega
      have HQ:=z7 (z8 e1 (z8 e2 (z8 hR (z8 ho (z8 hb (show fU (sc+1) (xH r)=d.drop j by
       rw[<-hv];exact Rl hdd vy (by omega) (.inr (by rw[hdc];intro q;apply h0;rw[<-hy,show d[j]=48 from q];rfl))))))))
      clear e1 e2 e3 hR ho hb hv xj hy hdd uo vy hdc dl1 dl2 U5 hjd hm h0;go_wp2;go_meet
      obtain⟨e1,e2,hR,ho,hb,R7⟩:=HQ.out;exact⟨j,m,c,e1,e2,c0,c1,c2,cz,hR,ho,hb,R7⟩
    .have k1:¬((sc:Int)+1<(m:Int)):=by omega
     have k2:decide ((sc:Int)+1<(m:Int))=false:=decide_eq_false k1;have HQ:=z7 (z8 e1 (z8 e2 (z8 hR (z8 ho (z8 hb (show fU (sc+1) (xH r)=d.drop j by
      rw[<-hv];exact Rl hdd vy (by omega) (.inl (by omega))))))))
     clear e1 e2 e3 hR ho hb hv xj hy hdd uo vy hdc dl1 dl2 U5 hjd hm ph;go_wp2;go_meet
     obtain⟨e1,e2,hR,ho,hb,R7⟩:=HQ.out;exact⟨j,m,c,e1,e2,c0,c1,c2,cz,hR,ho,hb,R7⟩
 case first =>
  obtain⟨l1,l2,d1,d2,v1,v2⟩:=HP.out
  cases neg
  .by_cases xB:xE P1<xE P2
   .have HM:=z7 (C4 P2 P1 sz cb ca ⟨gb,0,none⟩ ⟨ga,0,none⟩ rN l2 l1 (by omega) (by omega) d2 d1 (by omega) HB5.out HA5.out);have HVV:=z7 (z8 v1 v2);have kc:decide (cc<0)=true:=decide_eq_true (AM.out.2 xB);clear l1 l2 d1 d2 v1 v2;go_wp2_with fail;refine HM.out.mono ?_;rintro e w6 ⟨⟨v6,d,rfl,K6,hl6,IZ,VC⟩,dL⟩;rw[Mc.out] at K6 dL;obtain⟨g6,cp6,rfl,RJ,-,-⟩:=vZ K6 (by omega);have e0:=(dL.cell (p:=⟨O,0,none⟩) (by show O<_;omega)).trans o0;have e1:=(dL.cell (p:=⟨O,1,none⟩) (by show O<_;omega)).trans o1;have e2:=(dL.cell (p:=⟨O,2,none⟩) (by show O<_;omega)).trans o2;have e3:=(dL.cell (p:=⟨B,2,none⟩) (by show B<_;omega)).trans u2;have ez:∀ j,w6.frozen? ⟨O,j,none⟩=false:=fun j=>(zX (dL.block O (by omega))).trans (fz j)
    have HOM:=z7 (EH.mk1 e0 e1 e2 ez e3 (HR5.out.below (by rw[Mc.out];exact dL)) (by omega) (gp K6 (by omega)) (by omega) hl6 (by omega) (by omega) IZ VC (rO.out.trans (dL.mono (by omega))) (by omega));clear K6 dL VC IZ hl6 e3 fz o0 o1 o2 u0 u2;go_wp2;go_meet
    have NO:=Ay.out;try simp only at NO
    rw[HX.out.2.2,<-HVV.out.1,<-HVV.out.2] at NO;refine⟨true,_,HOM.out.Xu (by omega) (by omega) true,?_⟩;rw[NO,if_neg (by simp),if_pos xB,decide_eq_true (by omega)];rfl
   .have HM:=z7 (C4 P1 P2 sz ca cb ⟨ga,0,none⟩ ⟨gb,0,none⟩ rN l1 l2 (by omega) (by omega) d1 d2 (by omega) HA5.out HB5.out);have HVV:=z7 (z8 v1 v2);have kc:decide (cc<0)=false:=decide_eq_false (fun q=>xB (AM.out.1 q));clear l1 l2 d1 d2 v1 v2;go_wp2_with fail;refine HM.out.mono ?_;rintro e w6 ⟨⟨v6,d,rfl,K6,hl6,IZ,VC⟩,dL⟩;rw[Mc.out] at K6 dL;obtain⟨g6,cp6,rfl,RJ,-,-⟩:=vZ K6 (by omega);have e0:=(dL.cell (p:=⟨O,0,none⟩) (by show O<_;omega)).trans o0;have e1:=(dL.cell (p:=⟨O,1,none⟩) (by show O<_;omega)).trans o1;have e2:=(dL.cell (p:=⟨O,2,none⟩) (by show O<_;omega)).trans o2;have e3:=(dL.cell (p:=⟨B,2,none⟩) (by show B<_;omega)).trans u2;have ez:∀ j,w6.frozen? ⟨O,j,none⟩=false:=fun j=>(zX (dL.block O (by omega))).trans (fz j)
    have HOM:=z7 (EH.mk1 e0 e1 e2 ez e3 (HR5.out.below (by rw[Mc.out];exact dL)) (by omega) (gp K6 (by omega)) (by omega) hl6 (by omega) (by omega) IZ VC (rO.out.trans (dL.mono (by omega))) (by omega));clear K6 dL VC IZ hl6 e3 fz o0 o1 o2 u0 u2;go_wp2;go_meet
    have NO:=Ay.out;try simp only at NO
    rw[HX.out.2.2,<-HVV.out.1,<-HVV.out.2] at NO;refine⟨false,_,HOM.out,?_⟩;rw[NO,if_neg (by simp),if_neg xB];rfl
  .have HM:=z7 (iQ P1 P2 sz ca cb ⟨ga,0,none⟩ ⟨gb,0,none⟩ rN l1 l2 (by omega) (by omega) d1 d2 HA5.out HB5.out);have HVV:=z7 (z8 v1 v2);clear l1 l2 d1 d2 v1 v2;go_wp2_with fail;refine HM.out.mono ?_;rintro e w6 ⟨⟨v6,d,rfl,K6,hl6,IZ,VC⟩,dL⟩;rw[Mc.out] at K6 dL;obtain⟨g6,cp6,rfl,RJ,-,-⟩:=vZ K6 (by omega);have e0:=(dL.cell (p:=⟨O,0,none⟩) (by show O<_;omega)).trans o0;have e1:=(dL.cell (p:=⟨O,1,none⟩) (by show O<_;omega)).trans o1;have e2:=(dL.cell (p:=⟨O,2,none⟩) (by show O<_;omega)).trans o2;have e3:=(dL.cell (p:=⟨B,2,none⟩) (by show B<_;omega)).trans u2;have ez:∀ j,w6.frozen? ⟨O,j,none⟩=false:=fun j=>(zX (dL.block O (by omega))).trans (fz j)
   have HOM:=z7 (EH.mk1 e0 e1 e2 ez e3 (HR5.out.below (by rw[Mc.out];exact dL)) (by omega) (gp K6 (by omega)) (by omega) hl6 (by omega) (by omega) IZ VC (rO.out.trans (dL.mono (by omega))) (by omega));clear K6 dL VC IZ hl6 e3 fz o0 o1 o2 u0 u2;go_wp2;go_meet
   have NO:=Ay.out;try simp only at NO
   rw[HX.out.2.2,<-HVV.out.1,<-HVV.out.2] at NO;refine⟨true,_,HOM.out,?_⟩;rw[NO];simp
theorem iG(v:Value)(n:vq)(x:Nat)(w:World){M:Nat->Prop}(h:fy M w v n)(hx:x<=1000000000) :
  Calls Tryz.prog 134 #[v,.int .i64 (x:Nat)] w fun e w'=>e = .returned (.bool (dD n x))/\Below w.heap.size w w':=by
 have JQ:=h.num;obtain⟨neg,X⟩:=n;obtain⟨g,o,cap,rfl,-⟩:=h;simp only at JQ |-
 have uN:∀ ob,Below w.heap.size w (w.alloc ob):=fun ob=>(zG _ _).alloc (zQ _) _
 have HC:=fun ob=>z7 (JK _ X x (w.alloc ob) (JQ.below (uN ob)) hx)
 clear JQ
 cases neg
 .obtain⟨cc,Ps⟩:=xX (KI X x);have HS:=z7 (show dD (false,X) x=decide (cc=0) by unfold dD;rw[Ps];rfl);rw[Ps] at HC;clear Ps;go_enter func134,ntmps134;go_wp2_with fail;refine(HC _).out.mono ?_;rintro e w1 ⟨rfl,xG⟩;have hb:=(uN (.cells #[.bool false,.slice (some ⟨g,o,none⟩) (X.1.length+X.2.length) cap,.int .i64 X.2.length] 97)).trans (xG.mono (by simp));clear xG uN HC;go_wp2;go_ret;rw[HS.out];exact⟨by first|rfl|(congr 2;simp) ,hb⟩
 .have HS:=z7 (show dD (true,X) x=false from rfl);have hb:=uN (.cells #[.bool true,.slice (some ⟨g,o,none⟩) (X.1.length+X.2.length) cap,.int .i64 X.2.length] 97);clear HC uN;go_enter func134,ntmps134;go_wp2;go_ret;exact⟨by rw[HS.out];rfl,hb⟩
theorem iF:ZS Tryz.prog 195 272 (.agg #[.bool false,.slice none 0 0,.int .i64 0,.bool false,.slice none 0 0,.int .i64 0]) 6 80 :=
 ⟨underlying195,info_parts (by kernel_rfl),rfl,by decide,by decide⟩
def VS(nb:Bool)(g o n c k:Nat):List Value:=[.bool nb,.slice (some ⟨g,o,none⟩) n c,.int .i64 (k:Nat)]
abbrev Li(nb:Bool)(g o n c k:Nat):Value := .agg #[.bool nb,.slice (some ⟨g,o,none⟩) n c,.int .i64 (k:Nat)]
abbrev rP(b:Nat)(st:Value)(k:Nat):Prop:=k=b\/xY st k
section
variable {b:Nat} {x0 x1 x2 st v:Value} {l:Wd} {w w':World}
theorem q9.stk(h:q9 b x0 x1 x2 st v l w)(Rr:Value):q9 b x0 x1 x2 Rr v l (w.setCell ⟨b,5,none⟩ Rr):=by
 obtain⟨p,h1,h2,h3,h4,h5⟩:=h;exact⟨p,h1,by simp[zR,Array.getElem?_modify,h2],xp h3 (fun e=>h4 e.symm) _,h4,h5⟩
theorem q9.c5(h:q9 b x0 x1 x2 st v l w):w.cell? ⟨b,5,none⟩=some st:=h.cell.2.2.2.1
theorem q9.z(h:q9 b x0 x1 x2 st v l w)(j:Nat):w.frozen? ⟨b,j,none⟩=false:=h.cell.2.2.2.2 j
def Ll(b:Nat)(x0 x1 x2 st v:Value)(l:Wd)(n:Nat)(cs:List Value)(w w':World):Prop :=
 ∃ Rr,q9 b x0 x1 x2 Rr v l w'/\w'.ownsRow 0 272 6 Rr n cs/\Rr.ownBlock≠some b/\(∀ g,xY v g->¬xY Rr g)/\Fr (rP b st) (rP b Rr) w w'
theorem iD(h:q9 b x0 x1 x2 st v l w){n:Nat}{cs:List Value}(vM:w.ownsRow 0 272 6 st n cs)(Zc:st.ownBlock≠some b)(Xz:∀ g,xY v g->¬xY st g)(hn:n<=1000000)(nb zb:Bool)(g o m c k g' o' m' c' k':Nat) :
  Calls Tryz.prog 130 #[.pointer (some ⟨b,5,none⟩),.agg #[.bool nb,.slice (some ⟨g,o,none⟩) m c,.int .i64 (k:Nat),.bool zb,.slice (some ⟨g',o',none⟩) m' c',.int .i64 (k':Nat)]] w fun e w'=>e = .returned (.tuple #[])/\Ll b x0 x1 x2 st v l (n+1) (cs++(VS nb g o m c k++VS zb g' o' m' c' k')) w w':=by
 have HH:=z7 h;have xB:=h.lt;obtain⟨W,hW⟩:=xX (w.alloc (.cells #[.bool nb,.slice (some ⟨g,o,none⟩) m c,.int .i64 (k:Nat),.bool zb,.slice (some ⟨g',o',none⟩) m' c',.int .i64 (k':Nat)] 272));have hb:Below w.heap.size w W:=by rw[<-hW];exact(zG _ _).alloc (zQ _) _
 have Ji:Fr xI xI w W:=Fr.of hb;have hWs:W.heap.size=w.heap.size+1:=by rw[<-hW];simp
 have hOW:=h.fr Ji id (fun _ _ q=>q);have c5:=hOW.c5;have hc:∀ j,W.cell? ⟨w.heap.size,j,none⟩=(#[zI nb,.slice (some ⟨g,o,none⟩) m c,.int .i64 (k:Nat),.bool zb,.slice (some ⟨g',o',none⟩) m' c',.int .i64 (k':Nat)]:Array Value)[j]? := fun j=>by rw[<-hW];exact xu _ _ _ _ _
 have e0:=hc 0;have e1:=hc 1;have e2:=hc 2;have e3:=hc 3;have e4:=hc 4;have e5:=hc 5;simp only[zg,zu,zk] at e0 e1 e2 e3 e4 e5;obtain⟨B,hB⟩:=xX w.heap.size;rw[hB] at e0 e1 e2 e3 e4 e5 hWs xB;have hoW:=Ji.own vM (fun _ _ q=>q);obtain⟨sa,sc,rfl⟩:=xf vM;have HO:=z7 hoW;have Ud:=z7 Ji;have Lu:=z7 hOW;have LJ:=z7 Xz;have HSB:=z7 Zc;have jD:=z7 vM;clear h hb Ji hOW hc vM Xz Zc hoW;go_enter func130,ntmps130;go_wp2_with fail;try rw[hB]
 have HWE:=z7 hW;have Oj:=z7 hB;have A6:=z7 hWs;clear hW hB hWs;refine rk (fun W':World=>W'.cell? ⟨b,5,none⟩=some (.slice sa n sc)/\W'.cell? ⟨B,0,none⟩=some (.bool nb)/\W'.cell? ⟨B,1,none⟩=some (.slice (some ⟨g,o,none⟩) m c)/\W'.cell? ⟨B,2,none⟩=some (.int .i64 (k:Nat))/\W'.cell? ⟨B,3,none⟩=some (.bool zb)/\W'.cell? ⟨B,4,none⟩=some (.slice (some ⟨g',o',none⟩) m' c')/\W'.cell? ⟨B,5,none⟩=some (.int .i64 (k':Nat))) 10 [0,1,2,3,4,5] 5 ⟨c5,e0,e1,e2,e3,e4,e5⟩ ?_;(iterate 6 (refine ty ?_;try simp only[pl]))
 refine xq ?_;refine UN 6 (fun J hJ=>?_);go_simp;refine hJ.out _ _ ⟨xQ c5 _,xQ e0 _,xQ e1 _,xQ e2 _,xQ e3 _,xQ e4 _,xQ e5 _⟩ fun _=>?_
 clear hJ J;refine UN 7 (fun J hJ=>?_);rw[if_pos (by rfl)];change Oper.wp _ _ _ (W.drew.alloc (.cells [_,_,_,_,_,_].toArray _)) _ _
 refine XK iF [_,_,_,_,_,_] 1 (by exact HO.out) (by omega) ?_;intro v2 w2 X3 vU;have vU:=vU.und;have nb':¬xY (.slice sa n sc) b:=fun e=>HSB.out e
 have nB:¬xY (.slice sa n sc) B:=fun e=>by have:=ui jD.out e;have:=Oj.out;omega
 have f0:=vU.cell c5 nb';have f1:=vU.cell e0 nB;have f2:=vU.cell e1 nB;have f3:=vU.cell e2 nB;have f4:=vU.cell e3 nB;have f5:=vU.cell e4 nB;have f6:=vU.cell e5 nB;have z2:w2.frozen? ⟨b,5,none⟩=false:=(vU.frozen (zZ _ _ c5) nb').trans (Lu.out.z 5);have nb2:v2.ownBlock≠some b:=fun e=>(vU.fp b e).elim nb' (fun q=>by have:=A6.out;omega)
 have hO2:q9 b x0 x1 x2 v2 v l (w2.setCell ⟨b,5,none⟩ v2):=(Lu.out.fr vU nb' (fun g hg=>LJ.out g hg)).stk v2;have ve:Fr (rP b (.slice sa n sc)) (rP b v2) w (w2.setCell ⟨b,5,none⟩ v2):=by
  have h1:Fr (rP b (.slice sa n sc)) (rP b (.slice sa n sc)) w w2:=(Ud.out.wide (G:=rP b (.slice sa n sc)) (fun _ q=>q.elim)).trans (vU.wide (fun k hk => .inr hk));refine(h1.set (a:=⟨b,5,none⟩) v2 (.inl (.inl rfl))).tg (fun k hk=>?_);rcases hk with rfl|hk
  .exact .inl (.inl rfl)
  .exact(vU.fp k hk).elim (fun q => .inl (.inr q)) (fun q => .inr (by have:=Ud.out.size;omega))
 have HQ:=z7 (show Ll b x0 x1 x2 (.slice sa n sc) v l (n+1) (cs++(VS nb g o m c k++VS zb g' o' m' c' k')) w (w2.setCell ⟨b,5,none⟩ v2) from
  ⟨v2,hO2,xp X3 (fun e=>nb2 e.symm) _,nb2,fun g hg e=>(vU.fp g e).elim (LJ.out g hg) (fun q=>by have:=ui Lu.out.row hg;omega),ve⟩)
 obtain⟨a2,cc2,rfl⟩:=xf X3;clear X3 vU hO2 ve nb2;go_simp;refine hJ.out _ _ ⟨f0,f1,f2,f3,f4,f5,f6⟩ fun _=>?_
 clear hJ J;refine kX [8,9] 1 rfl (by intro _ _ d _ _ h;cases d<;>exact h) (by kernel_rfl) (by kernel_rfl) ⟨f0,f1,f2,f3,f4,f5,f6⟩ ?_;(iterate 2 (refine ty ?_;try simp only[pl]))
 refine xq ?_;refine BZ 10 (fun J hJ=>?_);go_simp;refine hJ.out _ _ ?_;clear hJ J;refine BX ?_ _;go_wp2;go_end0
 exact⟨rfl,HQ.out⟩
theorem iB{base e size g n c:Nat}{w:World}{xs:List Value}(h:w.ownsRow base e size (.slice (some ⟨g,0,none⟩) (n+1) c) (n+1) xs):w.ownsRow base e size (.slice (some ⟨g,0,none⟩) n c) n (xs.take (n*size)):=by
 rcases h with⟨h1,h2⟩;rcases h2 with⟨hv,_⟩|⟨g2,uL,cur,hv,k1,k2,k3,k4,k5,k6⟩
 .cases hv
 .cases hv;refine⟨by rw[zl,h1,Nat.succ_mul];omega,.inr ⟨g,c,cur,rfl,k1,k2,by omega,k4,k5,?_⟩⟩;rw[<-k6,List.take_take,Nat.min_eq_left (Nat.mul_le_mul_right _ (by omega))]
theorem rR(h:q9 b x0 x1 x2 st v l w){n:Nat}{cs tp:List Value}(vM:w.ownsRow 0 272 6 st (n+1) (cs++tp))(dT:cs.length=n*6)(Zc:st.ownBlock≠some b)(Xz:∀ g,xY v g->¬xY st g)(hn:n<=1000000) :
  Calls Tryz.prog 132 #[.pointer (some ⟨b,5,none⟩)] w fun e w'=>e = .returned (.tuple #[])/\Ll b x0 x1 x2 st v l n cs w w':=by
 obtain⟨g,c,rfl,-,hgl,-⟩:=vZ vM (by omega);have c5:=h.c5;have z5:=h.z 5;have ho:=iB vM;rw[<-dT,zP] at ho;have Zm:n+1<=c:=by
  rcases vM.2 with⟨hv,_⟩|⟨g2,uL,cur,hv,_,_,hh,_⟩
  .cases hv
  .cases hv;exact hh
 have Dl:b≠g:=fun e=>Zc (by simp[zx,e])
 have HQ:=z7 (show Ll b x0 x1 x2 (.slice (some ⟨g,0,none⟩) (n+1) c) v l n cs w (w.setCell ⟨b,5,none⟩ (.slice (some ⟨g,0,none⟩) n c)) from
  ⟨_,h.stk _,xp ho (by simpa[zx] using Dl) _,by simpa[zx] using Ne.symm Dl,Xz,(Fr.refl _ _).set (a:=⟨b,5,none⟩) _ (.inl (.inl rfl))⟩)
 have k1:((n:Int)+1) - 1=(n:Int):=by omega
 have kw:zO.wrap (n:Int)=(n:Int):=by rw[zN];omega
 have k2:n<=c:=by omega
 have k3:(n:Int)<=(c:Int):=by omega
 clear h vM ho Zc Xz Zm dT hgl;go_enter func132,ntmps132;go_wp2_with fail;refine rk (fun W':World=>W'.cell? ⟨b,5,none⟩=some (.slice (some ⟨g,0,none⟩) (n+1) c)) 14 (zV 14) 1 c5 ?_;(iterate 14 (refine ty ?_;try simp only[pl]))
 refine xq ?_;refine BZ 14 (fun J hJ=>?_);go_simp;refine hJ.out _ _ ?_;clear hJ J;refine BX ?_ _;go_wp2;go_end0
 obtain⟨Rr,a1,a2,a3,a4,a5⟩:=HQ.out;exact⟨rfl,Rr,a1,a2,a3,a4,a5.drew⟩
theorem Gf(h:q9 b x0 x1 x2 st v l w){n:Nat}{cs:List Value}(nb zb:Bool)(g o m c k g' o' m' c' k':Nat)(vM:w.ownsRow 0 272 6 st (n+1) (cs++(VS nb g o m c k++VS zb g' o' m' c' k')))(dT:cs.length=n*6)(hn:n<=1000000) :
  Calls Tryz.prog 133 #[.pointer (some ⟨b,5,none⟩)] w fun e w' =>
   e = .returned (.agg #[.bool nb,.slice (some ⟨g,o,none⟩) m c,.int .i64 (k:Nat),.bool zb,.slice (some ⟨g',o',none⟩) m' c',.int .i64 (k':Nat)])/\Below w.heap.size w w':=by
 obtain⟨q,cp,rfl,-,hql,hc⟩:=vZ vM (by omega);have c5:=xQ h.c5 (.cells #[.bool false,.slice none 0 0,.int .i64 0,.bool false,.slice none 0 0,.int .i64 0] 272);have cc:∀ j,j<6->(w.alloc (.cells #[.bool false,.slice none 0 0,.int .i64 0,.bool false,.slice none 0 0,.int .i64 0] 272)).cell? ⟨q,n*6+j,none⟩=(VS nb g o m c k++VS zb g' o' m' c' k')[j]? := fun j hj=>by
  rw[zf _ _ _ hql,hc _ (by omega),List.getElem?_append_right (by omega),dT,Nat.add_sub_cancel_left]
 have e0:=cc 0 (by omega);have e1:=cc 1 (by omega);have e2:=cc 2 (by omega);have e3:=cc 3 (by omega);have e4:=cc 4 (by omega);have e5:=cc 5 (by omega);simp only[VS,List.cons_append,List.nil_append,zu,zk,Nat.add_zero] at e0 e1 e2 e3 e4 e5;have k1:((n:Int)+1) - 1=(n:Int):=by omega
 have kw:zO.wrap (n:Int)=(n:Int):=by rw[zN];omega
 have k2:(n:Int)<(n:Int)+1:=by omega
 obtain⟨W,hW⟩:=xX (w.alloc (.cells #[.bool false,.slice none 0 0,.int .i64 0,.bool false,.slice none 0 0,.int .i64 0] 272));rw[hW] at c5 e0 e1 e2 e3 e4 e5;have hb:Below w.heap.size w W:=by rw[<-hW];exact(zG _ _).alloc (zQ _) _
 have hr:∀ j,W.cell? ⟨w.heap.size,j,none⟩=(#[zI false,.slice none 0 0,.int .i64 0,.bool false,.slice none 0 0,.int .i64 0]:Array Value)[j]? := fun j=>by rw[<-hW];exact xu _ _ _ _ _
 have hz:∀ j,W.frozen? ⟨w.heap.size,j,none⟩=false:=fun j=>by rw[<-hW];simp
 clear h vM hc cc dT;go_enter func133,ntmps133;go_wp2_with fail;try rw[hW]
 obtain⟨B,hB⟩:=xX w.heap.size;rw[hB] at hr hz hb |-
 have r0:=hr 0;have r1:=hr 1;have r2:=hr 2;have r3:=hr 3;have r4:=hr 4;have r5:=hr 5;simp only[zg,zu,zk] at r0 r1 r2 r3 r4 r5;clear hr hW;refine rk (fun W':World=>W'.cell? ⟨b,5,none⟩=some (.slice (some ⟨q,0,none⟩) (n+1) cp)/\W'.cell? ⟨q,n*6,none⟩=some (.bool nb)/\W'.cell? ⟨q,n*6+1,none⟩=some (.slice (some ⟨g,o,none⟩) m c)/\W'.cell? ⟨q,n*6+2,none⟩=some (.int .i64 (k:Nat))/\W'.cell? ⟨q,n*6+3,none⟩=some (.bool zb)/\W'.cell? ⟨q,n*6+4,none⟩=some (.slice (some ⟨g',o',none⟩) m' c')/\W'.cell? ⟨q,n*6+5,none⟩=some (.int .i64 (k':Nat))) 12 (zV 12) 1 ⟨c5,e0,e1,e2,e3,e4,e5⟩ ?_;(iterate 12 (refine ty ?_;try simp only[pl]))
 refine xq ?_;refine BZ 12 (fun J hJ=>?_);go_simp;refine hJ.out _ _ ?_;clear hJ J;refine BX ?_ _;go_wp2;refine bodyPost_ret (v := .agg #[.bool nb,.slice (some ⟨g,o,none⟩) m c,.int .i64 (k:Nat),.bool zb,.slice (some ⟨g',o',none⟩) m' c',.int .i64 (k':Nat)]) ?_ rfl ?_
 .simp[results,results133,go_sem,r0,r1,r2,r3,r4,r5]
 .refine⟨rfl,?_⟩;rw[hB];(repeat(first|(with_reducible exact hb)|(with_reducible refine Below.drew ?_)|(with_reducible refine Below.setCell ?_ ?_ _;rotate_left;focus(exact zQ _))))
end
def zju(o:zqy)(e:Ending):Prop :=
 match o with
 | .no=>∃ t b,e = .returned (.tuple #[.agg #[xg t,.bool b],.bool false])
 | .val t num=>t.length<=1000000/\e = .returned (.tuple #[.agg #[xg t,.bool num],.bool true])
 | .zqx=>False
section
variable {τ:Type}
def zp3(E:qJ τ)(F S:τ->Nat->Prop)(Inv:τ->World->Prop)(n:Wd)(s:τ)(w:World)(e:Ending)(w':World):Prop :=
 zju (E.get n s).1 e/\Inv (E.get n s).2 w'/\Fr (F s) (F (E.get n s).2) w w'/\∀ k,S (E.get n s).2 k->S s k\/w.heap.size<=k
structure EI(gv:Value)(E:qJ τ)(F S:τ->Nat->Prop)(Inv:τ->World->Prop):Prop where
 call:∃ K cp,gv = .func (.func K) #[] cp/\(∀ args w,(callFunc K args).run Tryz.prog w = .ok (.enter K args) w)/\∀ W s n,Inv s W->n.length<=5000000->Calls Tryz.prog K (#[xg n]++cp) W (zp3 E F S Inv n s W)
 sub:∀ s k,F s k->S s k
 EL:∀ s W k,Inv s W->S s k->k<W.heap.size
 keep:∀ s W W',Inv s W->W.heap.size<=W'.heap.size->(∀ k,S s k->W'.heap[k]? = W.heap[k]?)->Inv s W'
theorem EI.fr{gv:Value}{E:qJ τ}{F S:τ->Nat->Prop}{Inv:τ->World->Prop}(h:EI gv E F S Inv){s:τ}{w w':World}{D D':Nat->Prop}(hi:Inv s w)(hf:Fr D D' w w')(hd:∀ k,D k->¬S s k):Inv s w' :=
 h.keep s w w' hi hf.size (fun k hk=>hf.keep k (h.EL s w k hi hk) (fun q=>hd k q hk))
theorem P8(A:Nat)(w:World)(hA:w.cell? ⟨A,0,none⟩=some (.bool true)):CallsD Tryz.prog 207 #[.pointer (some ⟨A,0,none⟩)] .returning w fun e u' w'=>e = .returned (.tuple #[])/\u' = .returning/\w'=w:=by
 refine callsD_of_wpS func207 rfl fun c₀ cs hu=>?_
 apply wpS_seq;apply wpS_region;simp[wpOpsS,go_sem,hu,hA,ntmps207,Exit.thenS];refine wpS_of_wp ?_;go_wp2
 cases c₀;simp_all [bodyPostS,results,results207]
theorem rS{gv:Value}{E:qJ τ}{F S:τ->Nat->Prop}{Inv:τ->World->Prop}(hg:EI gv E F S Inv)(b:Nat)(n:Wd)(s:τ)(w:World)(c2:w.cell? ⟨b,2,none⟩=some gv)(hi:Inv s w)(hn:n.length<=5000000) :
  Calls Tryz.prog 165 #[.pointer (some ⟨b,0,none⟩),xg n] w (zp3 E F S Inv n s w):=by
 obtain⟨K,cp,rfl,Dc,vu⟩:=hg.call;have Nv:∀ (fn:Fn) (first cap:Array Value) (w:World),(Instr.makeFunc fn first cap).run Tryz.prog w = .ok (.func fn first cap) w:=fun _ _ _ _=>rfl
 obtain⟨A,hA⟩:=xX w.heap.size;obtain⟨V,hV⟩:=xX (((w.alloc (.cells #[.string ⟨#[]⟩,.bool false] 86)).alloc (.cells #[.bool false] 4)));obtain⟨W,hW⟩:=xX (V.setCell ⟨A+1,0,none⟩ (.bool false));have s1:(w.alloc (.cells #[.string ⟨#[]⟩,.bool false] 86)).heap.size=A+1:=by simp[hA]
 have Ji:Fr xI xI w W:=by
  rw[<-hW,<-hV];exact(((Fr.refl _ _).alloc _).alloc _).set _ (.inr (by rw[hA];exact zL _))
 have c2W:=Ji.cell c2 id;have Wk:W.heap.size=A+2:=by rw[<-hW,<-hV];simp[hA,zR]
 have v0:V.cell? ⟨A,0,none⟩=some (.string ⟨#[]⟩):=by rw[<-hV,zf _ _ _ (by show A<_;omega),<-hA];exact xu _ _ _ _ _
 have v1:V.cell? ⟨A,1,none⟩=some (.bool false):=by rw[<-hV,zf _ _ _ (by show A<_;omega),<-hA];exact xu _ _ _ _ _
 have v2:V.cell? ⟨A+1,0,none⟩=some (.bool false):=by rw[<-hV,<-s1];exact xu _ _ _ _ _
 have y0:∀ j,V.frozen? ⟨A,j,none⟩=false:=fun j=>by rw[<-hV,zX (Below.heap_alloc _ _ _ (by show A<_;omega)),<-hA];simp
 have y2:∀ j,V.frozen? ⟨A+1,j,none⟩=false:=fun j=>by rw[<-hV,<-s1];simp
 have a0:W.cell? ⟨A,0,none⟩=some (.string ⟨#[]⟩):=by rw[<-hW];exact uV v0 _ (by show A+1≠A;omega)
 have a1:W.cell? ⟨A,1,none⟩=some (.bool false):=by rw[<-hW];exact uV v1 _ (by show A+1≠A;omega)
 have a2:W.cell? ⟨A+1,0,none⟩=some (.bool false):=by rw[<-hW];exact uy v2 _
 have z0:∀ j,W.frozen? ⟨A,j,none⟩=false:=fun j=>by rw[<-hW,zv];exact y0 j
 have z2:∀ j,W.frozen? ⟨A+1,j,none⟩=false:=fun j=>by rw[<-hW,zv];exact y2 j
 have c2V:V.cell? ⟨b,2,none⟩=some (.func (.func K) #[] cp):=by
  have:Fr xI xI w V:=by rw[<-hV];exact((Fr.refl _ _).alloc _).alloc _
  exact this.cell c2 id
 have hsV:V.heap.size=A+2:=by rw[<-hV];simp[hA]
 have oy:=hg.fr hi Ji (fun _ q=>q.elim);have HC:=z7 (vu W s n oy hn);have Ud:=z7 Ji;have HG:=z7 hg;have HSU:=z7 (fun k (hk:S s k)=>hg.EL s w k hi hk);have HSB:=z7 hg.sub;have HA:=z7 hA;have CS:=z7 Wk;clear Ji vu oy c2 hi hg s1 Wk;go_enter_defers func165,ntmps165
 go_wp2_with fail;try rw[hW]
 clear hW hV v0 v1 v2 y0 y2 hsV c2V hA;refine HC.out.mono ?_;rintro e w1 ⟨hr,UM,ug,uH⟩;have hAS:∀ k,A<=k->¬S s k:=fun k hk q=>by have:=HSU.out k q;have:=HA.out;omega
 have nA:¬F s A:=fun q=>hAS A (zQ _) (HSB.out _ _ q)
 have nA1:¬F s (A+1):=fun q=>hAS (A+1) (by omega) (HSB.out _ _ q)
 have b0:=ug.cell a0 nA;have b1:=ug.cell a1 nA;have b2:=ug.cell a2 nA1;have k0:∀ j,w1.frozen? ⟨A,j,none⟩=false:=fun j=>(ug.frozen (a:=⟨A,j,none⟩) (by show A<_;have:=CS.out;omega) nA).trans (z0 j)
 have k2:∀ j,w1.frozen? ⟨A+1,j,none⟩=false:=fun j=>(ug.frozen (a:=⟨A+1,j,none⟩) (by show A+1<_;have:=CS.out;omega) nA1).trans (z2 j)
 obtain⟨t,bb,ok,rfl⟩:∃ t bb ok,e = .returned (.tuple #[.agg #[xg t,.bool bb],.bool ok]):=by
  unfold zju at hr;split at hr
  .obtain⟨t,b,h⟩:=hr;exact⟨t,b,_,h⟩
  .exact⟨_,_,_,hr.2⟩
  .exact hr.elim
 have HR:=z7 hr;have HI:=z7 (z8 UM (z8 ug uH));have HAS:=z7 hAS;clear hr UM ug uH hAS nA nA1 a0 a1 a2 z0 z2 HC;go_wp2_with fail;obtain⟨X,hX⟩:=xX ((((((w1.setCell ⟨A,0,none⟩ (xg t)).setCell ⟨A,1,none⟩ (.bool bb)).setCell ⟨A+1,0,none⟩ (.bool true)).setCell ⟨A,0,none⟩ (xg t)).setCell ⟨A,1,none⟩ (.bool bb)));rw[hX];have n01:(⟨A,0,none⟩:Addr)≠⟨A,1,none⟩:=by simp
 have e2:X.cell? ⟨A+1,0,none⟩=some (.bool true):=by
  rw[<-hX];exact uV (uV (uy (uV (uV b2 _ (by simp)) _ (by simp)) _) _ (by simp)) _ (by simp)
 have e0:X.cell? ⟨A,0,none⟩=some (xg t):=by
  rw[<-hX,xk,if_neg (by simp)];refine uy (v:=xg t) ?_ _;refine uV ?_ _ (by simp);rw[xk,if_neg (by simp)];exact uy b0 _
 have e1:X.cell? ⟨A,1,none⟩=some (.bool bb):=by
  rw[<-hX];refine uy (v := .bool bb) ?_ _;rw[xk,if_neg (by simp)];refine uV ?_ _ (by simp);refine uy (v := .bool false) ?_ _;rw[xk,if_neg (by simp)];exact b1
 have hXf:Fr (fun k=>k=A\/k=A+1) (fun k=>k=A\/k=A+1) w1 X:=by
  rw[<-hX];exact(((((Fr.refl _ _).set _ (.inl (.inl rfl))).set _ (.inl (.inl rfl))).set _ (.inl (.inr rfl))).set _ (.inl (.inl rfl))).set _ (.inl (.inl rfl))
 clear hX;refine leaves_cons (f:=207) (args:=#[.pointer (some ⟨A+1,0,none⟩)]) (by simp) (by simp[go_sem]) ?_;refine(P8 (A+1) _ e2).mono ?_;rintro e u' Qm ⟨rfl,rfl,rfl⟩;simp[Leaves,settle,results,results165,go_sem,e0,e1];obtain⟨UM,ug,uH⟩:=HI.out;have hsS:∀ k,(k=A\/k=A+1)->¬S (E.get n s).2 k:=by
  intro k hk q;rcases uH k q with q|q
  .exact HAS.out k (by omega) q
  .have:=CS.out;omega
 refine⟨HR.out,HG.out.fr UM hXf hsS,?_,fun k hk=>(uH k hk).imp id (fun q=>by have:=CS.out;have:=HA.out;omega)⟩;have h1:Fr (F s) (F (E.get n s).2) w w1:=((Ud.out.wide (G:=F s) (fun _ q=>q.elim)).trans ug);exact⟨hXf.os.trans h1.os,hXf.tape.trans h1.tape,hXf.output.trans h1.output,Nat.le_trans h1.size hXf.size,fun k hk hn=>(hXf.keep k (zF hk h1.size) (fun q=>by have:=HA.out;omega)).trans (h1.keep k hk hn),h1.fp⟩
end
theorem C5(t:Wd)(num:Bool)(w:World)(ht:t.length<=1000000) :
  Calls Tryz.prog 84 #[.agg #[xg t,.bool num]] w fun e w'=>e = .returned (.bool (gi t num))/\Below w.heap.size w w':=by
 have hb:∀ ob,Below w.heap.size w (w.alloc ob):=fun ob=>(zG _ _).alloc (zQ _) _
 have qc:(⟨t.toArray⟩:ByteArray).size=t.length:=size_mk _
 cases num
 .have k1:((t.length:Int)<=60)=(t.length<=60):=by simp only[eq_iff_iff];omega
  have HS:=z7 (show gi t false=decide (t.length<=60) from rfl);have HB:=z7 (hb (.cells #[xg t,.bool false] 86));clear hb;go_enter func84,ntmps84;go_wp2;go_ret;rw[HS.out];exact⟨by simp,HB.out⟩
 .have HS:=z7 (show gi t true=uB t from rfl);have HP:=fun ob=>z7 (Yq ⟨t.toArray⟩ (w.alloc ob) (by rw[qc];exact ht))
  go_enter func84,ntmps84;go_wp2_with fail;refine(HP _).out.mono ?_;rintro e w1 ⟨b,v,k,rfl,⟨va,vn,vk,rfl⟩,xG,-⟩;have HB:=z7 ((hb _).trans (xG.mono (by simp)));clear hb xG HP;go_wp2;go_ret;rw[HS.out];exact⟨rfl,HB.out.alloc HB.out.size _⟩
structure Bk(b q j:Nat)(n:Wd)(w:World):Prop where
 b0:w.cell? ⟨b,0,none⟩=some (.pointer (some ⟨q,0,none⟩))
 c:∃ C m cc,w.cell? ⟨q,0,none⟩=some (.slice (some ⟨C,0,none⟩) m cc)/\w.cell? ⟨C,j,none⟩=some (xg n)/\j<m/\m<=1000000
theorem Bk.fr{b q j:Nat}{n:Wd}{w w':World}{D D':Nat->Prop}(h:Bk b q j n w)(hf:Fr D D' w w')(hd:∀ k,¬D k):Bk b q j n w':=by
 obtain⟨b0,C,m,cc,h1,h2,h3⟩:=h;exact⟨hf.cell b0 (hd _),C,m,cc,hf.cell h1 (hd _),hf.cell h2 (hd _),h3⟩
def zjk(n:Nat)(e:Ending):Prop:=∃ uf:List PanicEntry,e = .panicked ({ v:=qW n,recovered:=false }::uf)/\uf.dropWhile (!·.goexit)=[]
section
variable {τ:Type}
def Xh{α:Type}(F S:τ->Nat->Prop)(Inv:τ->World->Prop)(s:τ)(w:World)(ok:α->τ->World->Ending->Prop)(r:Except (Nat×τ) (α×τ))(e:Ending)(w':World):Prop :=
 match r with
 | .ok (a,s')=>ok a s' w' e/\Inv s' w'/\Fr (F s) (F s') w w'/\∀ k,S s' k->S s k\/w.heap.size<=k
 | .error (n,s')=>zjk n e/\Inv s' w'/\Fr (F s) (F s') w w'/\∀ k,S s' k->S s k\/w.heap.size<=k
theorem Xh.more{gv:Value}{E:qJ τ}{F S:τ->Nat->Prop}{Inv:τ->World->Prop}(hg:EI gv E F S Inv){s s':τ}{w w1 w2:World}{D D':Nat->Prop}(h:Inv s' w1/\Fr (F s) (F s') w w1/\∀ k,S s' k->S s k\/w.heap.size<=k)(hf:Fr D D' w1 w2)(hd:∀ k,D k->¬S s' k/\w.heap.size<=k):Inv s' w2/\Fr (F s) (F s') w w2/\∀ k,S s' k->S s k\/w.heap.size<=k :=
 ⟨hg.fr h.1 hf (fun k q=>(hd k q).1),⟨hf.os.trans h.2.1.os,hf.tape.trans h.2.1.tape,hf.output.trans h.2.1.output,Nat.le_trans h.2.1.size hf.size,fun k hk hn=>(hf.keep k (zF hk h.2.1.size) (fun q=>by have:=(hd k q).2;omega)).trans (h.2.1.keep k hk hn),h.2.1.fp⟩,h.2.2⟩
def ycz(a:Wd×Bool)(_:τ)(_:World)(e:Ending):Prop:=a.1.length<=1000000/\e = .returned (.agg #[xg a.1,.bool a.2])
theorem EM{gv:Value}{E:qJ τ}{F S:τ->Nat->Prop}{Inv:τ->World->Prop}(hg:EI gv E F S Inv)(b q j:Nat)(n:Wd)(s:τ)(w:World)(c2:w.cell? ⟨b,2,none⟩=some gv)(hc:Bk b q j n w)(hi:Inv s w)(hn:n.length<=5000000) :
  Calls Tryz.prog 127 #[.pointer (some ⟨b,0,none⟩),.int .i64 (j:Nat)] w (Xh F S Inv s w ycz (Ze E n s)):=by
 obtain⟨W,hW⟩:=xX (w.alloc (.cells #[.string ⟨#[]⟩,.bool false] 86));have Ji:Fr xI xI w W:=by rw[<-hW];exact(Fr.refl _ _).alloc _
 obtain⟨A,hA⟩:=xX w.heap.size;have a0:W.cell? ⟨A,0,none⟩=some (.string ⟨#[]⟩):=by rw[<-hW,<-hA];exact xu _ _ _ _ _
 have a1:W.cell? ⟨A,1,none⟩=some (.bool false):=by rw[<-hW,<-hA];exact xu _ _ _ _ _
 have z0:∀ j,W.frozen? ⟨A,j,none⟩=false:=fun j=>by rw[<-hW,<-hA];simp
 have Wk:W.heap.size=A+1:=by rw[<-hW];simp[hA]
 have iC:∀ k,S s k->k<A:=fun k hk=>by rw[<-hA];exact hg.EL s w k hi hk
 have oy:=hg.fr hi Ji (fun _ q=>q.elim);obtain⟨b0,C,m,cc,q0,cj,hjm,hm⟩:=hc.fr Ji (fun _ q=>q);have HAK:=z7 (rS hg b n s W (Ji.cell c2 id) oy hn);have k1:(j:Int)<(m:Int):=by omega
 have Ud:=z7 Ji;have HG:=z7 hg;have HSU:=z7 iC;have CS:=z7 Wk;clear Ji oy c2 hc hi hg iC Wk;go_enter func127,ntmps127;go_wp2_with fail;refine HAK.out.mono ?_;rintro e w1 ⟨hr,UM,ug,uH⟩;have nA:¬F s A:=fun q=>by have:=HSU.out A (HG.out.sub _ _ q);omega
 have b0':=ug.cell a0 nA;have b1':=ug.cell a1 nA;have y0:∀ j,w1.frozen? ⟨A,j,none⟩=false:=fun j=>(ug.frozen (a:=⟨A,j,none⟩) (by show A<_;have:=CS.out;omega) nA).trans (z0 j)
 obtain⟨⟨o,s'⟩,ho⟩:∃ p,E.get n s=p:=⟨_,rfl⟩;rw[ho] at hr UM ug uH;have hFw:Fr (F s) (F s') w w1:=(Ud.out.wide (G:=F s) (fun _ q=>q.elim)).trans ug;have hSw:∀ k,S s' k->S s k\/w.heap.size<=k:=fun k hk=>(uH k hk).imp id (fun q=>by have:=Ud.out.size;omega)
 have HO:=z7 ho;have HI:=z7 (z8 UM (z8 hFw hSw));have zp4:¬S s' A:=fun q=>(uH A q).elim (fun q=>by have:=HSU.out A q;omega) (fun q=>by have:=CS.out;omega)
 have HAS:=z7 zp4;clear UM ug uH hFw hSw ho HAK a0 a1 z0 b0 q0 cj nA zp4
 cases o with
 | zqx=>exact hr.elim
 | no =>
  obtain⟨t,bb,rfl⟩:=hr;have HR:=z7 (show Ze E n s = .error (12,s') by unfold Ze;rw[HO.out]);go_wp2;refine⟨rfl,?_⟩;rw[HR.out];exact⟨⟨[],rfl,rfl⟩,Xh.more HG.out HI.out ((Fr.refl xI _).alloc _) (fun _ q=>q.elim)⟩
 | val t num =>
  obtain⟨ht,rfl⟩:=hr;have HT:=z7 ht;have HV:=fun W=>z7 (C5 t num W ht)
  go_wp2_with fail;refine(HV _).out.mono ?_;rintro e w2 ⟨rfl,xJ⟩;have lA:A<w1.heap.size:=zZ w1 _ b0';have Uk:Fr xI xI w1 w2:=((Fr.refl _ _).alloc _).trans (Fr.of xJ);have d0:=Uk.cell b0' id;have d1:=Uk.cell b1' id;have d2:∀ j,w2.frozen? ⟨A,j,none⟩=false:=fun j=>(Uk.frozen (a:=⟨A,j,none⟩) lA id).trans (y0 j)
  have e0:w2.cell? ⟨w1.heap.size,0,none⟩=some (xg t):=(xJ.cell (by simp)).trans (xu _ _ _ _ 0);have e1:w2.cell? ⟨w1.heap.size,1,none⟩=some (.bool num):=(xJ.cell (by simp)).trans (xu _ _ _ _ 1);have HFZ:=z7 Uk;have xf2:¬(w1.heap.size=A):=fun e=>by omega
  have hAI:=Xh.more HG.out HI.out Uk (fun _ q=>q.elim);have HAI:=z7 hAI;clear xJ Uk b0' b1' y0 HV hAI
  cases Dh:gi t num
  .have HR:=z7 (show Ze E n s = .error (11,s') by unfold Ze;rw[HO.out];simp only[Dh];rfl);clear Dh;go_wp2;refine⟨rfl,?_⟩;rw[HR.out];exact⟨⟨[],rfl,rfl⟩,HAI.out⟩
  .have HR:=z7 (show Ze E n s = .ok ((t,num),s') by unfold Ze;rw[HO.out];simp only[Dh];rfl);clear Dh;go_wp2;refine bodyPost_ret (v := .agg #[xg t,.bool num]) ?_ rfl ?_
   .simp[results,results127,go_sem,d0,d1]
   .rw[HR.out];exact⟨⟨HT.out,rfl⟩,Xh.more HG.out HAI.out (D:=fun k=>k=A) (((Fr.refl (fun k=>k=A) _).set (a:=⟨A,0,none⟩) _ (.inl rfl)).set (a:=⟨A,1,none⟩) _ (.inl rfl)) (fun k hk=>by subst hk;exact⟨HAS.out,by omega⟩)⟩
end
theorem Rs{B:Nat}{w:World}{v:Value}{wh fr:Wd}(neg:Bool)(ho:w.ownsRow B 5 1 v (wh.length+fr.length) (vz (wh++fr)))(h1:wh.all xF=true)(h2:fr.all xF=true)(h3:0<wh.length)(h4:wh.length+fr.length<=30) :
  fy (fun k=>k<B) w (.agg #[.bool neg,v,.int .i64 (fr.length:Nat)]) (neg,(wh,fr)):=by
 obtain⟨g,cap,rfl,hg,-,-⟩:=vZ ho (by omega);have U5:wh.length+fr.length<=cap/\cap<=maxLen:=by
  rcases ho.2 with⟨hv,_⟩|⟨g2,uL,cur,hv,_,_,hh,hh2,_⟩
  .cases hv
  .cases hv;exact⟨hh,hh2⟩
 exact⟨g,0,cap,rfl,U5.1,U5.2,by omega,⟨_,Yr ho (m:=0) (by simp;omega) (by simp)⟩,qO ho (by simp),⟨h1,h2,fun e=>by have:=congrArg List.length e;simp at this;simp[this] at h3,by show wh.length<=100;omega,by show fr.length<=100;omega⟩⟩
section
variable {τ:Type}
theorem C6{E:qJ τ}{n t:Wd}{num:Bool}{s s':τ}(h:Ze E n s = .ok ((t,num),s')):gi t num=true:=by
 unfold Ze at h;split at h
 .cases h
 .cases h
 .split at h
  .cases h;assumption
  .cases h
def zp5(S:τ->Nat->Prop)(w:World)(n:vq)(s':τ)(w':World)(e:Ending):Prop:=∃ v,e = .returned v/\fy (fun k=>k<w.heap.size\/S s' k) w' v n/\n.2.1.length+n.2.2.length<=30
def WdP(t:Wd)(_:τ)(_:World)(e:Ending):Prop:=t.length<=1000000/\e = .returned (xg t)
theorem iE{gv:Value}{E:qJ τ}{F S:τ->Nat->Prop}{Inv:τ->World->Prop}(hg:EI gv E F S Inv)(b q j:Nat)(n:Wd)(s:τ)(w:World)(c2:w.cell? ⟨b,2,none⟩=some gv)(hc:Bk b q j n w)(hi:Inv s w)(hn:n.length<=5000000) :
  Calls Tryz.prog 172 #[.pointer (some ⟨b,0,none⟩),.int .i64 (j:Nat)] w (Xh F S Inv s w WdP (Hg E n s)):=by
 have HA:=z7 (EM hg b q j n s w c2 hc hi hn);obtain⟨r,hr⟩:=xX (Ze E n s);rw[hr] at HA;have HR:=z7 hr;have HG:=z7 hg;clear hg c2 hc hi hr;go_enter func172,ntmps172;go_wp2_with fail;refine HA.out.mono ?_;intro e w1 hq
 cases r with
 | error er =>
  obtain⟨m,s'⟩:=er;obtain⟨⟨uf,rfl,hold⟩,hI⟩:=hq;have HQ:=z7 (show Xh F S Inv s w WdP (Hg E n s) (.panicked ({ v:=qW m,recovered:=false }::uf)) w1 by
   unfold Hg;rw[HR.out];exact⟨⟨uf,rfl,hold⟩,hI⟩)
  clear hold hI HA;go_wp2;exact⟨rfl,HQ.out⟩
 | ok p =>
  obtain⟨⟨t,num⟩,s'⟩:=p;obtain⟨⟨ht,rfl⟩,hI⟩:=hq;have HI:=z7 hI;have HT:=z7 ht;clear hI HA
  cases num
  .have HW:=z7 (show Hg E n s = .ok (t,s') by unfold Hg;rw[HR.out];rfl);go_wp2;go_ret;rw[HW.out];exact⟨⟨HT.out,rfl⟩,Xh.more HG.out HI.out ((Fr.refl xI _).alloc _) (fun _ q=>q.elim)⟩
  .have HW:=z7 (show Hg E n s = .error (13,s') by unfold Hg;rw[HR.out];rfl);go_wp2;refine⟨rfl,?_⟩;rw[HW.out];exact⟨⟨[],rfl,rfl⟩,Xh.more HG.out HI.out ((Fr.refl xI _).alloc _) (fun _ q=>q.elim)⟩
theorem Lm{gv:Value}{E:qJ τ}{F S:τ->Nat->Prop}{Inv:τ->World->Prop}(hg:EI gv E F S Inv)(b q j:Nat)(n:Wd)(s:τ)(w:World)(c2:w.cell? ⟨b,2,none⟩=some gv)(hc:Bk b q j n w)(hi:Inv s w)(hn:n.length<=5000000) :
  Calls Tryz.prog 129 #[.pointer (some ⟨b,0,none⟩),.int .i64 (j:Nat)] w (Xh F S Inv s w (zp5 S w) (Zi E n s)):=by
 obtain⟨W,hW⟩:=xX (w.alloc (.cells #[.bool false,.slice none 0 0,.int .i64 0] 97));have Ji:Fr xI xI w W:=by rw[<-hW];exact(Fr.refl _ _).alloc _
 obtain⟨A,hA⟩:=xX w.heap.size;have hR:dC W A:=by rw[<-hW,<-hA];exact⟨xu _ _ _ _ _,xu _ _ _ _ _,xu _ _ _ _ _,by simp,by simp,by simp,by simp⟩
 have Wk:W.heap.size=A+1:=by rw[<-hW];simp[hA]
 have iC:∀ k,S s k->k<A:=fun k hk=>by rw[<-hA];exact hg.EL s w k hi hk
 have oy:=hg.fr hi Ji (fun _ q=>q.elim);have HAR:=z7 (EM hg b q j n s W (Ji.cell c2 id) (hc.fr Ji (fun _ q=>q)) oy hn);obtain⟨r,hr⟩:=xX (Ze E n s);rw[hr] at HAR;have jh:=z7 hr;have HG:=z7 hg;have Ud:=z7 Ji;have HSU:=z7 iC;have CS:=z7 Wk;have HR:=z7 hR;clear hg c2 hc hi hr Ji iC oy Wk hR;go_enter func129,ntmps129;go_wp2_with fail;refine HAR.out.mono ?_;intro e w1 hq;have conv:∀ {s':τ},(Inv s' w1/\Fr (F s) (F s') W w1/\∀ k,S s' k->S s k\/W.heap.size<=k)->(Inv s' w1/\Fr (F s) (F s') w w1/\∀ k,S s' k->S s k\/w.heap.size<=k):=fun h=>⟨h.1,(Ud.out.wide (G:=F s) (fun _ q=>q.elim)).trans h.2.1,fun k hk=>(h.2.2 k hk).imp id (fun q=>by have:=Ud.out.size;omega)⟩
 cases r with
 | error er =>
  obtain⟨m,s'⟩:=er;obtain⟨⟨uf,rfl,hold⟩,hI⟩:=hq;have HQ:=z7 (show Xh F S Inv s w (zp5 S w) (Zi E n s) (.panicked ({ v:=qW m,recovered:=false }::uf)) w1 by
   unfold Zi;rw[jh.out];exact⟨⟨uf,rfl,hold⟩,conv hI⟩)
  clear hold hI HAR conv;go_wp2;exact⟨rfl,HQ.out⟩
 | ok p =>
  obtain⟨⟨t,num⟩,s'⟩:=p;obtain⟨⟨ht,rfl⟩,hI⟩:=hq;have HI:=z7 (conv hI);have nA:¬F s A:=fun q=>by have:=HSU.out A (HG.out.sub _ _ q);omega
  have hSA:¬S s' A:=fun q=>(hI.2.2 A q).elim (fun q=>by have:=HSU.out A q;omega) (fun q=>by have:=CS.out;omega)
  have ug:=hI.2.1;have lA:A<W.heap.size:=by have:=CS.out;omega
  have LH:dC w1 A:=⟨ug.cell HR.out.c0 nA,ug.cell HR.out.c1 nA,ug.cell HR.out.c2 nA,(ug.frozen (a:=⟨A,0,none⟩) lA nA).trans HR.out.z0,(ug.frozen (a:=⟨A,1,none⟩) lA nA).trans HR.out.z1,(ug.frozen (a:=⟨A,2,none⟩) lA nA).trans HR.out.z2,zF lA ug.size⟩;have fI:=z7 LH;have HSA:=z7 hSA;have HT:=z7 ht;clear hI HAR conv ug LH hSA nA lA
  cases num
  .have HW:=z7 (show Zi E n s = .error (13,s') by unfold Zi;rw[jh.out];rfl);go_wp2;refine⟨rfl,?_⟩;rw[HW.out];exact⟨⟨[],rfl,rfl⟩,Xh.more HG.out HI.out ((Fr.refl xI _).alloc _) (fun _ q=>q.elim)⟩
  .have HW:=z7 (show Zi E n s = .ok (numOf t,s') by unfold Zi;rw[jh.out];rfl);have Xq:uB t=true:=by have:=C6 jh.out;exact this
   have HN:=z7 Xq;have qc:(⟨t.toArray⟩:ByteArray).size=t.length:=size_mk _;have HP:=fun W=>z7 (Yq ⟨t.toArray⟩ W (by rw[qc];exact ht))
   clear Xq;go_wp2_with fail;refine(HP _).out.mono ?_;rintro e w2 ⟨bb,v,k,rfl,⟨va,vn,vk,rfl⟩,xJ,vE⟩;obtain⟨rfl,rfl,xV⟩:=vE HN.out;have Uk:Fr xI xI w1 w2:=((Fr.refl _ _).alloc _).trans (Fr.of xJ);have N0:dC w2 A:=⟨Uk.cell fI.out.c0 id,Uk.cell fI.out.c1 id,Uk.cell fI.out.c2 id,(Uk.frozen (a:=⟨A,0,none⟩) fI.out.lt id).trans fI.out.z0,(Uk.frozen (a:=⟨A,1,none⟩) fI.out.lt id).trans fI.out.z1,(Uk.frozen (a:=⟨A,2,none⟩) fI.out.lt id).trans fI.out.z2,Nat.lt_of_lt_of_le fI.out.lt Uk.size⟩;have r0:=N0.c0;have r1:=N0.c1;have r2:=N0.c2;have y0:=N0.z0;have y1:=N0.z1;have y2:=N0.z2;have hAw:A<w2.heap.size:=N0.lt;have SK:A<w1.heap.size:=fI.out.lt;have XF:(w1.alloc (.cells #[xg t,.bool true] 86)).heap.size=w1.heap.size+1:=by simp
   rw[XF] at xV;have HO:=z7 xV;have HFZ:=z7 Uk;clear xV vE xJ Uk N0 XF HP;go_wp2;obtain⟨X,hX⟩:=xX (((w2.setCell ⟨A,0,none⟩ (.bool (YA t))).setCell ⟨A,1,none⟩ (.slice va vn vk)).setCell ⟨A,2,none⟩ (.int .i64 ((u9 t).length:Nat)));have x0:X.cell? ⟨A,0,none⟩=some (.bool (YA t)):=by
    rw[<-hX,xk,if_neg (by simp),xk,if_neg (by simp)];exact uy r0 _
   have x1:X.cell? ⟨A,1,none⟩=some (.slice va vn vk):=by
    rw[<-hX,xk,if_neg (by simp)];refine uy (v := .slice none 0 0) ?_ _;rw[xk,if_neg (by simp)];exact r1
   have x2:X.cell? ⟨A,2,none⟩=some (.int .i64 ((u9 t).length:Nat)):=by
    rw[<-hX];refine uy (v := .int .i64 0) ?_ _;rw[xk,if_neg (by simp),xk,if_neg (by simp)];exact r2
   have xi:X.ownsRow (w1.heap.size+1) 5 1 (.slice va vn vk) ((vN t).length+(u9 t).length) (vz (vN t++u9 t)):=by
    rw[<-hX];exact xp (xp (xp HO.out (p:=⟨A,0,none⟩) (fun e=>by have:=(HO.out.lt A e.symm).1;omega) _) (p:=⟨A,1,none⟩) (fun e=>by have:=(HO.out.lt A e.symm).1;omega) _) (p:=⟨A,2,none⟩) (fun e=>by have:=(HO.out.lt A e.symm).1;omega) _
   have hfX:Fr (fun k=>k=A) (fun k=>k=A) w1 X:=by
    rw[<-hX];exact(((HFZ.out.wide (G:=fun k=>k=A) (fun _ q=>q.elim)).set (a:=⟨A,0,none⟩) _ (.inl rfl)).set (a:=⟨A,1,none⟩) _ (.inl rfl)).set (a:=⟨A,2,none⟩) _ (.inl rfl)
   rw[hX];have f0:=fun ob=>xQ x0 ob
   have f1:=fun ob=>xQ x1 ob
   have f2:=fun ob=>xQ x2 ob
   clear hX;refine bodyPost_ret (v := .agg #[.bool (YA t),.slice va vn vk,.int .i64 ((u9 t).length:Nat)]) ?_ rfl ?_
   .simp[results,results129,go_sem,f0,f1,f2]
   .rw[HW.out];obtain⟨d1,d2,hw,h30⟩:=Ke HN.out;have hn:=fun ob=>Rs (YA t) (xi.alloc ob) d1 d2 hw h30
    refine⟨⟨_,rfl,?_,h30⟩,Xh.more HG.out HI.out (hfX.alloc _) (fun k hk=>by subst hk;exact⟨HSA.out,by omega⟩)⟩;refine(hn _).fr (Fr.refl xI _) (fun _ q=>q.elim) (fun k hk => .inl ?_);rcases hk with hk|hk
    .show k<w1.heap.size+1;omega
    .have:=HG.out.EL s' w1 k HI.out.1 hk;show k<w1.heap.size+1;omega
end
def P9(o:Option Nat):Int:=match o with|some k=>((k:Nat):Int)|none=>-1
theorem Fm(q mb n p:Nat)(f:Nat->Option Nat)(w:World)(q2:w.cell? ⟨q,2,none⟩=some (.map (some mb)))(hm:ZU w mb n f)(hp:p<=4000000000) :
  Calls Tryz.prog 135 #[.pointer (some ⟨q,0,none⟩),.int .i64 (p:Nat)] w fun e w'=>e = .returned (.int .i64 (P9 (f p)))/\w=w':=by
 have VE:=hm.look p hp;obtain⟨o,ho⟩:=xX (f p);rw[ho] at VE |-
 clear ho hm
 cases o with
 | none =>
  go_enter func135,ntmps135;go_wp2;go_ret;exact⟨rfl,rfl⟩
 | some k =>
  go_enter func135,ntmps135;go_wp2;go_ret;exact⟨rfl,rfl⟩
section
variable {b:Nat} {x0 x2 st v:Value} {l:Wd} {w:World}
theorem Wj{g:Nat}{nv:Value}{n:vq}{t:Wd}(h:q9 b x0 (.pointer (some ⟨g,0,none⟩)) x2 st v l w)(hn:fy (fun _=>False) w nv n)(hw:∀ W,Below w.heap.size w W->Calls Tryz.prog 45 #[.pointer (some ⟨g,0,none⟩),nv] W fun e w'=>e = .returned (xg t)/\Below W.heap.size W w')(hlen:l.length+t.length<=1000000000) :
  Calls Tryz.prog 128 #[.pointer (some ⟨b,0,none⟩),nv] w fun e w'=>e = .returned (.tuple #[])/\Fv b x0 (.pointer (some ⟨g,0,none⟩)) x2 st v (l++t) w w':=by
 obtain⟨gd,o,cap,rfl,-⟩:=hn;obtain⟨L,hL⟩:=xX (n.2.1.length+n.2.2.length);obtain⟨k,hk⟩:=xX n.2.2.length;rw[hL,hk] at hw |-
 obtain⟨A,hA⟩:=xX w.heap.size;obtain⟨W,hW⟩:=xX (w.alloc (.cells #[.bool n.1,.slice (some ⟨gd,o,none⟩) L cap,.int .i64 (k:Nat)] 97));have hb:Below w.heap.size w W:=by rw[<-hW];exact(zG _ _).alloc (zQ _) _
 have Ji:Fr xI xI w W:=Fr.of hb;have hc:∀ j,W.cell? ⟨A,j,none⟩=(#[zI n.1,.slice (some ⟨gd,o,none⟩) L cap,.int .i64 (k:Nat)]:Array Value)[j]? := fun j=>by rw[<-hW,<-hA];exact xu _ _ _ _ _
 have e0:=hc 0;have e1:=hc 1;have e2:=hc 2;simp only[zg,zu,zk] at e0 e1 e2;have hOW:=h.fr Ji id (fun _ _ q=>q);have b1:=hOW.cell.2.1;have Qj:=z7 (hw W.drew (hb.trans ⟨rfl,rfl,rfl,zQ _,fun _ _=>rfl⟩));have Lu:=z7 hOW;have Ud:=z7 Ji;obtain⟨nb,Ef⟩:=xX n.1;rw[Ef] at e0 hW Qj |-
 clear h hw hb hc hOW Ji hL hk Ef;go_enter func128,ntmps128;go_wp2_with fail;try rw[hW]
 clear hW hA;refine rk (fun W':World=>W'.cell? ⟨b,1,none⟩=some (.pointer (some ⟨g,0,none⟩))/\W'.cell? ⟨A,0,none⟩=some (.bool nb)/\W'.cell? ⟨A,1,none⟩=some (.slice (some ⟨gd,o,none⟩) L cap)/\W'.cell? ⟨A,2,none⟩=some (.int .i64 (k:Nat))) 9 (zV 8) 2 ⟨b1,e0,e1,e2⟩ ?_;(iterate 8 (refine ty ?_;try simp only[pl]))
 refine xq ?_;refine UN 8 (fun J hJ=>?_);go_simp;refine Qj.out.mono ?_;rintro e w1 ⟨rfl,xG⟩;have ug:Fr xI xI W w1:=(Fr.of xG).und;refine hJ.out _ _ ⟨ug.cell b1 id,ug.cell e0 id,ug.cell e1 id,ug.cell e2 id⟩ fun _=>?_
 clear hJ J;have A6:=z7 (KH t (Lu.out.fr ug id (fun _ _ q=>q)) hlen);have Ve:=z7 ug;clear ug xG Qj;refine BZ 9 (fun J hJ=>?_);go_simp;refine A6.out.mono ?_;rintro e w2 ⟨⟨u,rfl⟩,K7⟩;refine hJ.out _ _ ?_;clear hJ J;refine BX ?_ _;have wW:=z7 K7;clear K7 A6;go_wp2;go_end0
 obtain⟨v',h1,h2⟩:=wW.out;exact⟨rfl,v',h1,((Ud.out.trans Ve.out).wide (G:=Ub b v) (fun _ q=>q.elim)).trans h2⟩
end
def fG(M:Nat->Prop)(w:World):List (vq×vq)->List Value->Prop
 | [],cs=>cs=[]
 |(n,z)::r,cs=>∃ nb g o m c k zb g' o' m' c' k' t,cs=(VS nb g o m c k++VS zb g' o' m' c' k')++t/\fy M w (Li nb g o m c k) n/\fy M w (Li zb g' o' m' c' k') z/\fG M w r t
theorem fG.len{M:Nat->Prop}{w:World}:∀ {r:List (vq×vq)} {cs:List Value},fG M w r cs->cs.length=r.length*6
 | [],cs,h=>by rw[show cs=[] from h];rfl
 | p::r,cs,h=>by
  obtain⟨nb,g,o,m,c,k,zb,g',o',m',c',k',t,rfl,_,_,ht⟩:=h;have:=fG.len ht;simp[VS,this];omega
theorem fG.fr{M M' F F':Nat->Prop}{w w':World}(hf:Fr F F' w w')(hF:∀ k,F k->M k)(hM:∀ k,M' k->M k\/w.heap.size<=k):∀ {r:List (vq×vq)} {cs:List Value},fG M w r cs->fG M' w' r cs
 | [],cs,h=>h
 | p::r,cs,h=>by
  obtain⟨nb,g,o,m,c,k,zb,g',o',m',c',k',t,rfl,h1,h2,ht⟩:=h;exact⟨nb,g,o,m,c,k,zb,g',o',m',c',k',t,rfl,h1.fr hf hF hM,h2.fr hf hF hM,fG.fr hf hF hM ht⟩
theorem fG.snoc{M:Nat->Prop}{w:World}{n z:vq}{nb zb:Bool}{g o m c k g' o' m' c' k':Nat}(h1:fy M w (Li nb g o m c k) n)(h2:fy M w (Li zb g' o' m' c' k') z):∀ {r:List (vq×vq)} {cs:List Value},fG M w r cs->fG M w (r++[(n,z)]) (cs++(VS nb g o m c k++VS zb g' o' m' c' k'))
 | [],cs,h=>by rw[show cs=[] from h];exact⟨nb,g,o,m,c,k,zb,g',o',m',c',k',[],by simp,h1,h2,rfl⟩
 | p::r,cs,h=>by
  obtain⟨nb',g1,o1,m1,c1,k1,zb',g2,o2,m2,c2,k2,t,rfl,a1,a2,ht⟩:=h;exact⟨nb',g1,o1,m1,c1,k1,zb',g2,o2,m2,c2,k2,_,by rw[zi],a1,a2,fG.snoc h1 h2 ht⟩
theorem fG.last{M:Nat->Prop}{w:World}{n z:vq}:∀ {r:List (vq×vq)} {cs:List Value},fG M w (r++[(n,z)]) cs->∃ Rt nb g o m c k zb g' o' m' c' k',cs=Rt++(VS nb g o m c k++VS zb g' o' m' c' k')/\fG M w r Rt/\fy M w (Li nb g o m c k) n/\fy M w (Li zb g' o' m' c' k') z
 | [],cs,h=>by
  obtain⟨nb,g,o,m,c,k,zb,g',o',m',c',k',t,rfl,h1,h2,ht⟩:=h;rw[show t=[] from ht];exact⟨[],nb,g,o,m,c,k,zb,g',o',m',c',k',by simp,rfl,h1,h2⟩
 | p::r,cs,h=>by
  obtain⟨nb,g,o,m,c,k,zb,g',o',m',c',k',t,rfl,h1,h2,ht⟩:=h;obtain⟨Rt,nb',g1,o1,m1,c1,k1,zb',g2,o2,m2,c2,k2,rfl,a0,a1,a2⟩:=fG.last ht;exact⟨_,nb',g1,o1,m1,c1,k1,zb',g2,o2,m2,c2,k2,by simp only[zi],⟨nb,g,o,m,c,k,zb,g',o',m',c',k',Rt,rfl,h1,h2,a0⟩,a1,a2⟩
abbrev Fp(b:Nat)(v st:Value)(Sx:Nat->Prop)(k:Nat):Prop:=k=b\/xY v k\/xY st k\/Sx k
section
variable {τ:Type}
def vh(b A0 q g:Nat)(gv:Value)(G:Nat->Prop)(F S:τ->Nat->Prop)(Inv:τ->World->Prop)(r:Z4 τ)(w:World):Prop :=
 ∃ v st cs,q9 b (.pointer (some ⟨q,0,none⟩)) (.pointer (some ⟨g,0,none⟩)) gv st v r.out w/\w.ownsRow 0 272 6 st r.stk.length cs/\fG (Fp b v st (S r.gs)) w r.stk cs/\Inv r.gs w /\
  st.ownBlock≠some b/\(∀ k,xY v k->¬xY st k)/\(∀ k,S r.gs k->(k+2<b\/b<k)/\¬xY v k/\¬xY st k)/\(∀ k,xY v k\/xY st k->A0<=k)/\∀ k,F r.gs k->G k
structure bU(w0:World)(A0 b:Nat)(G:Nat->Prop)(q mb g:Nat)(s:MkS)(vC vI:Value)(rs:List (Value×Value))(gv:Value)(E:qJ τ)(F S:τ->Nat->Prop)(Inv:τ->World->Prop):Prop where
 prog:∀ W,Fr G G w0 W->jX q s vC vI rs mb W
 wr:∀ W nv n,Fr G G w0 W->fy (fun _=>False) W nv n->Calls Tryz.prog 45 #[.pointer (some ⟨g,0,none⟩),nv] W fun e w'=>e = .returned (xg (E.wr n))/\Below W.heap.size W w'
 wrl:∀ n:vq,EG n.2->(E.wr n).length<=5000
 set:∃ cv ov,(∀ W,Fr G G w0 W->W.cell? ⟨g,0,none⟩=some cv/\W.cell? ⟨g,1,none⟩=some ov) /\
  (∀ W nv d,Fr G G w0 W->uP W nv d->Calls Tryz.prog 60 #[cv,nv] W fun e w'=>e = .returned (.int .i64 (E.sort false d))/\Below W.heap.size W w') /\
  ∀ W nv d,Fr G G w0 W->uP W nv d->Calls Tryz.prog 60 #[ov,nv] W fun e w'=>e = .returned (.int .i64 (E.sort true d))/\Below W.heap.size W w'
 srt:∀ b d,E.sort b d<6
 get:EI gv E F S Inv
 n1:s.code.length<=1000000
 n2:s.cs.length<=1000000
 n3:∀ t∈s.cs,t.length<=5000
 n4:∀ x∈s.code,x.v<=1000000000/\∀ y∈x.tg,y<=4000000000
 gA:∀ k,A0<=k->G k
 gb:A0<=b
def VmQ(b A0 q g:Nat)(gv:Value)(G:Nat->Prop)(F S:τ->Nat->Prop)(Inv:τ->World->Prop)(r0:Z4 τ)(_:Nat)(r:Z4 τ)(w:World):Prop:=vh b A0 q g gv G F S Inv r w/\r.out.length<=r0.out.length+5000/\r.stk.length<=r0.stk.length+1
def EN(Inv:τ->World->Prop)(S:τ->Nat->Prop)(b:Nat)(r:Z4 τ)(w:World):Prop:=Inv r.gs w/\∀ k,S r.gs k->k+2<b\/b<k
section
variable {w0 W:World} {A0 b q mb g k:Nat} {G:Nat->Prop} {s:MkS} {vC vI gv:Value} {rs:List (Value×Value)} {E:qJ τ} {F S:τ->Nat->Prop} {Inv:τ->World->Prop} {r:Z4 τ} {x:jG}
theorem vh.quiet(hE:bU w0 A0 b G q mb g s vC vI rs gv E F S Inv){w w':World}(h:vh b A0 q g gv G F S Inv r w)(hf:Fr xI xI w w'):vh b A0 q g gv G F S Inv r w':=by
 obtain⟨v,st,cs,hO,vM,fT,hi,Zc,Xz,hS,hA,hF⟩:=h;exact⟨v,st,cs,hO.fr hf id (fun _ _ q=>q),hf.own vM (fun _ _ q=>q),fG.fr hf (fun _ q=>q.elim) (fun _ q => .inl q) fT,hE.get.fr hi hf (fun _ q=>q.elim),Zc,Xz,hS,hA,hF⟩
theorem vh.asked(hE:bU w0 A0 b G q mb g s vC vI rs gv E F S Inv){w w':World}(h:vh b A0 q g gv G F S Inv r w){s':τ}(hq:Inv s' w'/\Fr (F r.gs) (F s') w w'/\∀ k,S s' k->S r.gs k\/w.heap.size<=k) :
  vh b A0 q g gv G F S Inv { r with gs:=s' } w'/\Fr G G w w'/\∀ k,Fp b (.slice none 0 0) (.slice none 0 0) (S s') k->k=b\/S r.gs k\/w.heap.size<=k:=by
 obtain⟨v,st,cs,hO,vM,fT,hi,Zc,Xz,hS,hA,hF⟩:=h;obtain⟨hi',hf,A9⟩:=hq;have xB:=hO.lt;have nb:¬F r.gs b:=fun q=>by have:=(hS b (hE.get.sub _ _ q)).1;omega
 have nv:∀ k,xY v k->¬F r.gs k:=fun k hk q=>(hS k (hE.get.sub _ _ q)).2.1 hk
 have nst:∀ k,xY st k->¬F r.gs k:=fun k hk q=>(hS k (hE.get.sub _ _ q)).2.2 hk
 refine⟨⟨v,st,cs,hO.fr hf nb nv,hf.own vM nst,fG.fr hf (fun k hk => .inr (.inr (.inr (hE.get.sub _ _ hk)))) (fun k hk=>?_) fT,hi',Zc,Xz,fun k hk=>?_,hA,fun k hk=>?_⟩,?_,fun k hk=>?_⟩
 .rcases hk with h|h|h|h
  .exact .inl (.inl h)
  .exact .inl (.inr (.inl h))
  .exact .inl (.inr (.inr (.inl h)))
  .exact(A9 k h).imp (fun q => .inr (.inr (.inr q))) id
 .rcases A9 k hk with h|h
  .exact hS k h
  .exact⟨by omega,fun q=>by have:=ui hO.row q;omega,fun q=>by have:=ui vM q;omega⟩
 .rcases hf.fp k hk with h|h
  .exact hF k h
  .exact hE.gA k (by have:=hE.gb;omega)
 .exact(hf.tg (F'':=F r.gs) (fun k hk => .inl hk)).wide (fun k hk=>hF k hk)
 .rcases hk with h|h|h|h
  .exact .inl h
  .cases h
  .cases h
  .exact .inr (A9 k h)
theorem vh.wrote(hE:bU w0 A0 b G q mb g s vC vI rs gv E F S Inv){w w':World}{v st:Value}{cs:List Value}{t:Wd}(vM:w.ownsRow 0 272 6 st r.stk.length cs)(fT:fG (Fp b v st (S r.gs)) w r.stk cs)(hi:Inv r.gs w)(Zc:st.ownBlock≠some b)(Xz:∀ k,xY v k->¬xY st k)
  (hS:∀ k,S r.gs k->(k+2<b\/b<k)/\¬xY v k/\¬xY st k) (hA:∀ k,xY v k\/xY st k->A0<=k) (hF:∀ k,F r.gs k->G k) (xB:b<w.heap.size) (hq:Fv b (.pointer (some ⟨q,0,none⟩)) (.pointer (some ⟨g,0,none⟩)) gv st v (r.out++t) w w') :
  vh b A0 q g gv G F S Inv { r with out:=r.out++t } w'/\Fr G G w w':=by
 obtain⟨v',hO',hf⟩:=hq;have nst:∀ k,xY st k->¬Ub b v k:=fun k hk q=>q.elim (fun e=>Zc (by rw[<-e];exact hk)) (fun e=>Xz k e hk)
 have av:∀ k,xY v' k->xY v k\/w.heap.size<=k:=fun k hk=>(hf.fp k (.inr hk)).elim (fun q=>q.elim (fun e=>absurd (show v'.ownBlock=some b by rw[<-e];exact hk) (by obtain⟨_,_,_,_,h,_⟩:=hO';exact h)) .inl) .inr
 refine⟨⟨v',st,cs,hO',hf.own vM nst,fG.fr hf (fun k hk=>hk.elim .inl (fun h => .inr (.inl h))) (fun k hk=>?_) fT,hE.get.fr hi hf (fun k hk q=>hk.elim (fun e=>by have:=(hS k q).1;omega) (fun e=>(hS k q).2.1 e)),Zc,fun k hk=>?_,fun k hk=>?_,fun k hk=>?_,hF⟩,?_⟩
 .rcases hk with h|h|h|h
  .exact .inl (.inl h)
  .exact(av k h).imp (fun q => .inr (.inl q)) id
  .exact .inl (.inr (.inr (.inl h)))
  .exact .inl (.inr (.inr (.inr h)))
 .rcases av k hk with h|h
  .exact Xz k h
  .exact fun q=>by have:=ui vM q;omega
 .refine⟨(hS k hk).1,fun q=>?_,(hS k hk).2.2⟩;rcases av k q with h|h
  .exact(hS k hk).2.1 h
  .have:=hE.get.EL r.gs w k hi hk;omega
 .rcases hk with h|h
  .rcases av k h with h|h
   .exact hA k (.inl h)
   .have:=hE.gb;omega
  .exact hA k (.inr h)
 .exact(hf.tg (F'':=Ub b v) (fun k hk => .inl hk)).wide (fun k hk=>hE.gA k (hk.elim (fun e=>by rw[e];exact hE.gb) (fun e=>hA k (.inl e))))
theorem vh.Rh(hE:bU w0 A0 b G q mb g s vC vI rs gv E F S Inv){w w':World}{v st:Value}{cs:List Value}{stk:List (vq×vq)}{n:Nat}(vM:w.ownsRow 0 272 6 st n cs){Rt:List Value}(fT:fG (Fp b v st (S r.gs)) w stk Rt)(hi:Inv r.gs w)
  (hS:∀ k,S r.gs k->(k+2<b\/b<k)/\¬xY v k/\¬xY st k) (hA:∀ k,xY v k\/xY st k->A0<=k) (hF:∀ k,F r.gs k->G k) (xB:b<w.heap.size) (hq:Ll b (.pointer (some ⟨q,0,none⟩)) (.pointer (some ⟨g,0,none⟩)) gv st v r.out stk.length Rt w w') :
  vh b A0 q g gv G F S Inv { r with stk:=stk } w'/\Fr G G w w':=by
 obtain⟨Rr,a1,a2,a3,a4,a5⟩:=hq;have hm:∀ j,Fp b v Rr (S r.gs) j->Fp b v st (S r.gs) j\/w.heap.size<=j:=by
  intro j hj;rcases hj with h|h|h|h
  .exact .inl (.inl h)
  .exact .inl (.inr (.inl h))
  .rcases a5.fp j (.inr h) with(h|h)|h
   .exact .inl (.inl h)
   .exact .inl (.inr (.inr (.inl h)))
   .exact .inr h
  .exact .inl (.inr (.inr (.inr h)))
 have KS:∀ j,rP b st j->Fp b v st (S r.gs) j:=fun j hj=>hj.elim .inl (fun h => .inr (.inr (.inl h)))
 have hl:=hE.get.EL r.gs w;refine⟨⟨v,Rr,Rt,a1,a2,fG.fr a5 KS hm fT,hE.get.fr hi a5 (fun j hj=>?_),a3,a4,fun j hj=>⟨(hS j hj).1,(hS j hj).2.1,fun h=>?_⟩,fun j hj=>?_,hF⟩,?_⟩
 .rcases hj with rfl|h
  .exact fun q=>by have:=(hS _ q).1;omega
  .exact fun q=>(hS _ q).2.2 h
 .rcases a5.fp j (.inr h) with(h|h)|h
  .have:=(hS j hj).1;omega
  .exact(hS j hj).2.2 h
  .have:=hl j hi hj;omega
 .rcases hj with h|h
  .exact hA j (.inl h)
  .rcases a5.fp j (.inr h) with(h|h)|h
   .rw[h];exact hE.gb
   .exact hA j (.inr h)
   .have:=hE.gb;omega
 .exact(a5.tg (F'':=rP b st) (fun k hk => .inl hk)).wide (fun j hj=>hE.gA j (hj.elim (fun h=>by rw[h];exact hE.gb) (fun h=>hA j (.inr h))))
theorem Pz(hE:bU w0 A0 b G q mb g s vC vI rs gv E F S Inv)(hf:Fr G G w0 W)(hR:vh b A0 q g gv G F S Inv r W)(hk:s.code[k]? = some x)(uM:x.op=5){stk:List (vq×vq)}{tp:vq×vq}(hs:r.stk=stk++[tp])(dW:r.stk.length<=1000000) :
  Calls Tryz.prog 87 #[.pointer (some ⟨b,0,none⟩),.int .i64 (k:Nat)] W fun e w'=>e = .returned (.int .i64 ((k+1:Nat):Int))/\VmQ b A0 q g gv G F S Inv r (k+1) { r with stk:=stk } w'/\Fr G G W w':=by
 have hp:=hE.prog W hf;obtain⟨I,ic,kv,tv,q1,lt,i0,-⟩:=hp.ins hk;rw[uM] at i0;obtain⟨v,st,cs,hO,vM,fT,hi,Zc,Xz,hS,hA,hF⟩:=hR;obtain⟨tn,tz⟩:=tp;rw[hs] at fT vM;obtain⟨Rt,nb,g1,o1,m1,c1,k1,zb,g2,o2,m2,c2,k2,rfl,Xf,-,-⟩:=fT.last;have hlen:(stk++[(tn,tz)]).length=stk.length+1:=by simp
 rw[hlen] at vM;have hn:stk.length<=1000000:=by rw[hs,hlen] at dW;omega
 have HP:=z7 (rR hO vM Xf.len Zc Xz hn);have b0:=hO.cell.1;obtain⟨n,hN⟩:=xX s.code.length;rw[hN] at q1 lt;have bO:=hE.n1;rw[hN] at bO;have k3:(k:Int)<(n:Int):=by omega
 have HH:=z7 (z8 vM (z8 Xf (z8 hi (z8 hS (z8 hA hF)))));have HE:=z7 hE;have HS:=z7 (z8 hs hO.lt);clear hE hf hp hk uM hO vM fT hi Zc Xz hS hA hF hs hlen Xf hN dW;go_enter func87,ntmps87;go_wp2_with fail;refine HP.out.mono ?_;rintro e w1 ⟨rfl,hq⟩;have HQ:=z7 hq;clear hq HP;go_wp2;go_ret;obtain⟨h0,h1,h2,h3,h4,h5⟩:=HH.out;obtain⟨hr,YG⟩:=vh.Rh HE.out h0 h1 h2 h3 h4 h5 HS.out.2 HQ.out;exact⟨by first|rfl|simp,⟨hr,zm _ _,by rw[HS.out.1];simp;omega⟩,YG⟩
end
end
theorem UB(a0 a3:Bool)(p:Addr)(n c:Nat)(k:Int)(p':Addr)(n' c':Nat)(k':Int)(w:World):(Instr.field 272 (.agg #[.bool a0,.slice (some p) n c,.int .i64 k,.bool a3,.slice (some p') n' c',.int .i64 k']) 1).run Tryz.prog w = .ok (.agg #[.bool a3,.slice (some p') n' c',.int .i64 k']) w:=by kernel_rfl
theorem Ln(a0 a3:Bool)(p:Addr)(n c:Nat)(k:Int)(p':Addr)(n' c':Nat)(k':Int)(w:World):(Instr.field 272 (.agg #[.bool a0,.slice (some p) n c,.int .i64 k,.bool a3,.slice (some p') n' c',.int .i64 k']) 0).run Tryz.prog w = .ok (.agg #[.bool a0,.slice (some p) n c,.int .i64 k]) w:=by kernel_rfl
theorem fy.any{M:Nat->Prop}{w:World}{v:Value}{n:vq}(h:fy M w v n):fy (fun _=>False) w v n:=h.fr (Fr.refl xI _) (fun _ q=>q.elim) (fun _ q=>q.elim)
theorem fy.ok{M:Nat->Prop}{w:World}{v:Value}{n:vq}(h:fy M w v n):EG n.2:=by
 obtain⟨_,_,_,_,_,_,_,_,_,h⟩:=h;exact h
section
variable {τ:Type} {w0 W:World} {A0 b q mb g k:Nat} {G:Nat->Prop} {s:MkS} {vC vI gv:Value} {rs:List (Value×Value)} {E:qJ τ} {F S:τ->Nat->Prop} {Inv:τ->World->Prop} {r:Z4 τ} {x:jG}
theorem Fs(hE:bU w0 A0 b G q mb g s vC vI rs gv E F S Inv)(hf:Fr G G w0 W)(hR:vh b A0 q g gv G F S Inv r W){nv:Value}{n:vq}{M:Nat->Prop}(hn:fy M W nv n)(hlen:r.out.length<=900000000) :
  Calls Tryz.prog 128 #[.pointer (some ⟨b,0,none⟩),nv] W fun e w'=>e = .returned (.tuple #[])/\vh b A0 q g gv G F S Inv { r with out:=r.out++E.wr n } w'/\Fr G G W w':=by
 obtain⟨v,st,cs,hO,vM,fT,hi,Zc,Xz,hS,hA,hF⟩:=hR;have hl:=hE.wrl n hn.ok;refine(Wj hO hn.any (fun W' hW'=>hE.wr W' nv n (hf.trans ((Fr.of hW').wide (F:=xI) (fun _ q=>q.elim))) (hn.any.fr (Fr.of (F:=xI) hW') (fun _ q=>q.elim) (fun _ q=>q.elim))) (by omega)).mono ?_;rintro e w' ⟨he,hq⟩;exact⟨he,vh.wrote hE vM fT hi Zc Xz hS hA hF hO.lt hq⟩
theorem Wf(hE:bU w0 A0 b G q mb g s vC vI rs gv E F S Inv)(hf:Fr G G w0 W)(hR:vh b A0 q g gv G F S Inv r W)(hk:s.code[k]? = some x)(uM:x.op=6){stk:List (vq×vq)}{tp:vq×vq}(hs:r.stk=stk++[tp])(dW:r.stk.length<=1000000)(hlen:r.out.length<=900000000) :
  Calls Tryz.prog 87 #[.pointer (some ⟨b,0,none⟩),.int .i64 (k:Nat)] W fun e w'=>e = .returned (.int .i64 ((k+1:Nat):Int))/\VmQ b A0 q g gv G F S Inv r (k+1) { r with out:=r.out++E.wr tp.2 } w'/\Fr G G W w':=by
 obtain⟨I,ic,kv,tv,q1,lt,i0,-⟩:=(hE.prog W hf).ins hk;rw[uM] at i0;have oq:=hR;obtain⟨v,st,cs,hO,vM,fT,hi,Zc,Xz,hS,hA,hF⟩:=hR;obtain⟨tn,tz⟩:=tp;have Xw:(stk++[(tn,tz)]).length=stk.length+1:=by simp
 rw[hs] at fT vM dW;rw[Xw] at vM dW;obtain⟨Rt,nb,g1,o1,m1,c1,k1,zb,g2,o2,m2,c2,k2,rfl,Xf,-,hz⟩:=fT.last;have HT:=z7 (Gf hO nb zb g1 o1 m1 c1 k1 g2 o2 m2 c2 k2 vM Xf.len (by omega));have b0:=hO.cell.1;have bO:=hE.n1;obtain⟨n,hN⟩:=xX s.code.length;rw[hN] at q1 lt bO;have k3:(k:Int)<(n:Int):=by omega
 have iV:=UB;have G7:=fun (W':World) (hb:Below W.heap.size W W')=>Fs hE (hf.trans ((Fr.of hb).wide (F:=xI) (fun _ q=>q.elim))) (oq.quiet hE (Fr.of hb)) (hz.any.fr (Fr.of (F:=xI) hb) (fun _ q=>q.elim) (M':=fun _=>False) (fun _ q=>q.elim)) hlen
 have rT:=z7 G7;have HE:=z7 hE;have HW:=z7 (hE.wrl tz hz.ok);clear hE hf hk uM hO vM fT hi Zc Xz hS hA hF hs Xf hN oq G7 dW hlen Xw;go_enter func87,ntmps87;go_wp2_with fail;refine HT.out.mono ?_;rintro e w1 ⟨rfl,xG⟩;have HX:=z7 (rT.out w1 xG);have HB:=z7 xG;clear HT xG rT;go_wp2_with fail;refine HX.out.mono ?_;rintro e w2 ⟨rfl,hr,vU⟩;have HR:=z7 (z8 hr vU);clear hr vU HX;go_wp2;go_ret;refine⟨by first|rfl|simp,⟨HR.out.1,by have:=HW.out;simp;omega,by simp⟩,((Fr.of HB.out).wide (F:=xI) (fun _ q=>q.elim)).trans HR.out.2⟩
end
section
variable {τ:Type} {w0 W:World} {A0 b q mb g k:Nat} {G:Nat->Prop} {s:MkS} {vC vI gv:Value} {rs:List (Value×Value)} {E:qJ τ} {F S:τ->Nat->Prop} {Inv:τ->World->Prop} {r:Z4 τ} {x:jG}
theorem vh.err(hE:bU w0 A0 b G q mb g s vC vI rs gv E F S Inv){w w':World}(h:vh b A0 q g gv G F S Inv r w){s':τ}(hq:Inv s' w'/\Fr (F r.gs) (F s') w w'/\∀ k,S s' k->S r.gs k\/w.heap.size<=k) :
  EN Inv S b { r with gs:=s' } w'/\Fr G G w w':=by
 obtain⟨h1,h2,h3⟩:=vh.asked hE h hq;obtain⟨v,st,cs,hO,vM,fT,hi,Zc,Xz,hS,hA,hF⟩:=h1;exact⟨⟨hi,fun k hk=>(hS k hk).1⟩,h2⟩
theorem Zz{n:Wd}(h:Yv s x=some n):∃ j,x.k[0]? = some j/\s.cs[j]? = some n:=by
 unfold Yv at h
 cases hx:x.k[0]? with
 | none=>rw[hx] at h;cases h
 | some j=>rw[hx] at h;exact⟨j,rfl,h⟩
theorem iH(hE:bU w0 A0 b G q mb g s vC vI rs gv E F S Inv)(hf:Fr G G w0 W)(hR:vh b A0 q g gv G F S Inv r W)(hk:s.code[k]? = some x)(uM:x.op=1){t:Wd}(hc:Yv s x=some t)(hlen:r.out.length<=900000000) :
  Calls Tryz.prog 87 #[.pointer (some ⟨b,0,none⟩),.int .i64 (k:Nat)] W fun e w'=>e = .returned (.int .i64 ((k+1:Nat):Int))/\VmQ b A0 q g gv G F S Inv r (k+1) { r with out:=r.out++t } w'/\Fr G G W w':=by
 obtain⟨j,hj,ht⟩:=Zz hc;obtain⟨v,st,cs,hO,vM,fT,hi,Zc,Xz,hS,hA,hF⟩:=hR;have h3:=hE.n3 t (zy ht);refine(Tg hO (hE.prog W hf) hk uM hj ht hE.n1 hE.n2 (by omega)).mono ?_;rintro e w' ⟨rfl,hq⟩;obtain⟨hr,YG⟩:=vh.wrote hE vM fT hi Zc Xz hS hA hF hO.lt hq;exact⟨rfl,⟨hr,by simp;omega,zL _⟩,YG⟩
def Py(b A0 q g:Nat)(gv:Value)(G:Nat->Prop)(F S:τ->Nat->Prop)(Inv:τ->World->Prop)(r:Z4 τ)(k:Nat){α:Type}(fn:α->τ->Z4 τ)(res:Except (Nat×τ) (α×τ))(W:World)(e:Ending)(w':World):Prop :=
 (match res with
  | .ok (a,s')=>e = .returned (.int .i64 ((k+1:Nat):Int))/\VmQ b A0 q g gv G F S Inv r (k+1) (fn a s') w'
  | .error (n,s')=>zjk n e/\EN Inv S b { r with gs:=s' } w')/\Fr G G W w'
theorem Lo(hE:bU w0 A0 b G q mb g s vC vI rs gv E F S Inv)(hf:Fr G G w0 W)(hR:vh b A0 q g gv G F S Inv r W)(hk:s.code[k]? = some x)(uM:x.op=3){t:Wd}(hc:Yv s x=some t)(hlen:r.out.length<=900000000) :
  Calls Tryz.prog 87 #[.pointer (some ⟨b,0,none⟩),.int .i64 (k:Nat)] W (Py b A0 q g gv G F S Inv r k (fun v s'=>{ r with out:=r.out++E.wr v,gs:=s' }) (Zi E t r.gs) W):=by
 obtain⟨j,hj,ht⟩:=Zz hc;have hp:=hE.prog W hf;obtain⟨I,ic,kv,tv,q1,lt,i0,-,i3,-,kr,-⟩:=hp.ins hk;obtain⟨C,cc,q0,cj,KY⟩:=hp.oY ht;obtain⟨K,kc,rfl,kj,CC⟩:=kr.at_ hj;have h3:=hE.n3 t (zy ht);have bO:=hE.n1;have dN:=hE.n2;obtain⟨n,hN⟩:=xX s.code.length;obtain⟨m,hM⟩:=xX s.cs.length;obtain⟨z,hZ⟩:=xX x.k.length;rw[hN] at q1 lt bO;rw[hM] at q0 KY dN;rw[hZ] at i3 CC;rw[uM] at i0;have oq:=hR;obtain⟨v,st,cs,hO,vM,fT,hi,Zc,Xz,hS,hA,hF⟩:=hR;have b0:=hO.cell.1;have V0:Bk b q j t W:=⟨b0,C,m,cc,q0,cj,KY,dN⟩;have Mi:=z7 (Lm hE.get b q j t r.gs W hO.cell.2.2.1 V0 hi (by omega));have k1:(k:Int)<(n:Int):=by omega
 have k3:(0:Int)<(z:Int):=by omega
 obtain⟨res,vE⟩:=xX (Zi E t r.gs);rw[vE] at Mi |-
 have HE:=z7 hE;have HR:=z7 oq;have HF:=z7 hf;have HL:=z7 hlen;clear hE hf hp hk uM hO vM fT hi Zc Xz hS hA hF hN hM hZ kr hj ht hc oq V0 vE hlen;go_enter func87,ntmps87;go_wp2_with fail;refine Mi.out.mono ?_;intro e w1 hq
 cases res with
 | error er =>
  obtain⟨c,s'⟩:=er;obtain⟨⟨uf,rfl,hold⟩,hI⟩:=hq;obtain⟨h1,h2⟩:=vh.err HE.out HR.out hI;have HQ:=z7 (show Py b A0 q g gv G F S Inv r k (fun v s'=>{ r with out:=r.out++E.wr v,gs:=s' }) (.error (c,s'):Except (Nat×τ) (vq×τ)) W (.panicked ({ v:=qW c,recovered:=false }::uf)) w1 from⟨⟨⟨uf,rfl,hold⟩,h1⟩,h2⟩);clear hold hI Mi h1 h2;go_wp2;exact⟨rfl,HQ.out⟩
 | ok p =>
  obtain⟨nn,s'⟩:=p;obtain⟨⟨nv,rfl,nM,qc⟩,hI⟩:=hq;obtain⟨h1,h2,-⟩:=vh.asked HE.out HR.out hI;have rT:=z7 (Fs HE.out (HF.out.trans h2) h1 nM HL.out);have JA:=z7 h2;have HWL:=z7 (HE.out.wrl nn nM.ok);obtain⟨gd,o,cap,rfl,-⟩:=nM;clear hI Mi h1 h2;go_wp2_with fail;refine rT.out.mono ?_;rintro e w2 ⟨rfl,hr,vU⟩;have jh:=z7 (z8 hr vU);clear hr vU rT;go_wp2;go_ret;exact⟨⟨by first|rfl|simp,jh.out.1,by have:=HWL.out;simp;omega,zL _⟩,JA.out.trans jh.out.2⟩
end
section
variable {τ:Type} {w0 W:World} {A0 b q mb g k:Nat} {G:Nat->Prop} {s:MkS} {vC vI gv:Value} {rs:List (Value×Value)} {E:qJ τ} {F S:τ->Nat->Prop} {Inv:τ->World->Prop} {r:Z4 τ} {x:jG}
theorem iI(hE:bU w0 A0 b G q mb g s vC vI rs gv E F S Inv)(hf:Fr G G w0 W)(hR:vh b A0 q g gv G F S Inv r W)(hk:s.code[k]? = some x)(uM:x.op=2){t:Wd}(hc:Yv s x=some t)(hlen:r.out.length<=900000000) :
  Calls Tryz.prog 87 #[.pointer (some ⟨b,0,none⟩),.int .i64 (k:Nat)] W (Py b A0 q g gv G F S Inv r k (fun (p:Wd×Bool) s'=>{ r with out:=r.out++OU E p.1 p.2,gs:=s' }) (Ze E t r.gs) W):=by
 obtain⟨j,hj,ht⟩:=Zz hc;have hp:=hE.prog W hf;obtain⟨I,ic,kv,tv,q1,lt,i0,-,i3,-,kr,-⟩:=hp.ins hk;obtain⟨C,cc,q0,cj,KY⟩:=hp.oY ht;obtain⟨K,kc,rfl,kj,CC⟩:=kr.at_ hj;have h3:=hE.n3 t (zy ht);have bO:=hE.n1;have dN:=hE.n2;obtain⟨n,hN⟩:=xX s.code.length;obtain⟨m,hM⟩:=xX s.cs.length;obtain⟨z,hZ⟩:=xX x.k.length;rw[hN] at q1 lt bO;rw[hM] at q0 KY dN;rw[hZ] at i3 CC;rw[uM] at i0;have oq:=hR;obtain⟨v,st,cs,hO,vM,fT,hi,Zc,Xz,hS,hA,hF⟩:=hR;have b0:=hO.cell.1;have V0:Bk b q j t W:=⟨b0,C,m,cc,q0,cj,KY,dN⟩;have Mi:=z7 (EM hE.get b q j t r.gs W hO.cell.2.2.1 V0 hi (by omega));have k1:(k:Int)<(n:Int):=by omega
 have k3:(0:Int)<(z:Int):=by omega
 obtain⟨res,vE⟩:=xX (Ze E t r.gs);rw[vE] at Mi |-
 have cG:=z7 vE;have HE:=z7 hE;have HR:=z7 oq;have HF:=z7 hf;have HL:=z7 hlen;clear hE hf hp hk uM hO vM fT hi Zc Xz hS hA hF hN hM hZ kr hj ht hc oq V0 vE hlen;go_enter func87,ntmps87;go_wp2_with fail;refine Mi.out.mono ?_;intro e w1 hq
 cases res with
 | error er =>
  obtain⟨c,s'⟩:=er;obtain⟨⟨uf,rfl,hold⟩,hI⟩:=hq;obtain⟨h1,h2⟩:=vh.err HE.out HR.out hI;have HQ:=z7 (show Py b A0 q g gv G F S Inv r k (fun (p:Wd×Bool) s'=>{ r with out:=r.out++OU E p.1 p.2,gs:=s' }) (.error (c,s'):Except (Nat×τ) ((Wd×Bool)×τ)) W (.panicked ({ v:=qW c,recovered:=false }::uf)) w1 from⟨⟨⟨uf,rfl,hold⟩,h1⟩,h2⟩);clear hold hI Mi h1 h2;go_wp2;exact⟨rfl,HQ.out⟩
 | ok p =>
  obtain⟨⟨u,num⟩,s'⟩:=p;obtain⟨⟨hu,rfl⟩,hI⟩:=hq;obtain⟨h1,h2,-⟩:=vh.asked HE.out HR.out hI;have hv:=C6 cG.out;have qc:(⟨u.toArray⟩:ByteArray).size=u.length:=size_mk _;have HP:=fun W=>z7 (Yq ⟨u.toArray⟩ W (by rw[qc];exact hu))
  have fI:=z7 h1;have JA:=z7 h2;have HV:=z7 hv;clear hI Mi h1 h2 hv
  cases num
  .go_wp2_with fail;refine(HP _).out.mono ?_;rintro e w2 ⟨bb,pv,pk,rfl,⟨va,vn,vk,rfl⟩,xJ,-⟩;have Uk:Fr xI xI w1 w2:=((Fr.refl _ _).alloc _).trans (Fr.of xJ);have e0:w2.cell? ⟨w1.heap.size,0,none⟩=some (xg u):=(xJ.cell (by simp)).trans (xu _ _ _ _ 0);have e1:w2.cell? ⟨w1.heap.size,1,none⟩=some (.bool false):=(xJ.cell (by simp)).trans (xu _ _ _ _ 1);obtain⟨V,hVe⟩:=xX w1.heap.size;rw[hVe] at e0 e1;obtain⟨W3,kg⟩:=xX (w2.alloc (.cells #[.bool bb,.slice va vn vk,.int .i64 pk] 97));have gQ:Fr xI xI w1 W3:=by rw[<-kg];exact Uk.alloc _
   have d0:W3.cell? ⟨V,0,none⟩=some (xg u):=by rw[<-kg];exact xQ e0 _
   have d1:W3.cell? ⟨V,1,none⟩=some (.bool false):=by rw[<-kg];exact xQ e1 _
   have h60:u.length<=60:=by have:=HV.out;simpa[gi] using this
   have hR3:=fI.out.quiet HE.out gQ;have U3:=z7 gQ;obtain⟨v',Rr,Rt,hO',zp8,Xf,hi',zp9,zpz,tB,hA',hF'⟩:=hR3;have Qj:=z7 (KH (w:=W3.drew) u hO' (by have:=HL.out;simp only;omega));have jh:=z7 (fun w' hq=>vh.wrote (t:=u) (w':=w') HE.out zp8 Xf hi' zp9 zpz tB hA' hF' hO'.lt hq);clear xJ Uk e0 e1 hO' zp8 Xf hi' zp9 zpz tB hA' hF' gQ HP
   cases uB u;all_goals
    go_wp2_with fail;try rw[kg]
    refine rk (fun W':World=>W'.cell? ⟨V,0,none⟩=some (xg u)) 5 (zV 5) 1 d0 ?_;(iterate 5 (refine ty ?_;try simp only[pl]))
    refine xq ?_;refine BZ 5 (fun J hJ=>?_);go_simp;refine Qj.out.mono ?_;rintro e w4 ⟨⟨uu,rfl⟩,Wb⟩;refine hJ.out _ _ ?_;clear hJ J;refine BX ?_ _;obtain⟨Jw,iL⟩:=jh.out w4 (by obtain⟨v4,a1,a2⟩:=Wb;exact⟨v4,a1,a2.und⟩);have H4:=z7 (z8 Jw iL);clear Wb Jw iL kg;go_wp2;go_ret;exact⟨⟨by first|rfl|simp,H4.out.1,by simp[OU];omega,zL _⟩,(JA.out.trans (U3.out.wide (fun _ q=>q.elim))).trans H4.out.2⟩
  .have Xq:uB u=true:=by have:=HV.out;exact this
   have HN:=z7 Xq;clear Xq;go_wp2_with fail;refine(HP _).out.mono ?_;rintro e w2 ⟨bb,pv,pk,rfl,⟨va,vn,vk,rfl⟩,xJ,vE⟩;obtain⟨rfl,rfl,xV⟩:=vE HN.out;obtain⟨d1',d2',hw',h30⟩:=Ke HN.out;have Uk:Fr xI xI w1 w2:=((Fr.refl _ _).alloc _).trans (Fr.of xJ);have e0:w2.cell? ⟨w1.heap.size,0,none⟩=some (xg u):=(xJ.cell (by simp)).trans (xu _ _ _ _ 0);have e1:w2.cell? ⟨w1.heap.size,1,none⟩=some (.bool true):=(xJ.cell (by simp)).trans (xu _ _ _ _ 1);obtain⟨V,hVe⟩:=xX w1.heap.size;rw[hVe] at e0 e1;obtain⟨W3,kg⟩:=xX (w2.alloc (.cells #[.bool (YA u),.slice va vn vk,.int .i64 ((u9 u).length:Nat)] 97));have gQ:Fr xI xI w1 W3:=by rw[<-kg];exact Uk.alloc _
   have d1:W3.cell? ⟨V,1,none⟩=some (.bool true):=by rw[<-kg];exact xQ e1 _
   have fg:=Rs (YA u) (w:=W3) (by rw[<-kg];exact xV.alloc _) d1' d2' hw' h30;have hR3:=fI.out.quiet HE.out gQ;have rT:=z7 (Fs HE.out ((HF.out.trans JA.out).trans (gQ.wide (fun _ q=>q.elim))) hR3 fg HL.out);have HWL:=z7 (HE.out.wrl _ fg.ok);have U3:=z7 gQ;have n0:∀ j,W3.cell? ⟨w2.heap.size,j,none⟩=(#[zI (YA u),.slice va vn vk,.int .i64 ((u9 u).length:Nat)]:Array Value)[j]? := fun j=>by rw[<-kg];exact xu _ _ _ _ _
   have m0:=n0 0;have m1:=n0 1;have m2:=n0 2;simp only[zg,zu,zk] at m0 m1 m2;clear xJ Uk e0 e1 fg hR3 gQ HP vE xV n0;rw[HN.out];go_wp2_with fail;refine rT.out.mono ?_;rintro e w4 ⟨rfl,Jw,Vi⟩;have H4:=z7 (z8 Jw Vi);clear Jw Vi rT;go_wp2;go_ret;exact⟨⟨by first|rfl|simp,H4.out.1,by have:=HWL.out;simp[OU,numOf];omega,zL _⟩,(JA.out.trans (U3.out.wide (fun _ q=>q.elim))).trans H4.out.2⟩
end
section
variable {τ:Type} {w0 W:World} {A0 b q mb g k:Nat} {G:Nat->Prop} {s:MkS} {vC vI gv:Value} {rs:List (Value×Value)} {E:qJ τ} {F S:τ->Nat->Prop} {Inv:τ->World->Prop} {r:Z4 τ} {x:jG}
structure EO(b A0 q g:Nat)(gv:Value)(G:Nat->Prop)(F S:τ->Nat->Prop)(Inv:τ->World->Prop)(r:Z4 τ)(v st:Value)(cs:List Value)(w:World):Prop where
 o:q9 b (.pointer (some ⟨q,0,none⟩)) (.pointer (some ⟨g,0,none⟩)) gv st v r.out w
 row:w.ownsRow 0 272 6 st r.stk.length cs
 en:fG (Fp b v st (S r.gs)) w r.stk cs
 inv:Inv r.gs w
 sb:st.ownBlock≠some b
 sv:∀ k,xY v k->¬xY st k
 ds:∀ k,S r.gs k->(k+2<b\/b<k)/\¬xY v k/\¬xY st k
 da:∀ k,xY v k\/xY st k->A0<=k
 df:∀ k,F r.gs k->G k
theorem EO.asked(hE:bU w0 A0 b G q mb g s vC vI rs gv E F S Inv){v st:Value}{cs:List Value}{w w':World}(h:EO b A0 q g gv G F S Inv r v st cs w){s':τ}(hq:Inv s' w'/\Fr (F r.gs) (F s') w w'/\∀ k,S s' k->S r.gs k\/w.heap.size<=k) :
  EO b A0 q g gv G F S Inv { r with gs:=s' } v st cs w'/\Fr G G w w':=by
 obtain⟨hO,vM,fT,hi,Zc,Xz,hS,hA,hF⟩:=h;obtain⟨hi',hf,A9⟩:=hq;have xB:=hO.lt;have nb:¬F r.gs b:=fun q=>by have:=(hS b (hE.get.sub _ _ q)).1;omega
 have nv:∀ k,xY v k->¬F r.gs k:=fun k hk q=>(hS k (hE.get.sub _ _ q)).2.1 hk
 have nst:∀ k,xY st k->¬F r.gs k:=fun k hk q=>(hS k (hE.get.sub _ _ q)).2.2 hk
 refine⟨⟨hO.fr hf nb nv,hf.own vM nst,fG.fr hf (fun k hk => .inr (.inr (.inr (hE.get.sub _ _ hk)))) (fun k hk=>?_) fT,hi',Zc,Xz,fun k hk=>?_,hA,fun k hk=>?_⟩,?_⟩
 .rcases hk with h|h|h|h
  .exact .inl (.inl h)
  .exact .inl (.inr (.inl h))
  .exact .inl (.inr (.inr (.inl h)))
  .exact(A9 k h).imp (fun q => .inr (.inr (.inr q))) id
 .rcases A9 k hk with h|h
  .exact hS k h
  .exact⟨by omega,fun q=>by have:=ui hO.row q;omega,fun q=>by have:=ui vM q;omega⟩
 .rcases hf.fp k hk with h|h
  .exact hF k h
  .exact hE.gA k (by have:=hE.gb;omega)
 .exact(hf.tg (F'':=F r.gs) (fun k hk => .inl hk)).wide (fun k hk=>hF k hk)
theorem EO.quiet(hE:bU w0 A0 b G q mb g s vC vI rs gv E F S Inv){v st:Value}{cs:List Value}{w w':World}(h:EO b A0 q g gv G F S Inv r v st cs w)(hf:Fr xI xI w w'):EO b A0 q g gv G F S Inv r v st cs w' :=
 ⟨h.o.fr hf id (fun _ _ q=>q),hf.own h.row (fun _ _ q=>q),fG.fr hf (fun _ q=>q.elim) (fun _ q => .inl q) h.en,hE.get.fr h.inv hf (fun _ q=>q.elim),h.sb,h.sv,h.ds,h.da,h.df⟩
theorem Px(hE:bU w0 A0 b G q mb g s vC vI rs gv E F S Inv)(hf:Fr G G w0 W)(hR:vh b A0 q g gv G F S Inv r W)(hk:s.code[k]? = some x)(uM:x.op=4){t:Wd}(hc:Yv s x=some t)(dW:r.stk.length<=900000) :
  Calls Tryz.prog 87 #[.pointer (some ⟨b,0,none⟩),.int .i64 (k:Nat)] W (Py b A0 q g gv G F S Inv r k (fun v s'=>{ r with stk:=r.stk++[(v,X9 v x.v)],gs:=s' }) (Zi E t r.gs) W):=by
 obtain⟨j,hj,ht⟩:=Zz hc;have hp:=hE.prog W hf;obtain⟨I,ic,kv,tv,q1,lt,i0,i2,i3,-,kr,-⟩:=hp.ins hk;obtain⟨C,cc,q0,cj,KY⟩:=hp.oY ht;obtain⟨K,kc,rfl,kj,CC⟩:=kr.at_ hj;have h3:=hE.n3 t (zy ht);have hv9:=(hE.n4 x (zy hk)).1;have bO:=hE.n1;have dN:=hE.n2;obtain⟨n,hN⟩:=xX s.code.length;obtain⟨m,hM⟩:=xX s.cs.length;obtain⟨z,hZ⟩:=xX x.k.length;obtain⟨xv,hXV⟩:=xX x.v;rw[hN] at q1 lt bO;rw[hM] at q0 KY dN;rw[hZ] at i3 CC;rw[hXV] at i2 hv9 |-
 rw[uM] at i0;obtain⟨v,st,cs,hO,vM,fT,hi,Zc,Xz,hS,hA,hF⟩:=hR;have Lp:EO b A0 q g gv G F S Inv r v st cs W:=⟨hO,vM,fT,hi,Zc,Xz,hS,hA,hF⟩;have b0:=hO.cell.1;have hlb:=hO.lt;have V0:Bk b q j t W:=⟨b0,C,m,cc,q0,cj,KY,dN⟩;have Mi:=z7 (Lm hE.get b q j t r.gs W hO.cell.2.2.1 V0 hi (by omega));have k1:(k:Int)<(n:Int):=by omega
 have k3:(0:Int)<(z:Int):=by omega
 obtain⟨res,vE⟩:=xX (Zi E t r.gs);rw[vE] at Mi |-
 have HVI:=z7 (zW (hp.q1.symm.trans (show W.cell? ⟨q,1,none⟩=some (.slice (some ⟨I,0,none⟩) s.code.length ic) by rw[hN];exact q1)));have HK:=z7 hk;have HXV:=z7 hXV;have HLB:=z7 (z8 hlb (z8 (fun k (hk:xY v k)=>ui hO.row hk) (fun k (hk:xY st k)=>ui vM hk)));have HE:=z7 hE;have Ij:=z7 Lp;have HF:=z7 hf;have HSL:=z7 dW;clear hE hf hp hk uM hO vM fT hi Zc Xz hS hA hF hN hM hZ kr hj ht hc V0 vE hlb Lp hXV dW;go_enter func87,ntmps87;go_wp2_with fail;refine Mi.out.mono ?_;intro e w1 hq
 cases res with
 | error er =>
  obtain⟨c,s'⟩:=er;obtain⟨⟨uf,rfl,hold⟩,hI⟩:=hq;obtain⟨h1,h2⟩:=Ij.out.asked HE.out hI;have HQ:=z7 (show Py b A0 q g gv G F S Inv r k (fun v s'=>{ r with stk:=r.stk++[(v,X9 v xv)],gs:=s' }) (.error (c,s'):Except (Nat×τ) (vq×τ)) W (.panicked ({ v:=qW c,recovered:=false }::uf)) w1 from⟨⟨⟨uf,rfl,hold⟩,h1.inv,fun k hk=>(h1.ds k hk).1⟩,h2⟩);clear hold hI Mi h1 h2;go_wp2;exact⟨rfl,HQ.out⟩
 | ok p =>
  obtain⟨nn,s'⟩:=p;obtain⟨⟨nv,rfl,nM,qc⟩,hI⟩:=hq;obtain⟨h1,h2⟩:=Ij.out.asked HE.out hI;have zjf:fy (Fp b v st (S s')) w1 nv nn:=nM.fr (Fr.refl xI _) (fun _ q=>q.elim) (fun k hk => .inl (by
   rcases hk with rfl|h|h|h
   .exact .inl HLB.out.1
   .exact .inl (HLB.out.2.1 k h)
   .exact .inl (HLB.out.2.2 k h)
   .exact .inr h))
  have Un:=HE.out.prog w1 (HF.out.trans h2);have JA:=z7 h2;have zjd:=z7 h1;have HNN:=z7 zjf;have dJ:=z7 qc;obtain⟨gd,o,cap,zpv,-⟩:=nM;obtain⟨nb,Ef⟩:=xX nn.1;obtain⟨LL,hLL⟩:=xX (nn.2.1.length+nn.2.2.length);obtain⟨sc,hsc⟩:=xX nn.2.2.length;rw[Ef,hLL,hsc] at zpv;subst zpv;obtain⟨I2,ic2,kv2,tv2,q1',-,-,i2',-⟩:=Un.ins HK.out;have hIe:=zW (Un.q1.symm.trans q1');rw[HVI.out] at hIe;simp only[Value.slice.injEq,Option.some.injEq,Addr.mk.injEq,and_true,true_and] at hIe;rw[<-hIe.1,HXV.out] at i2';obtain⟨B9,wL⟩:=xX w1.heap.size;obtain⟨W2,Nd⟩:=xX (w1.alloc (.cells #[.bool nb,.slice (some ⟨gd,o,none⟩) LL cap,.int .i64 (sc:Nat)] 97));have vU:Fr xI xI w1 W2:=by rw[<-Nd];exact(Fr.refl _ _).alloc _
  have n0:∀ j,W2.cell? ⟨B9,j,none⟩=(#[zI nb,.slice (some ⟨gd,o,none⟩) LL cap,.int .i64 (sc:Nat)]:Array Value)[j]? := fun j=>by rw[<-Nd,<-wL];exact xu _ _ _ _ _
  have m0:=n0 0;have m1:=n0 1;have m2:=n0 2;simp only[zg,zu,zk] at m0 m1 m2;have i2W:=vU.cell i2' id;have zpu:=Wu _ nn xv W2.drew ((zjf.any.fr vU (fun _ q=>q.elim) (M':=fun _=>False) (fun _ q=>q.elim)).fr (w':=W2.drew) (F:=xI) (F':=xI) ((Fr.refl _ _).drew) (fun _ q=>q.elim) (M':=fun _=>False) (fun _ q=>q.elim)) hv9 (by omega);have zpq:=z7 zpu;have fL:=z7 vU;clear h1 h2 hI Mi zjf Un zpu vU n0 hIe q1' i2' b0 q0 q1 i0 i2 i3 cj kj qc;go_wp2_with fail;try rw[Nd]
  clear Nd wL Ef hLL hsc;refine rk (fun W':World=>W'.cell? ⟨B9,0,none⟩=some (.bool nb)/\W'.cell? ⟨B9,1,none⟩=some (.slice (some ⟨gd,o,none⟩) LL cap)/\W'.cell? ⟨B9,2,none⟩=some (.int .i64 (sc:Nat))/\W'.cell? ⟨I,k*5+2,none⟩=some (.int .i64 xv)) 11 (zV 9) 3 ⟨m0,m1,m2,i2W⟩ ?_;(iterate 9 (refine ty ?_;try simp only[pl]))
  refine xq ?_;refine UN 9 (fun J hJ=>?_);go_simp;refine zpq.out.mono ?_;rintro e w3 ⟨⟨v3,rfl,Ms⟩,ub⟩;have gQ:Fr xI xI W2 w3:=(Fr.of ub).und;have HZ:=z7 Ms;have HOK:=z7 Ms.ok;obtain⟨zz,Mt⟩:=xX (X9 nn xv);rw[Mt] at Ms HZ;obtain⟨g3,o3,zpk,hv3,-⟩:=Ms;obtain⟨zb,hzb⟩:=xX zz.1;obtain⟨L3,hL3⟩:=xX (zz.2.1.length+zz.2.2.length);obtain⟨sc3,zpj⟩:=xX zz.2.2.length;rw[hzb,hL3,zpj] at hv3;subst hv3;have rc:=zjd.out.quiet HE.out (fL.out.trans gQ);have DW:=zjd.out.o.lt;have h1:fy (Fp b v st (S s')) w3 (Li nb gd o LL cap sc) nn:=HNN.out.fr (fL.out.trans gQ) (fun _ q=>q.elim) (fun _ q => .inl q);have h2:fy (Fp b v st (S s')) w3 (Li zb g3 o3 L3 zpk sc3) zz:=HZ.out.fr (Fr.refl xI _) (fun _ q=>q.elim) (fun k hk => .inl (by
   have Nd:=fL.out.size;have XY:=JA.out.size;show k<W2.heap.size;rcases hk with rfl|h|h|h
   .omega
   .have:=HLB.out.2.1 k h;omega
   .have:=HLB.out.2.2 k h;omega
   .have:=HE.out.get.EL s' w1 k zjd.out.inv h;omega))
  have fT:=fG.snoc h1 h2 rc.en;have HPU:=z7 (iD rc.o rc.row rc.sb rc.sv (by have:=HSL.out;simp only;omega) nb zb gd o LL cap sc g3 o3 L3 zpk sc3);have jD:=z7 (fun w' hq=>vh.Rh (r:={ r with gs:=s' }) (w:=w3) (w':=w') (stk:=r.stk++[(nn,zz)]) HE.out rc.row fT rc.inv rc.ds rc.da rc.df rc.o.lt (by rw[zU];exact hq));have c0:=gQ.cell m0 id;have c1:=gQ.cell m1 id;have c2:=gQ.cell m2 id;have c3:=gQ.cell i2W id;have U3:=z7 gQ;have HZZ:=z7 Mt;clear gQ rc h1 h2 fT ub zpq hzb hL3 zpj DW Mt m0 m1 m2 i2W;refine hJ.out _ _ ⟨c0,c1,c2,c3⟩ fun _=>?_
  clear hJ J;refine kX [10] 1 rfl (by intro _ _ d _ _ h;cases d<;>exact h) (by kernel_rfl) (by kernel_rfl) ⟨c0,c1,c2,c3⟩ ?_;refine ty ?_;try simp only[pl]
  refine xq ?_;refine BZ 11 (fun J hJ=>?_);go_simp;refine HPU.out.mono ?_;rintro e w4 ⟨rfl,Wb⟩;refine hJ.out _ _ ?_;clear hJ J;refine BX ?_ _;obtain⟨Jw,iL⟩:=jD.out w4 Wb;have H4:=z7 (z8 Jw iL);clear Wb Jw iL HPU jD;go_wp2;go_ret;have fF:=H4.out.1;rw[<-HZZ.out] at fF;exact⟨⟨by first|rfl|simp,fF,zm _ _,by simp⟩,(JA.out.trans ((fL.out.trans U3.out).wide (fun _ q=>q.elim))).trans H4.out.2⟩
end
def Jl(s:MkS)(p:Nat):Int:=P9 (dF s.code s.code.length p)
section
variable {τ:Type} {w0 W:World} {A0 b q mb g k:Nat} {G:Nat->Prop} {s:MkS} {vC vI gv:Value} {rs:List (Value×Value)} {E:qJ τ} {F S:τ->Nat->Prop} {Inv:τ->World->Prop} {r:Z4 τ} {x:jG}
theorem step_goto(hE:bU w0 A0 b G q mb g s vC vI rs gv E F S Inv)(hf:Fr G G w0 W)(hR:vh b A0 q g gv G F S Inv r W)(hk:s.code[k]? = some x)(uM:x.op=11){p:Nat}(Pv:x.tg[0]? = some p) :
  Calls Tryz.prog 87 #[.pointer (some ⟨b,0,none⟩),.int .i64 (k:Nat)] W fun e w'=>e = .returned (.int .i64 (Jl s p))/\Fr xI xI W w':=by
 have hp:=hE.prog W hf;obtain⟨I,ic,kv,tv,q1,lt,i0,-,-,i4,-,tr⟩:=hp.ins hk;obtain⟨T,tc,rfl,tj,G7⟩:=tr.at_ Pv;have Gd:=(hE.n4 x (zy hk)).2 p (zy Pv);have Qs:=z7 (Fm q mb s.code.length p _ W.drew hp.q2 (hp.mp.keep rfl) Gd);have bO:=hE.n1;obtain⟨jv,C7⟩:=xX (Jl s p);have HJ:=z7 C7;rw[show P9 (dF s.code s.code.length p)=jv from C7] at Qs;rw[C7];obtain⟨n,hN⟩:=xX s.code.length;obtain⟨z,hZ⟩:=xX x.tg.length;rw[hN] at q1 lt bO;rw[hZ] at i4 G7;rw[uM] at i0;obtain⟨v,st,cs,hO,-⟩:=hR;have b0:=hO.cell.1;have k1:(k:Int)<(n:Int):=by omega
 have k3:(0:Int)<(z:Int):=by omega
 clear hE hf hp hk uM hO hN hZ tr Pv C7;go_enter func87,ntmps87;go_wp2_with fail;refine rt (fun W':World=>W'.cell? ⟨b,0,none⟩=some (.pointer (some ⟨q,0,none⟩))/\W'.cell? ⟨I,k*5+4,none⟩=some (.slice (some ⟨T,0,none⟩) z tc)/\W'.cell? ⟨T,0,none⟩=some (.int .i64 p)) (zV 10) 2 ⟨b0,i4,tj⟩ ?_;(iterate 10 (refine ty ?_;try simp only[pl]))
 refine xq ?_;refine jx 10 (fun J hJ=>?_);go_simp;refine Qs.out.mono ?_;rintro e w1 ⟨rfl,rfl⟩;refine hJ.out _ _ ⟨b0,i4,tj⟩ fun _=>?_
 clear hJ J;refine VA [11] 0 ⟨b0,i4,tj⟩ ?_;refine ty ?_;try simp only[pl]
 refine xq ?_;refine b7 ?_ _;go_wp2;go_ret;exact⟨rfl,(Fr.refl _ _).drew⟩
theorem Pu(hE:bU w0 A0 b G q mb g s vC vI rs gv E F S Inv)(hf:Fr G G w0 W)(hR:vh b A0 q g gv G F S Inv r W)(hk:s.code[k]? = some x)(uM:x.op=7){p:Nat}(Pv:x.tg[0]? = some p){stk:List (vq×vq)}{tp:vq×vq}(hs:r.stk=stk++[tp])(dW:r.stk.length<=1000000) :
  Calls Tryz.prog 87 #[.pointer (some ⟨b,0,none⟩),.int .i64 (k:Nat)] W fun e w'=>e = .returned (.int .i64 (if dD tp.1 x.v then Jl s p else ((k+1:Nat):Int)))/\Fr xI xI W w':=by
 have hp:=hE.prog W hf;obtain⟨I,ic,kv,tv,q1,lt,i0,i2,-,i4,-,tr⟩:=hp.ins hk;obtain⟨T,tc,rfl,tj,G7⟩:=tr.at_ Pv;obtain⟨hv9,Gd⟩:=hE.n4 x (zy hk);have Gd:=Gd p (zy Pv);have Qs:=z7 (fun (w:World) (hq:w.cell? ⟨q,2,none⟩=some (.map (some mb))) (hm:ZU w mb s.code.length (dF s.code s.code.length))=>Fm q mb s.code.length p (dF s.code s.code.length) w hq hm Gd);have K8:=z7 (z8 hp.q2 hp.mp);have bO:=hE.n1;obtain⟨jv,C7⟩:=xX (Jl s p);rw[show P9 (dF s.code s.code.length p)=jv from C7] at Qs;rw[C7];obtain⟨n,hN⟩:=xX s.code.length;obtain⟨z,hZ⟩:=xX x.tg.length;obtain⟨xv,hXV⟩:=xX x.v;rw[hN] at q1 lt bO K8 Qs;rw[hZ] at i4 G7;rw[hXV] at i2 hv9 |-
 rw[uM] at i0;obtain⟨v,st,cs,hO,vM,fT,-⟩:=hR;obtain⟨tn,tz⟩:=tp;obtain⟨JJ,hJJ⟩:=xX ((if dD tn xv=true then jv else ((k+1:Nat):Int)));have HJJ:=z7 hJJ;rw[show(if dD (tn,tz).1 xv=true then jv else ((k+1:Nat):Int))=JJ from hJJ];clear hJJ;have Xw:(stk++[(tn,tz)]).length=stk.length+1:=by simp
 rw[hs] at fT vM dW;rw[Xw] at vM dW;obtain⟨Rt,nb,g1,o1,m1,c1,pD,zb,g2,o2,m2,c2,k2,rfl,Xf,hn,-⟩:=fT.last;have HT:=z7 (Gf (w:=W.drew) hO nb zb g1 o1 m1 c1 pD g2 o2 m2 c2 k2 vM Xf.len (by omega));have b0:=hO.cell.1;have k1:(k:Int)<(n:Int):=by omega
 have k3:(0:Int)<(z:Int):=by omega
 have iV:=Ln;have HSM:=z7 (fun (w:World) (hb:Fr xI xI W w)=>iG _ tn xv w (hn.any.fr hb (fun _ q=>q.elim) (M':=fun _=>False) (fun _ q=>q.elim)) hv9);clear hE hf hp hk uM hO hN hZ tr Pv C7 vM fT Xf hs dW Xw hXV hn;go_enter func87,ntmps87;go_wp2_with fail;refine rt (fun W':World=>W'.cell? ⟨I,k*5+2,none⟩=some (.int .i64 xv)) [0,1,2,5,6,7,8] 4 i2 ?_;(iterate 7 (refine ty ?_;try simp only[pl]))
 refine xq ?_;refine jx 3 (fun J hJ=>?_);go_simp;refine HT.out.mono ?_;rintro e w1 ⟨rfl,xG⟩;have ug:Fr xI xI W w1:=(Fr.of xG).und;have i2a:=ug.cell i2 id;refine hJ.out _ _ i2a fun _=>?_
 clear hJ J;refine VA [4] 2 i2a ?_;refine ty ?_;try simp only[pl]
 refine xq ?_;refine jx 9 (fun J hJ=>?_);go_simp;refine(HSM.out w1 ug).mono ?_;rintro e w2 ⟨rfl,xJ⟩;have vU:Fr xI xI W w2:=ug.trans (Fr.of xJ);have i2b:=vU.cell i2 id;have b0b:=vU.cell b0 id;have i4b:=vU.cell i4 id;have rW:=vU.cell tj id;have q2b:=vU.cell K8.out.1 id;have Ok:=z7 (K8.out.2.keep (vU.keep mb K8.out.2.lt id));refine hJ.out _ _ i2b fun _=>?_
 clear hJ J;refine VA [10] 0 i2b ?_;refine ty ?_;try simp only[pl]
 refine xq ?_;refine b7 ?_ _;have fL:=z7 vU;clear ug xG vU xJ i2a HT HSM iV b0 i4 tj i2
 cases Xg:dD tn xv
 .have HSE:=z7 (show((k+1:Nat):Int)=JJ by rw[<-HJJ.out,Xg];rfl);clear Xg;go_wp2;go_ret;exact⟨by rw[<-HSE.out];first|rfl|simp,fL.out⟩
 .have HSE:=z7 (show jv=JJ by rw[<-HJJ.out,Xg];rfl);have MT:=z7 (Qs.out w2.drew q2b (Ok.out.keep rfl));clear Xg Qs;go_wp2_with fail;refine rt (fun W':World=>W'.cell? ⟨b,0,none⟩=some (.pointer (some ⟨q,0,none⟩))/\W'.cell? ⟨I,k*5+4,none⟩=some (.slice (some ⟨T,0,none⟩) z tc)/\W'.cell? ⟨T,0,none⟩=some (.int .i64 p)) (zV 10) 2 ⟨b0b,i4b,rW⟩ ?_;(iterate 10 (refine ty ?_;try simp only[pl]))
  refine xq ?_;refine jx 10 (fun J hJ=>?_);go_simp;refine MT.out.mono ?_;rintro e w3 ⟨rfl,rfl⟩;refine hJ.out _ _ ⟨b0b,i4b,rW⟩ fun _=>?_
  clear hJ J;refine VA [11] 0 ⟨b0b,i4b,rW⟩ ?_;refine ty ?_;try simp only[pl]
  refine xq ?_;refine b7 ?_ _;go_wp2;go_ret;exact⟨by rw[<-HSE.out];rfl,fL.out.drew⟩
end
section
variable {τ:Type} {w0 W:World} {A0 b q mb g k:Nat} {G:Nat->Prop} {s:MkS} {vC vI gv:Value} {rs:List (Value×Value)} {E:qJ τ} {F S:τ->Nat->Prop} {Inv:τ->World->Prop} {r:Z4 τ} {x:jG}
theorem WZ(hE:bU w0 A0 b G q mb g s vC vI rs gv E F S Inv)(hf:Fr G G w0 W)(hR:vh b A0 q g gv G F S Inv r W)(hk:s.code[k]? = some x)(uM:x.op=8){p:Nat}{stk:List (vq×vq)}{tp:vq×vq}(hs:r.stk=stk++[tp])(Pv:x.tg[E.sort false tp.2.2]? = some p)(dW:r.stk.length<=1000000) :
  Calls Tryz.prog 87 #[.pointer (some ⟨b,0,none⟩),.int .i64 (k:Nat)] W fun e w'=>e = .returned (.int .i64 (Jl s p))/\Fr xI xI W w':=by
 have hp:=hE.prog W hf;obtain⟨I,ic,kv,tv,q1,lt,i0,i2,-,i4,-,tr⟩:=hp.ins hk;obtain⟨T,tc,rfl,tj,G7⟩:=tr.at_ Pv;have Gd:=(hE.n4 x (List.mem_of_getElem? hk)).2 p (List.mem_of_getElem? Pv);have Qs:=Lib.hid (fun (w:World) (hq:w.cell? ⟨q,2,none⟩=some (.map (some mb))) (hm:ZU w mb s.code.length (dF s.code s.code.length))=>Fm q mb s.code.length p (dF s.code s.code.length) w hq hm Gd);have K8:=Lib.hid (And.intro hp.q2 hp.mp);have bO:=hE.n1;obtain⟨jv,C7⟩:=xX (Jl s p);rw[show P9 (dF s.code s.code.length p)=jv from C7] at Qs;rw[C7];obtain⟨n,hN⟩:=xX s.code.length;obtain⟨z,hZ⟩:=xX x.tg.length;rw[hN] at q1 lt bO K8 Qs;rw[hZ] at i4 G7;rw[uM] at i0;obtain⟨v,st,cs,hO,vM,fT,-⟩:=hR;obtain⟨tn,tz⟩:=tp;have Xw:(stk++[(tn,tz)]).length=stk.length+1:=by simp
 rw[hs] at fT vM dW;rw[Xw] at vM dW;obtain⟨Rt,nb,g1,o1,m1,c1,pD,zb,g2,o2,m2,c2,k2,rfl,Xf,-,hz⟩:=fT.last;have HT:=z7 (Gf (w:=W.drew) hO nb zb g1 o1 m1 c1 pD g2 o2 m2 c2 k2 vM Xf.len (by omega));obtain⟨cv,ov,hcv,qK,jT⟩:=hE.set;have g0:=(hcv W hf).1;obtain⟨ix,Iw⟩:=xX (E.sort false tz.2);have DR:=z7 (fun (w:World) (hb:Fr xI xI W w)=>qK w _ tz.2 (hf.trans (hb.wide (G:=G) (fun _ q=>q.elim))) ((hz.any.fr hb (fun _ q=>q.elim) (M':=fun _=>False) (fun _ q=>q.elim))).num);simp only[Iw] at DR tj G7;have b0:=hO.cell.1;have b1:=hO.cell.2.1;have k1:(k:Int)<(n:Int):=by omega
 have k3:(ix:Int)<(z:Int):=by omega
 have iV:=UB;clear hE hf hp hk uM hO hN hZ tr Pv C7 vM fT Xf hs dW Xw hz hcv qK jT Iw;go_enter func87,ntmps87;go_wp2_with fail;refine rt (fun W':World=>W'.cell? ⟨b,0,none⟩=some (.pointer (some ⟨q,0,none⟩))/\W'.cell? ⟨b,1,none⟩=some (.pointer (some ⟨g,0,none⟩))/\W'.cell? ⟨g,0,none⟩=some cv/\W'.cell? ⟨I,k*5+4,none⟩=some (.slice (some ⟨T,0,none⟩) z tc)/\W'.cell? ⟨T,ix,none⟩=some (.int .i64 p)) (zV 18) 7 ⟨b0,b1,g0,i4,tj⟩ ?_;(iterate 18 (refine ty ?_;try simp only[pl]))
 refine xq ?_;refine jx 18 (fun J hJ=>?_);go_simp;refine HT.out.mono ?_;rintro e w1 ⟨rfl,xG⟩;have ug:Fr xI xI W w1:=(Fr.of xG).und;have a1:=ug.cell b0 id;have a2:=ug.cell b1 id;have a3:=ug.cell g0 id;have a4:=ug.cell i4 id;have a5:=ug.cell tj id;refine hJ.out _ _ ⟨a1,a2,a3,a4,a5⟩ fun _=>?_
 clear hJ J;refine VA [19] 5 ⟨a1,a2,a3,a4,a5⟩ ?_;refine ty ?_;try simp only[pl]
 refine xq ?_;refine jx 20 (fun J hJ=>?_);go_simp;refine(DR.out w1 ug).mono ?_;rintro e w2 ⟨rfl,xJ⟩;have vU:Fr xI xI W w2:=ug.trans (Fr.of xJ);have d1:=vU.cell b0 id;have d2:=vU.cell b1 id;have d3:=vU.cell g0 id;have d4:=vU.cell i4 id;have d5:=vU.cell tj id;have q2b:=vU.cell K8.out.1 id;have MT:=z7 (Qs.out w2 q2b (K8.out.2.keep (vU.keep mb K8.out.2.lt id)));have fL:=z7 vU;clear a1 a2 a3 a4 a5 ug xG vU xJ b0 b1 g0 i4 tj HT DR Qs K8 q2b;refine hJ.out _ _ ⟨d1,d2,d3,d4,d5⟩ fun _=>?_
 clear hJ J;refine VA [21,22] 2 ⟨d1,d2,d3,d4,d5⟩ ?_;(iterate 2 (refine ty ?_;try simp only[pl]))
 refine xq ?_;refine jx 23 (fun J hJ=>?_);go_simp;refine MT.out.mono ?_;rintro e w3 ⟨rfl,rfl⟩;refine hJ.out _ _ ⟨d1,d2,d3,d4,d5⟩ fun _=>?_
 clear hJ J;refine VA [24] 0 ⟨d1,d2,d3,d4,d5⟩ ?_;refine ty ?_;try simp only[pl]
 refine xq ?_;refine b7 ?_ _;go_wp2;go_ret;exact⟨rfl,fL.out⟩
theorem WY(hE:bU w0 A0 b G q mb g s vC vI rs gv E F S Inv)(hf:Fr G G w0 W)(hR:vh b A0 q g gv G F S Inv r W)(hk:s.code[k]? = some x)(uM:x.op=9){p:Nat}{stk:List (vq×vq)}{tp:vq×vq}(hs:r.stk=stk++[tp])(Pv:x.tg[E.sort true tp.2.2]? = some p)(dW:r.stk.length<=1000000) :
  Calls Tryz.prog 87 #[.pointer (some ⟨b,0,none⟩),.int .i64 (k:Nat)] W fun e w'=>e = .returned (.int .i64 (Jl s p))/\Fr xI xI W w':=by
 have hp:=hE.prog W hf;obtain⟨I,ic,kv,tv,q1,lt,i0,i2,-,i4,-,tr⟩:=hp.ins hk;obtain⟨T,tc,rfl,tj,G7⟩:=tr.at_ Pv;have Gd:=(hE.n4 x (List.mem_of_getElem? hk)).2 p (List.mem_of_getElem? Pv);have Qs:=Lib.hid (fun (w:World) (hq:w.cell? ⟨q,2,none⟩=some (.map (some mb))) (hm:ZU w mb s.code.length (dF s.code s.code.length))=>Fm q mb s.code.length p (dF s.code s.code.length) w hq hm Gd);have K8:=Lib.hid (And.intro hp.q2 hp.mp);have bO:=hE.n1;obtain⟨jv,C7⟩:=xX (Jl s p);rw[show P9 (dF s.code s.code.length p)=jv from C7] at Qs;rw[C7];obtain⟨n,hN⟩:=xX s.code.length;obtain⟨z,hZ⟩:=xX x.tg.length;rw[hN] at q1 lt bO K8 Qs;rw[hZ] at i4 G7;rw[uM] at i0;obtain⟨v,st,cs,hO,vM,fT,-⟩:=hR;obtain⟨tn,tz⟩:=tp;have Xw:(stk++[(tn,tz)]).length=stk.length+1:=by simp
 rw[hs] at fT vM dW;rw[Xw] at vM dW;obtain⟨Rt,nb,g1,o1,m1,c1,pD,zb,g2,o2,m2,c2,k2,rfl,Xf,-,hz⟩:=fT.last;have HT:=z7 (Gf (w:=W.drew) hO nb zb g1 o1 m1 c1 pD g2 o2 m2 c2 k2 vM Xf.len (by omega));obtain⟨cv,ov,hcv,qK,jT⟩:=hE.set;have g0:=(hcv W hf).2;obtain⟨ix,Iw⟩:=xX (E.sort true tz.2);have DR:=z7 (fun (w:World) (hb:Fr xI xI W w)=>jT w _ tz.2 (hf.trans (hb.wide (G:=G) (fun _ q=>q.elim))) ((hz.any.fr hb (fun _ q=>q.elim) (M':=fun _=>False) (fun _ q=>q.elim))).num);simp only[Iw] at DR tj G7;have b0:=hO.cell.1;have b1:=hO.cell.2.1;have k1:(k:Int)<(n:Int):=by omega
 have k3:(ix:Int)<(z:Int):=by omega
 have iV:=UB;clear hE hf hp hk uM hO hN hZ tr Pv C7 vM fT Xf hs dW Xw hz hcv qK jT Iw;go_enter func87,ntmps87;go_wp2_with fail;refine rt (fun W':World=>W'.cell? ⟨b,0,none⟩=some (.pointer (some ⟨q,0,none⟩))/\W'.cell? ⟨b,1,none⟩=some (.pointer (some ⟨g,0,none⟩))/\W'.cell? ⟨g,1,none⟩=some ov/\W'.cell? ⟨I,k*5+4,none⟩=some (.slice (some ⟨T,0,none⟩) z tc)/\W'.cell? ⟨T,ix,none⟩=some (.int .i64 p)) (zV 18) 7 ⟨b0,b1,g0,i4,tj⟩ ?_;(iterate 18 (refine ty ?_;try simp only[pl]))
 refine xq ?_;refine jx 18 (fun J hJ=>?_);go_simp;refine HT.out.mono ?_;rintro e w1 ⟨rfl,xG⟩;have ug:Fr xI xI W w1:=(Fr.of xG).und;have a1:=ug.cell b0 id;have a2:=ug.cell b1 id;have a3:=ug.cell g0 id;have a4:=ug.cell i4 id;have a5:=ug.cell tj id;refine hJ.out _ _ ⟨a1,a2,a3,a4,a5⟩ fun _=>?_
 clear hJ J;refine VA [19] 5 ⟨a1,a2,a3,a4,a5⟩ ?_;refine ty ?_;try simp only[pl]
 refine xq ?_;refine jx 20 (fun J hJ=>?_);go_simp;refine(DR.out w1 ug).mono ?_;rintro e w2 ⟨rfl,xJ⟩;have vU:Fr xI xI W w2:=ug.trans (Fr.of xJ);have d1:=vU.cell b0 id;have d2:=vU.cell b1 id;have d3:=vU.cell g0 id;have d4:=vU.cell i4 id;have d5:=vU.cell tj id;have q2b:=vU.cell K8.out.1 id;have MT:=z7 (Qs.out w2 q2b (K8.out.2.keep (vU.keep mb K8.out.2.lt id)));have fL:=z7 vU;clear a1 a2 a3 a4 a5 ug xG vU xJ b0 b1 g0 i4 tj HT DR Qs K8 q2b;refine hJ.out _ _ ⟨d1,d2,d3,d4,d5⟩ fun _=>?_
 clear hJ J;refine VA [21,22] 2 ⟨d1,d2,d3,d4,d5⟩ ?_;(iterate 2 (refine ty ?_;try simp only[pl]))
 refine xq ?_;refine jx 23 (fun J hJ=>?_);go_simp;refine MT.out.mono ?_;rintro e w3 ⟨rfl,rfl⟩;refine hJ.out _ _ ⟨d1,d2,d3,d4,d5⟩ fun _=>?_
 clear hJ J;refine VA [24] 0 ⟨d1,d2,d3,d4,d5⟩ ?_;refine ty ?_;try simp only[pl]
 refine xq ?_;refine b7 ?_ _;go_wp2;go_ret;exact⟨rfl,fL.out⟩
end
end Go.Proofs.YthpldolmpinnhaaGreatDoor
