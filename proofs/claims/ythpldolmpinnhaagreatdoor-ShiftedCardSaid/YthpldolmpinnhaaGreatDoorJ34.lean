import Derived.Test.YthpldolmpinnhaaGreatDoorJ33
import Derived.Deep.CutBlock
namespace Go.Proofs.YthpldolmpinnhaaGreatDoor
open Go Go.RowKit
set_option maxRecDepth 10000
def NumI (M:Nat->Prop) (w:World) (v:Value) (n:SNum):Prop :=
 ∃ g o cap,v = .agg #[.bool n.1,.slice (some ⟨g,o,none⟩) (n.2.1.length+n.2.2.length) cap,.int .i64 n.2.2.length]/\n.2.1.length+n.2.2.length<=cap/\cap<=maxLen/\¬M g/\(∃ c,w.cell? ⟨g,0,none⟩=some (.int .u8 c))/\BytesAt w (some ⟨g,o,none⟩) (vals (n.2.1++n.2.2))/\DgOk n.2
theorem NumI.num {M:Nat->Prop} {w:World} {v:Value} {n:SNum} (h:NumI M w v n):NumV w v n.2:=by
 obtain ⟨g,o,cap,h1,h2,h3,_,h4,h5,h6⟩:=h;exact ⟨n.1,g,o,cap,h1,h2,h3,h4,h5,h6⟩
theorem BytesAt.fr {F F':Nat->Prop} {w w':World} {a:Addr} {l:List Int} (h:BytesAt w (some a) l) (hf:Fr F F' w w') (ha:¬F a.block):BytesAt w' (some a) l:=fun j hj=>by
 obtain ⟨b,hb,hc⟩:=h j hj
 cases hb;have e:(a.add j).block=a.block:=by unfold Addr.add;split<;>rfl
 exact ⟨a,rfl,hf.cell hc (by rw [e];exact ha)⟩
theorem NumI.fr {M M' F F':Nat->Prop} {w w':World} {v:Value} {n:SNum} (h:NumI M w v n) (hf:Fr F F' w w') (hF:∀ k,F k->M k) (hM:∀ k,M' k->M k\/w.heap.size<=k):NumI M' w' v n:=by
 obtain ⟨g,o,cap,h1,h2,h3,hg,⟨c,h4⟩,h5,h6⟩:=h;have hl:=World.block_lt_of_cell? w _ h4;exact ⟨g,o,cap,h1,h2,h3,fun q=>(hM g q).elim hg (fun q=>by simp only at hl;omega),⟨c,hf.cell h4 (fun q=>hg (hF g q))⟩,h5.fr hf (fun q=>hg (hF g q)),h6⟩
theorem wide_to (l:Wd) (a:Addr) (c sz:Nat) (w:World) (hs:l.length<=sz) (h0:0<sz) (hk:sz<=300) (hB:BytesAt w (some a) (vals l)) :
  Calls Tryz.prog 167 #[.slice (some a) l.length c,.int .i64 (sz:Int)] w fun e w'=>(∃ g cp,e = .returned (.slice (some ⟨g,0,none⟩) sz cp)/\BytesAt w' (some ⟨g,0,none⟩) (vals (padD sz l))/\w.heap.size<=g)/\Below w.heap.size w w':=by
 obtain ⟨k,rfl⟩:∃ k,sz=l.length+k:=⟨sz - l.length,by omega⟩;refine (wide_any l a c k w (by omega) (by omega) hB).mono ?_;rintro e w' ⟨⟨v,rfl,ho⟩,hb⟩;have hpl:(padD (l.length+k) l).length=l.length+k:=by rw [pad_len];omega
 obtain ⟨g,cp,rfl,hg,-,-⟩:=own_some ho h0;exact ⟨⟨g,cp,rfl,bytesAt_own ho hpl.symm,hg⟩,hb⟩
theorem zeros_own (w:World) (B g cap n:Nat) (l:Wd) (hown:w.ownsRow B 5 1 (.slice (some ⟨g,0,none⟩) n cap) n (digs l)) (k:Nat) (hn:n+k<=1000000) (ty:TypeId) :
  ∃ v' w',(Builtin.append_ #[48,3] ty #[.slice (some ⟨g,0,none⟩) n cap,.int .i64 (k:Int)]).run Tryz.prog w = .ok v' w'/\w'.ownsRow B 5 1 v' (n+k) (digs (l++List.replicate k 48))/\w.grownBy w' (some g):=by
 obtain ⟨i,hi,hz,h2,h3⟩:=elem_bytes.info;have ht:=elem_bytes.under;have htn:=Tryz.underlying3;rcases hown.2 with ⟨hv,_⟩ | ⟨g',cap',cur,hv,hbg,hg,hnc,hcm,hcs,htake⟩
 ·cases hv
 cases hv;have hll:l.length=n:=by have:=hown.1;simpa [digs] using this
 have hcs':cur.size=cap:=by simpa using hcs
 have hw:IntKind.i64.wrap (k:Int)=k:=by rw [IntKind.wrap_i64];omega
 have hneg:¬((k:Int)<0):=by omega
 have h48:¬(281474976710656<(k:Int)*(i.bytes:Int)):=by rw [h3];omega
 have hzc:(Builtin.zeroCells (Value.int .u8 0).cells k)=(List.replicate k (Value.int .u8 0)).toArray:=by
  apply Array.ext';apply List.ext_getElem
  ·simp [Builtin.zeroCells,Value.cells]
  ·intro j h1 h2;simp [Builtin.zeroCells,Value.cells];rw [Nat.mod_one];rfl
 by_cases hroom:n+k<=cap
 ·by_cases h0:k=0
  ·subst h0;refine ⟨_,w,?_,by simpa using hown,World.grownBy.refl _ _⟩;have hw0:IntKind.i64.wrap 0=0:=by decide
   have hnc':n<=cap:=hnc;simp [Builtin.append_,run_underlying ht,run_underlying htn,sizeOf,typeInfo,hi,h2,h3,asInt,asIntOf,hw0,hnc'];rfl
  ·have hst:=run_storeCells_at Tryz.prog g n 5 (List.replicate k (Value.int .u8 0)) 0 cur w hg (by simp;omega) (by intro v hv;rw [List.eq_of_mem_replicate hv];rfl);simp only [Nat.add_zero,List.length_replicate] at hst;refine ⟨.slice (some ⟨g,0,none⟩) (n+k) cap,w.setRow g (cur.toList.take n++List.replicate k (Value.int .u8 0)++cur.toList.drop (n+k)).toArray,?_,⟨by simp [digs,hll],.inr ⟨g,cap,_,rfl,hbg,setRow_heap w g cur _ _ _ hg,hroom,hcm,?_,?_⟩⟩,⟨rfl,rfl,rfl,by simp,fun j _ hj=>setRow_other w g j _ (fun e=>hj (by simp [e]))⟩⟩
   ·simp [Builtin.append_,run_underlying ht,run_underlying htn,sizeOf,typeInfo,zeroValue,hi,hz,h2,h3,asInt,asIntOf,hw,hneg,h0,hroom,hzc,Addr.add_lit,hst];intro hbig;omega
   ·simp;omega
   ·have ht':cur.toList.take n=digs l:=by simpa using htake
    rw [ht',digs_app,digs_rep];have:(digs l++List.replicate k (Value.int .u8 0)).length=(n+k)*1:=by simp [digs,hll]
    rw [←this];exact List.take_left
 ·have holds:∀ j u,(digs l)[j]? = some u->w.cell? ((⟨g,0,none⟩:Addr).add j)=some u:=hown.cells (g:=g) rfl;have hfo:=run_firstCells_some (P:=Tryz.prog) w.drew i.size n ⟨g,0,none⟩ n cap (digs l) (by rw [h2];simp [digs,hll]) (by simpa using holds);have hr:=Lib.run_append_grow_zeros (P:=Tryz.prog) w _ _ ty _ i _ .i64 .i64 ht htn hi hz (some ⟨g,0,none⟩) n cap (digs l) hfo k (by omega) (by omega) (by omega) (by omega) (by rw [h3];omega) (by rw [h3];exact growslice_fits (by omega) (by omega));have hlt:=(Array.getElem?_eq_some_iff.1 hg).1;have hge:=grownCap_ge w (n+k) cap 5;refine ⟨_,_,hr,⟨by simp [digs,hll],.inr ⟨w.heap.size,_,_,rfl,by omega,heap_alloc_new w.drew _,hge,grownCap_le_maxLen w (n+k) cap 5 (by unfold maxLen;omega),?_,?_⟩⟩,⟨rfl,rfl,rfl,by simp,fun k hk _=>heap_alloc_old w.drew _ hk⟩⟩
  ·have hz1:(Value.int IntKind.u8 0).cells.size=1:=rfl;simp only [Array.size_append,List.size_toArray,size_zeroCells,hz1];simp [digs,hll];omega
  ·rw [hzc,Array.toList_append,Array.toList_append,digs_app,digs_rep];have:(digs l++List.replicate k (Value.int .u8 0)).length=(n+k)*1:=by simp [digs,hll]
   rw [←this];exact List.take_left
theorem less_val (n:SNum) (v:Nat):lessN n v=if n.1 then (decide (offV (n.2.1++n.2.2)+v*10 ^ n.2.2.length≠0),fixD (offV (n.2.1++n.2.2)+v*10 ^ n.2.2.length) n.2.2.length)
 else if offV (n.2.1++n.2.2)<v*10 ^ n.2.2.length then (true,fixD (v*10 ^ n.2.2.length - offV (n.2.1++n.2.2)) n.2.2.length)
 else (false,fixD (offV (n.2.1++n.2.2) - v*10 ^ n.2.2.length) n.2.2.length):=rfl
def OutM (B O q sc:Nat) (nb:Bool) (r:Nat) (w wc:World):Prop :=
 ∃ g n' cap d,wc.cell? ⟨O,0,none⟩=some (.bool nb)/\wc.cell? ⟨O,1,none⟩=some (.slice (some ⟨g,0,none⟩) n' cap)/\wc.cell? ⟨O,2,none⟩=some (.int .i64 (sc:Nat))/\(∀ j,wc.frozen? ⟨O,j,none⟩=false) /\
  wc.cell? ⟨q,2,none⟩=some (.int .i64 (sc:Nat))/\ResC wc (q+1)/\wc.ownsRow B 5 1 (.slice (some ⟨g,0,none⟩) n' cap) n' (digs d)/\g≠O/\d.length=n'/\sc+1<=n'/\n'<=61/\d.all isDig=true/\offV d=r/\Below B w wc
theorem ResC.other {w:World} {q:Nat} (h:ResC w q) {a:Addr} (ha:a.block≠q) (u:Value):ResC (w.setCell a u) q :=
 ⟨cell_set h.c0 _ ha,cell_set h.c1 _ ha,cell_set h.c2 _ ha,by rw [World.frozen?_setCell];exact h.z0,by rw [World.frozen?_setCell];exact h.z1,by rw [World.frozen?_setCell];exact h.z2,by simpa [World.setCell] using h.lt⟩
theorem OutM.mk1 {B O q sc r n' cap g:Nat} {nb:Bool} {w w6:World} {u:Value} {d:Wd} (c0:w6.cell? ⟨O,0,none⟩=some (.bool nb)) (c1:w6.cell? ⟨O,1,none⟩=some u) (c2:w6.cell? ⟨O,2,none⟩=some (.int .i64 (sc:Nat))) (fz:∀ j,w6.frozen? ⟨O,j,none⟩=false)
  (cq:w6.cell? ⟨q,2,none⟩=some (.int .i64 (sc:Nat))) (hR:ResC w6 (q+1)) (hq:q+1<O) (ho:w6.ownsRow B 5 1 (.slice (some ⟨g,0,none⟩) n' cap) n' (digs d)) (hg:g≠O) (hl:d.length=n') (h1:sc+1<=n') (h3:n'<=61) (hd:d.all isDig=true) (hr:offV d=r) (hb:Below B w w6) (hO:B<=O) :
  OutM B O q sc nb r w (w6.setCell ⟨O,1,none⟩ (.slice (some ⟨g,0,none⟩) n' cap)) :=
 ⟨g,n',cap,d,by rw [cellSet,if_neg (by simp)];exact c0,cell_put c1 _,by rw [cellSet,if_neg (by simp)];exact c2,fun j=>by rw [World.frozen?_setCell];exact fz j,cell_set cq _ (by show O≠q;omega),hR.other (by show O≠q+1;omega) _,own_set ho (by simp [Value.ownBlock,Ne.symm hg]) _,hg,hl,h1,h3,hd,hr,hb.setCell hO _⟩
theorem OutM.set0 {B O q sc r:Nat} {nb:Bool} {w wc:World} (h:OutM B O q sc nb r w wc) (hq:q+1<O) (hO:B<=O) (b:Bool):OutM B O q sc b r w (wc.setCell ⟨O,0,none⟩ (.bool b)):=by
 obtain ⟨g,n',cap,d,c0,c1,c2,fz,cq,hR,ho,hg,hl,h1,h3,hd,hr,hb⟩:=h;exact ⟨g,n',cap,d,cell_put c0 _,by rw [cellSet,if_neg (by simp)];exact c1,by rw [cellSet,if_neg (by simp)];exact c2,fun j=>by rw [World.frozen?_setCell];exact fz j,cell_set cq _ (by show O≠q;omega),hR.other (by show O≠q+1;omega) _,own_set ho (by simp [Value.ownBlock,Ne.symm hg]) _,hg,hl,h1,h3,hd,hr,hb.setCell hO _⟩
theorem num_fix {B gd j m c n' cp sc r:Nat} {w:World} {d:Wd} (fb:Bool) (ho:w.ownsRow B 5 1 (.slice (some ⟨gd,0,none⟩) n' cp) n' (digs d)) (e1:j+m=n') (e2:j+c=cp) (hl:d.length=n') (hd:d.all isDig=true) (h3:n'<=61) (hp:padD (sc+1) (decL r)=d.drop j) :
  NumI (fun k=>k<B) w (.agg #[.bool fb,.slice (some ⟨gd,j,none⟩) m c,.int .i64 (sc:Nat)]) (fb,fixD r sc):=by
 have hcp:n'<=cp/\cp<=maxLen:=by
  rcases ho.2 with ⟨hv,_⟩ | ⟨g2,cap2,cur,hv,_,_,hh,hh2,_⟩
  ·cases hv
  ·cases hv;exact ⟨hh,hh2⟩
 have hdl:(d.drop j).length=m:=by rw [List.length_drop];omega
 have hm:sc+1<=m:=by rw [←hdl,←hp,pad_len];omega
 have hdd:(d.drop j).all isDig=true:=by
  rw [List.all_eq_true] at hd ⊢;exact fun x hx=>hd x (List.mem_of_mem_drop hx)
 have hf:fixD r sc=((d.drop j).take (m - sc),(d.drop j).drop (m - sc)):=by unfold fixD;rw [hp,hdl]
 have hB:=(bytesAt_own ho hl.symm).drop j;rw [Nat.zero_add,show (vals d).drop j=vals (d.drop j) by simp [vals]] at hB;have l1:((d.drop j).take (m - sc)).length=m - sc:=by rw [List.length_take];omega
 have l2:((d.drop j).drop (m - sc)).length=sc:=by rw [List.length_drop];omega
 refine ⟨gd,j,c,?_,?_,by omega,by have:=(ho.lt gd rfl).1;omega,⟨_,own_dig ho (m:=0) (by omega) hl⟩,?_,?_⟩
 ·rw [hf,l1,l2,show m - sc+sc=m by omega]
 ·rw [hf,l1,l2];omega
 ·rw [hf,List.take_append_drop];exact hB
 ·rw [hf];refine ⟨?_,?_,fun e=>?_,by rw [l1];omega,by rw [l2];omega⟩
  ·rw [List.all_eq_true] at hdd ⊢;exact fun x hx=>hdd x (List.mem_of_mem_take hx)
  ·rw [List.all_eq_true] at hdd ⊢;exact fun x hx=>hdd x (List.mem_of_mem_drop hx)
  ·have:=congrArg List.length e;rw [l1] at this;simp at this;omega
set_option maxHeartbeats 8000000 in
theorem minus_num (v:Value) (n:SNum) (x:Nat) (w:World) (h:NumI (fun _=>False) w v n) (hx:x<=1000000000) (hl:n.2.1.length+n.2.2.length<=40) :
  Calls Tryz.prog 131 #[v,.int .i64 (x:Nat)] w fun e w'=>(∃ v',e = .returned v'/\NumI (fun k=>k<w.heap.size) w' v' (lessN n x))/\Below w.heap.size w w':=by
 obtain ⟨neg,X⟩:=n;obtain ⟨g,o,cap,rfl,hcap,hcm,-,h0,hB,hok⟩:=h;simp only at hl hcap hB hok ⊢;obtain ⟨B,hBe⟩:∃ B,w.heap.size=B:=⟨_,rfl⟩;obtain ⟨L,hL⟩:∃ L,X.1.length+X.2.length=L:=⟨_,rfl⟩;obtain ⟨sc,hsc⟩:∃ sc,X.2.length=sc:=⟨_,rfl⟩;have hL1:sc+1<=L:=by have:=List.length_pos_iff.2 hok.ne;omega
 rw [hL] at hl hcap ⊢;rw [hsc] at ⊢;obtain ⟨W,hW⟩:∃ W,(w.alloc (.cells #[.bool neg,.slice (some ⟨g,o,none⟩) L cap,.int .i64 (sc:Nat)] 97)).alloc (.cells #[.bool false,.slice none 0 0,.int .i64 0] 97)=W:=⟨_,rfl⟩;have s1:(w.alloc (.cells #[.bool neg,.slice (some ⟨g,o,none⟩) L cap,.int .i64 (sc:Nat)] 97)).heap.size=B+1:=by simp [hBe]
 have b1:Below B w (w.alloc (.cells #[.bool neg,.slice (some ⟨g,o,none⟩) L cap,.int .i64 (sc:Nat)] 97)):=(Below.refl _ _).alloc (by omega) _;have b2:Below B w W:=by rw [←hW];exact b1.alloc (by omega) _
 have cW:∀ j,j<3->W.cell? ⟨B,j,none⟩=(#[Value.bool neg,.slice (some ⟨g,o,none⟩) L cap,.int .i64 (sc:Nat)]:Array Value)[j]? := fun j hj=>by
  rw [←hW,World.cell?_alloc_lt _ _ _ (by show B<_;omega),←hBe];exact cell_made _ _ _ _ _
 have hRW:ResC W (B+1):=by
  rw [←hW,←s1];exact ⟨cell_made _ _ _ _ _,cell_made _ _ _ _ _,cell_made _ _ _ _ _,by simp,by simp,by simp,by simp⟩
 have HRW:=Lib.hid hRW;have q0:=cW 0 (by omega);have q1:=cW 1 (by omega);have q2:=cW 2 (by omega);simp only [List.getElem?_toArray,List.getElem?_cons_zero,List.getElem?_cons_succ] at q0 q1 q2;have sW:W.heap.size=B+2:=by rw [←hW];simp [hBe]
 have HB:=Lib.hid hB;have HX:=Lib.hid (And.intro hok (And.intro hL hsc));have HW:=Lib.hid b2;have HBE:=Lib.hid hBe;have HSW:=Lib.hid sW;clear hB hok hL hsc b1 b2 s1 cW h0 hRW;go_enter Tryz.func131,Tryz.ntmps131
 go_wp2_with fail
 have HWE:=Lib.hid hW;clear hW hBe;refine rt (fun W':World=>W'.cell? ⟨B,2,none⟩=some (.int .i64 (sc:Nat))) [0,3,4] 4 q2 ?_;(iterate 3 (refine ty ?_;try simp only [pl]))
 refine takes_nil ?_;refine wpAnyH_only 1 (by kernel_rfl) rfl (fun J hJ=>?_);go_simp
 refine (whole_any x W.drew hx).mono ?_;rintro e w1 ⟨⟨g1,cp1,rfl,ho1⟩,hb1⟩;have hb1':Below W.heap.size W w1:=⟨hb1.os,hb1.tape,hb1.output,hb1.size,hb1.block⟩;have r0:=(hb1'.cell (p:=⟨B,0,none⟩) (by show B<_;omega)).trans q0;have r1:=(hb1'.cell (p:=⟨B,1,none⟩) (by show B<_;omega)).trans q1;have r2:=(hb1'.cell (p:=⟨B,2,none⟩) (by show B<_;omega)).trans q2;have hfd:=field_digits;have hs1:=hb1'.size;have hdl:=decL_short 9 x (by omega);obtain ⟨w2,v2,hap,ho2,hg2⟩:∃ w2 v2,(Builtin.append_ #[48,3] 48 #[.slice (some ⟨g1,0,none⟩) (decL x).length cp1,.int .i64 (sc:Int)]).run Tryz.prog w1 = .ok v2 w2/\w2.ownsRow (B+2) 5 1 v2 ((decL x).length+sc) (digs (decL x++List.replicate sc 48))/\w1.grownBy w2 (some g1):=by
  obtain ⟨v2,w2,a,b,c⟩:=zeros_own w1 _ g1 cp1 _ _ ho1 sc (by omega) 48;exact ⟨w2,v2,a,by rw [←HSW.out];exact b,c⟩
 have hg1:B+2<=g1:=by
  have:=(ho1.lt g1 rfl).1;rw [show W.drew.heap.size=W.heap.size from rfl,HSW.out] at this;exact this
 have hb2':Below (B+2) W w2:=(hb1'.mono (by omega)).grown hg2 (by omega) (fun q hq=>by cases hq;exact hg1);have u0:=(hb2'.cell (p:=⟨B,0,none⟩) (by show B<_;omega)).trans q0;have u1:=(hb2'.cell (p:=⟨B,1,none⟩) (by show B<_;omega)).trans q1;have u2:=(hb2'.cell (p:=⟨B,2,none⟩) (by show B<_;omega)).trans q2;obtain ⟨dl,hdle⟩:∃ dl,(decL x).length=dl:=⟨_,rfl⟩;have hd1:1<=dl:=by have:=List.length_pos_iff.2 (decL_ne x);omega
 rw [hdle] at ho2 hdl hap;have HDL:=Lib.hid hdle;have HO2:=Lib.hid ho2;have HB2:=Lib.hid hb2';clear ho1 hb1 hb1' hg2 hb2' ho2;rw [hdle];clear hdle;refine hJ.out _ _ r2 fun _=>?_
 clear hJ J;refine wpAnyH_more [2] 2 rfl (by intro _ _ d _ _ h;cases d<;>exact h) (by kernel_rfl) (by kernel_rfl) r2 ?_;refine ty ?_;try simp only [pl]
 refine takes_nil ?_;refine wpAnyH_only 5 (by kernel_rfl) rfl (fun J hJ=>?_);refine Lib.wp_append_run _ _ _ _ _ rfl _ _ rfl rfl _ _ hap ?_;refine hJ.out _ _ u2 fun _=>?_
 clear hJ J;refine wpAnyH_more [6] 0 rfl (by intro _ _ d _ _ h;cases d<;>exact h) (by kernel_rfl) (by kernel_rfl) u2 ?_;refine ty ?_;try simp only [pl]
 refine takes_nil ?_;refine wpAnyH_done (by kernel_rfl) ?_ _;have hv2:=own_some HO2.out (by omega);obtain ⟨g2,cp2,rfl,hg2,hg2l,-⟩:=hv2;obtain ⟨sz,hsz⟩:∃ sz:Nat,max (L:Int) ((dl:Int)+(sc:Int))=(sz:Int):=⟨max L (dl+sc),by omega⟩;have z1:L<=sz:=by omega
 have z2:dl+sc<=sz:=by omega
 have z3:sz<=60:=by omega
 clear hap r0 r1 r2 q0 q1 q2;have hb02:Below B w w2:=HW.out.trans (HB2.out.mono (by omega));have hw1:=wide_to (X.1++X.2) ⟨g,o,none⟩ cap sz w2 (by rw [List.length_append,HX.out.2.1];exact z1) (by omega) (by omega) (HB.out.below (by rw [HBE.out];exact hb02));rw [List.length_append,HX.out.2.1] at hw1;have HW1:=Lib.hid hw1;have HB02:=Lib.hid hb02;clear hw1 hb02;go_wp2_with fail
 refine HW1.out.mono ?_;rintro e w3 ⟨⟨ga,ca,rfl,hA3,hga⟩,hb3⟩;have hs2:=hb3.size;have hb03:Below B w w3:=HB02.out.trans (hb3.mono (by have:=HB2.out.size;omega));have hz3:Below (B+2) W w3:=HB2.out.trans (hb3.mono (by have:=HB2.out.size;omega));have hll:(decL x++List.replicate sc 48).length=dl+sc:=by rw [List.length_append,List.length_replicate,HDL.out]
 have hw2:=wide_to (decL x++List.replicate sc 48) ⟨g2,0,none⟩ cp2 sz w3 (by rw [hll];exact z2) (by omega) (by omega) ((bytesAt_own HO2.out hll.symm).below hb3);rw [hll] at hw2;have HW2:=Lib.hid hw2;have HA3:=Lib.hid hA3;have HB03:=Lib.hid hb03;have HZ3:=Lib.hid hz3;have HS2:=Lib.hid hs2;clear hw2 hA3 hb3 hb03 hz3 HW1 HB2 HB02 hs2;go_wp2_with fail
 refine HW2.out.mono ?_;rintro e w4 ⟨⟨gb,cb,rfl,hB4,hgb⟩,hb4⟩;have hs3:=hb4.size;have hz4:Below (B+2) W w4:=HZ3.out.trans (hb4.mono (by have:=HZ3.out.size;omega));have hb04:Below B w w4:=HB03.out.trans (hb4.mono (by have:=HZ3.out.size;omega));have t0:w4.cell? ⟨B,0,none⟩=some (.bool neg):=by
  rw [hz4.cell (p:=⟨B,0,none⟩) (by show B<B+2;omega),←HWE.out,World.cell?_alloc_lt _ _ _ (by simp [HBE.out]),←HBE.out];exact cell_made _ _ _ _ _
 have t2:w4.cell? ⟨B,2,none⟩=some (.int .i64 (sc:Nat)):=by
  rw [hz4.cell (p:=⟨B,2,none⟩) (by show B<B+2;omega),←HWE.out,World.cell?_alloc_lt _ _ _ (by simp [HBE.out]),←HBE.out];exact cell_made _ _ _ _ _
 have hR4:ResC w4 (B+1):=HRW.out.below (by rw [HSW.out];exact hz4);have hA4:=HA3.out.below hb4;obtain ⟨P1,hP1⟩:∃ P1,padD sz (X.1++X.2)=P1:=⟨_,rfl⟩;obtain ⟨P2,hP2⟩:∃ P2,padD sz (decL x++List.replicate sc 48)=P2:=⟨_,rfl⟩;have dX:(X.1++X.2).all isDig=true:=by rw [List.all_append,HX.out.1.dig1,HX.out.1.dig2];rfl
 have dZ:(decL x++List.replicate sc 48).all isDig=true:=by rw [List.all_append,decL_dig,Bool.true_and,List.all_eq_true];intro c hc;rw [List.eq_of_mem_replicate hc];rfl
 have l1:P1.length=sz:=by rw [←hP1,pad_len,List.length_append,HX.out.2.1];omega
 have l2:P2.length=sz:=by rw [←hP2,pad_len,hll];omega
 have d1:P1.all isDig=true:=by rw [←hP1];exact pad_dig dX
 have d2:P2.all isDig=true:=by rw [←hP2];exact pad_dig dZ
 have v1:offV P1=offV (X.1++X.2):=by rw [←hP1];exact offV_rep _ _
 have v2:offV P2=x*10 ^ sc:=by rw [←hP2,padD,offV_rep,offV_behind,off_dec]
 rw [hP1] at hA4;rw [hP2] at hB4;have HA4:=Lib.hid hA4;have HB4:=Lib.hid hB4;have HP:=Lib.hid (And.intro l1 (And.intro l2 (And.intro d1 (And.intro d2 (And.intro v1 v2)))));have HZ4:=Lib.hid hz4;have HR4:=Lib.hid hR4;have HB04:=Lib.hid hb04;have t4:B+2<=w4.heap.size:=by have:=hz4.size;omega
 clear hA4 hB4 l1 l2 d1 d2 v1 v2 hP1 hP2 dX dZ hb4 hz4 hR4 hb04 HA3 HB03 HZ3 HS2 HW2 hll hs3 hfd u0 u1 u2;go_wp2_with fail
 obtain ⟨l1,l2,d1,d2,v1,v2⟩:=HP.out;refine (bytesCompare_any P1 P2 sz ca sz cb ⟨ga,0,none⟩ ⟨gb,0,none⟩ _ l1.symm l2.symm (HA4.out.alloc _) (HB4.out.alloc _) (l1.trans l2.symm) d1 d2).mono ?_;rintro e w5' ⟨rfl,hw5⟩;obtain ⟨O,hO⟩:∃ O,w4.heap.size=O:=⟨_,rfl⟩;obtain ⟨cc,hcc⟩:∃ cc,cmpB P1 P2=cc:=⟨_,rfl⟩;have hcl:cc<0 ↔ offV P1<offV P2:=by rw [←hcc];exact cmpB_off (l1.trans l2.symm) d1 d2
 rw [hcc];have o0:w5'.cell? ⟨O,0,none⟩=some (.bool neg):=by rw [←hw5,←hO];exact cell_made _ _ _ _ _
 have o1:w5'.cell? ⟨O,1,none⟩=some (.slice none 0 0):=by rw [←hw5,←hO];exact cell_made _ _ _ _ _
 have o2:w5'.cell? ⟨O,2,none⟩=some (.int .i64 (sc:Nat)):=by rw [←hw5,←hO];exact cell_made _ _ _ _ _
 have b45:Below O w4 w5':=by rw [←hw5];exact (Below.refl _ _).alloc (by omega) _
 have u0:=(b45.cell (p:=⟨B,0,none⟩) (by show B<O;omega)).trans t0;have u2:=(b45.cell (p:=⟨B,2,none⟩) (by show B<O;omega)).trans t2;have fz:∀ j,w5'.frozen? ⟨O,j,none⟩=false:=by intro j;rw [←hw5,←hO];simp
 have s5:w5'.heap.size=O+1:=by rw [←hw5,←hO];simp
 have HA5:=Lib.hid (HA4.out.below (by rw [hO];exact b45));have HB5:=Lib.hid (HB4.out.below (by rw [hO];exact b45));have HB05:=Lib.hid (HB04.out.trans (b45.mono (by omega)));have HR5:=Lib.hid (HR4.out.below (by rw [hO];exact b45));have HCL:=Lib.hid hcl;have HLV:=Lib.hid (less_val (neg,X) x);rw [hO] at t4 ⊢;have HS5:=Lib.hid s5;clear hcl hw5 hcc b45 HA4 HB4 HB04 HZ4 t0 t2 hO l1 l2 d1 d2 v1 v2 s5 hgb hga hg2l hg2;go_upto_block 0 with fail
 go_cut [] (fun wc=>∃ nb r,OutM B O B sc nb r w wc/\lessN (neg,X) x=(nb && decide (r≠0),fixD r sc))
 case rest =>
  obtain ⟨nb,r,⟨gd,n',cp,d,c0,c1,c2,cz,cq,hR,ho,hgO,hdl',hn1,hn3,hdd,hdr,hbc⟩,hln⟩:=hcut;clear o0 o1 o2 u0 u2 fz HA5 HB5 HB05 HCL HLV HP HO2 HS5 HDL;have HO:=Lib.hid ho;have HD:=Lib.hid (And.intro hdl' (And.intro hdd hdr));have HLN:=Lib.hid hln;have HBC:=Lib.hid hbc;clear ho hdl' hdd hdr hln hbc;have HR:=Lib.hid hR;clear hR HR5 HR4 HRW;go_upto_block 1 with fail
  go_cut [] (fun wl=>∃ j m c,j+m=n'/\j+c=cp/\wl.cell? ⟨O,0,none⟩=some (.bool nb)/\wl.cell? ⟨O,1,none⟩=some (.slice (some ⟨gd,j,none⟩) m c)/\wl.cell? ⟨O,2,none⟩=some (.int .i64 (sc:Nat))/\(∀ j,wl.frozen? ⟨O,j,none⟩=false)/\ResC wl (B+1)/\wl.ownsRow B 5 1 (.slice (some ⟨gd,0,none⟩) n' cp) n' (digs d)/\Below B w wl /\
   padD (sc+1) (decL r)=d.drop j)
  case rest =>
   obtain ⟨j,m,c,e1,e2,c0,c1,c2,cz,hR,ho,hb,hpd⟩:=hcut;have hgB:gd≠B+1:=by
    rintro rfl;have h1:=own_dig ho (m:=0) (by have:=HD.out.1;omega) HD.out.1;rw [hR.c0] at h1
    cases h1
   have hdl:(d.drop j).length=m:=by rw [List.length_drop,HD.out.1];omega
   have hB:=(bytesAt_own ho HD.out.1.symm).drop j;rw [Nat.zero_add,show (vals d).drop j=vals (d.drop j) by simp [vals]] at hB;have HZ:=Lib.hid (zero_list (d.drop j) m hdl.symm (some ⟨gd,j,none⟩) c nb (sc:Int) wc (by omega) hB);have hz:(d.drop j).all (· == 48)=decide (r=0):=by
    have h1:(d.drop j).all isDig=true:=by
     have:=HD.out.2.1;rw [List.all_eq_true] at this ⊢;exact fun x hx=>this x (List.mem_of_mem_drop hx)
    have h2:=nought_off h1;rw [←hpd,padD,offV_rep,off_dec] at h2;rw [Bool.eq_iff_iff,decide_eq_true_eq,←h2,←hpd,padD]
   rw [hz] at HZ;have HQ:=Lib.hid (And.intro e1 (And.intro e2 (And.intro ho (And.intro hb hpd))));have r0:=hR.c0;have r1:=hR.c1;have r2:=hR.c2;have y0:=hR.z0;have y1:=hR.z1;have y2:=hR.z2;clear e1 e2 ho hb hpd hdl hB hz hR HR
   cases nb
   ·go_wp2
    obtain ⟨e1,e2,ho,hb,hpd⟩:=HQ.out;refine bodyPost_ret (v := .agg #[.bool false,.slice (some ⟨gd,j,none⟩) m c,.int .i64 (sc:Nat)]) ?_ rfl ?_
    ·simp [results,Tryz.results131,go_sem,r0,r1,r2]
    ·refine ⟨⟨_,rfl,?_⟩,?_⟩
     ·rw [HLN.out,HBE.out];exact num_fix _ (own_set (own_set (own_set (own_set ho (by simp [Value.ownBlock];omega) _) (by simp [Value.ownBlock];omega) _) (by simp [Value.ownBlock];omega) _) (by simp [Value.ownBlock];omega) _) e1 e2 HD.out.1 HD.out.2.1 hn3 hpd
     ·rw [HBE.out];exact (((hb.setCell (by show B<=O;omega) _).setCell (by show B<=B+1;omega) _).setCell (by show B<=B+1;omega) _).setCell (by show B<=B+1;omega) _
   ·go_wp2_with fail
    refine HZ.out.mono ?_;rintro e w7 ⟨rfl,hb7⟩;have lO:=World.block_lt_of_cell? wc _ c0;have lR:=World.block_lt_of_cell? wc _ r0;have c0':=(hb7.cell (p:=⟨O,0,none⟩) lO).trans c0;have c1':=(hb7.cell (p:=⟨O,1,none⟩) lO).trans c1;have c2':=(hb7.cell (p:=⟨O,2,none⟩) lO).trans c2;have cz':∀ j,w7.frozen? ⟨O,j,none⟩=false:=fun j=>(World.frozen?_of_block (hb7.block O lO)).trans (cz j)
    have r0':=(hb7.cell (p:=⟨B+1,0,none⟩) lR).trans r0;have r1':=(hb7.cell (p:=⟨B+1,1,none⟩) lR).trans r1;have r2':=(hb7.cell (p:=⟨B+1,2,none⟩) lR).trans r2;have y0':=(hb7.frozen (p:=⟨B+1,0,none⟩) lR).trans y0;have y1':=(hb7.frozen (p:=⟨B+1,1,none⟩) lR).trans y1;have y2':=(hb7.frozen (p:=⟨B+1,2,none⟩) lR).trans y2;have HB7:=Lib.hid hb7;clear c0 c1 c2 cz r0 r1 r2 y0 y1 y2 hb7 HZ;obtain ⟨zz,hzz⟩:∃ zz,decide (r=0)=zz:=⟨_,rfl⟩;rw [hzz];have HZZ:=Lib.hid hzz;clear hzz;go_wp2
    obtain ⟨e1,e2,ho,hb,hpd⟩:=HQ.out;refine bodyPost_ret (v := .agg #[.bool (!zz),.slice (some ⟨gd,j,none⟩) m c,.int .i64 (sc:Nat)]) ?_ rfl ?_
    ·simp [results,Tryz.results131,go_sem,r0',r1',r2']
    ·refine ⟨⟨_,rfl,?_⟩,?_⟩
     ·rw [HLN.out,HBE.out,Bool.true_and,show decide (r≠0) = !zz by rw [←HZZ.out];simp];exact num_fix _ (own_set (own_set (own_set (own_set (own_below ho HB7.out) (by simp [Value.ownBlock];omega) _) (by simp [Value.ownBlock];omega) _) (by simp [Value.ownBlock];omega) _) (by simp [Value.ownBlock];omega) _) e1 e2 HD.out.1 HD.out.2.1 hn3 hpd
     ·rw [HBE.out];exact ((((hb.trans (HB7.out.mono (by omega))).setCell (by show B<=O;omega) _).setCell (by show B<=B+1;omega) _).setCell (by show B<=B+1;omega) _).setCell (by show B<=B+1;omega) _
  case first =>
   go_wp2_with fail
   go_loopw [] (fun wr=>∃ j m c,j+m=n'/\j+c=cp/\sc+1<=m/\wr.cell? ⟨O,0,none⟩=some (.bool nb)/\wr.cell? ⟨O,1,none⟩=some (.slice (some ⟨gd,j,none⟩) m c)/\wr.cell? ⟨O,2,none⟩=some (.int .i64 (sc:Nat))/\(∀ j,wr.frozen? ⟨O,j,none⟩=false)/\wr.cell? ⟨B,2,none⟩=some (.int .i64 (sc:Nat))/\ResC wr (B+1)/\wr.ownsRow B 5 1 (.slice (some ⟨gd,0,none⟩) n' cp) n' (digs d)/\Below B w wr/\offV (d.drop j)=r) (fun wr=>match wr.cell? ⟨O,1,none⟩ with | some (.slice _ n _)=>n | _=>0)
   case atStart=>exact ⟨0,n',cp,by omega,by omega,hn1,c0,c1,c2,cz,cq,HR.out,HO.out,HBC.out,HD.out.2.2⟩
   case round =>
    clear c0 c1 c2 cz cq;obtain ⟨j,m,c,e1,e2,e3,c0,c1,c2,cz,cq,hR,ho,hb,hv⟩:=hrel;obtain ⟨dl1,dl2,-⟩:=HD.out;have hcp:n'<=cp:=by
     rcases ho.2 with ⟨hv,_⟩ | ⟨g2,cap2,cur,hv,_,_,hh,_⟩
     ·cases hv
     ·cases hv;exact hh
    have hjd:j<d.length:=by omega
    have ph:=own_dig ho hjd dl1;have xj:=dig_nat (List.all_eq_true.1 dl2 _ (List.getElem_mem hjd));obtain ⟨y,hy⟩:∃ y,d[j].toNat - 48=y:=⟨_,rfl⟩;rw [show ((d[j].toNat:Int) - 48)=(y:Int) by omega] at ph;have hdd:(d.drop j).all isDig=true:=by
     rw [List.all_eq_true] at dl2 ⊢;exact fun x hx=>dl2 x (List.mem_of_mem_drop hx)
    have hdl:(d.drop j).length=m:=by rw [List.length_drop];omega
    have hne:d.drop j≠[]:=fun e=>by rw [e] at hdl;simp at hdl;omega
    have hdc:=List.drop_eq_getElem_cons hjd;by_cases hm:sc+1<m
    ·have k1:(sc:Int)+1<(m:Int):=by omega
     have k2:decide ((sc:Int)+1<(m:Int))=true:=decide_eq_true k1;by_cases h0:y=0
     ·subst h0;have h48:d[j]=48:=UInt8.toNat.inj (by show _=48;omega);have hv2:offV (d.drop (j+1))=r:=by
       rw [hdc,h48,offV_cons] at hv;simpa using hv
      have hn1c:¬(c=1):=by omega
      have hc1:1<=c:=by omega
      have hm1:1<=m:=by omega
      have HQ:=Lib.hid (And.intro e1 (And.intro e2 (And.intro e3 (And.intro hR (And.intro ho (And.intro hb hv2))))));have HM:=Lib.hid hm;clear e1 e2 e3 hR ho hb hv2 hv xj hy hdd hdl hne hdc h48 dl1 dl2 hcp hjd hm;go_wp2
      obtain ⟨e1,e2,e3,hR,ho,hb,hv2⟩:=HQ.out;have hm:=HM.out;refine ⟨⟨j+1,m - 1,c - 1,by omega,by omega,by omega,by rw [cellSet,if_neg (by simp)];exact c0,cell_put c1 _,by rw [cellSet,if_neg (by simp)];exact c2,fun i=>by rw [World.frozen?_setCell];exact cz i,cell_set cq _ (by show O≠B;omega),hR.other (by show O≠B+1;omega) _,own_set ho (by simp [Value.ownBlock,Ne.symm hgO]) _,hb.setCell (by show B<=O;omega) _,hv2⟩,?_⟩;rw [cell_put c1,c1];show m - 1<m;omega
     ·have h0':((y:Int)==0)=false:=by simp;omega
      have HQ:=Lib.hid (And.intro e1 (And.intro e2 (And.intro hR (And.intro ho (And.intro hb (show padD (sc+1) (decL r)=d.drop j by
       rw [←hv];exact pad_fit hdd hne (by omega) (.inr (by rw [hdc];intro q;apply h0;rw [←hy,show d[j]=48 from q];rfl))))))))
      clear e1 e2 e3 hR ho hb hv xj hy hdd hdl hne hdc dl1 dl2 hcp hjd hm h0;go_wp2
      go_meet
      obtain ⟨e1,e2,hR,ho,hb,hv2⟩:=HQ.out;exact ⟨j,m,c,e1,e2,c0,c1,c2,cz,hR,ho,hb,hv2⟩
    ·have k1:¬((sc:Int)+1<(m:Int)):=by omega
     have k2:decide ((sc:Int)+1<(m:Int))=false:=decide_eq_false k1;have HQ:=Lib.hid (And.intro e1 (And.intro e2 (And.intro hR (And.intro ho (And.intro hb (show padD (sc+1) (decL r)=d.drop j by
      rw [←hv];exact pad_fit hdd hne (by omega) (.inl (by omega))))))))
     clear e1 e2 e3 hR ho hb hv xj hy hdd hdl hne hdc dl1 dl2 hcp hjd hm ph;go_wp2
     go_meet
     obtain ⟨e1,e2,hR,ho,hb,hv2⟩:=HQ.out;exact ⟨j,m,c,e1,e2,c0,c1,c2,cz,hR,ho,hb,hv2⟩
 case first =>
  obtain ⟨l1,l2,d1,d2,v1,v2⟩:=HP.out
  cases neg
  ·by_cases hlt:offV P1<offV P2
   ·have HM:=Lib.hid (minus_any P2 P1 sz cb ca ⟨gb,0,none⟩ ⟨ga,0,none⟩ w5' l2 l1 (by omega) (by omega) d2 d1 (by omega) HB5.out HA5.out);have HVV:=Lib.hid (And.intro v1 v2);have kc:decide (cc<0)=true:=decide_eq_true (HCL.out.2 hlt);clear l1 l2 d1 d2 v1 v2;go_wp2_with fail
    refine HM.out.mono ?_;rintro e w6 ⟨⟨v6,d,rfl,ho6,hl6,hd6,hr6⟩,hb6⟩;rw [HS5.out] at ho6 hb6;obtain ⟨g6,cp6,rfl,hg6,-,-⟩:=own_some ho6 (by omega);have e0:=(hb6.cell (p:=⟨O,0,none⟩) (by show O<_;omega)).trans o0;have e1:=(hb6.cell (p:=⟨O,1,none⟩) (by show O<_;omega)).trans o1;have e2:=(hb6.cell (p:=⟨O,2,none⟩) (by show O<_;omega)).trans o2;have e3:=(hb6.cell (p:=⟨B,2,none⟩) (by show B<_;omega)).trans u2;have ez:∀ j,w6.frozen? ⟨O,j,none⟩=false:=fun j=>(World.frozen?_of_block (hb6.block O (by omega))).trans (fz j)
    have HOM:=Lib.hid (OutM.mk1 e0 e1 e2 ez e3 (HR5.out.below (by rw [HS5.out];exact hb6)) (by omega) (own_mono ho6 (by omega)) (by omega) hl6 (by omega) (by omega) hd6 hr6 (HB05.out.trans (hb6.mono (by omega))) (by omega));clear ho6 hb6 hr6 hd6 hl6 e3 fz o0 o1 o2 u0 u2;go_wp2
    go_meet
    have hlv:=HLV.out;try simp only at hlv
    rw [HX.out.2.2,←HVV.out.1,←HVV.out.2] at hlv;refine ⟨true,_,HOM.out.set0 (by omega) (by omega) true,?_⟩;rw [hlv,if_neg (by simp),if_pos hlt,decide_eq_true (by omega)];rfl
   ·have HM:=Lib.hid (minus_any P1 P2 sz ca cb ⟨ga,0,none⟩ ⟨gb,0,none⟩ w5' l1 l2 (by omega) (by omega) d1 d2 (by omega) HA5.out HB5.out);have HVV:=Lib.hid (And.intro v1 v2);have kc:decide (cc<0)=false:=decide_eq_false (fun q=>hlt (HCL.out.1 q));clear l1 l2 d1 d2 v1 v2;go_wp2_with fail
    refine HM.out.mono ?_;rintro e w6 ⟨⟨v6,d,rfl,ho6,hl6,hd6,hr6⟩,hb6⟩;rw [HS5.out] at ho6 hb6;obtain ⟨g6,cp6,rfl,hg6,-,-⟩:=own_some ho6 (by omega);have e0:=(hb6.cell (p:=⟨O,0,none⟩) (by show O<_;omega)).trans o0;have e1:=(hb6.cell (p:=⟨O,1,none⟩) (by show O<_;omega)).trans o1;have e2:=(hb6.cell (p:=⟨O,2,none⟩) (by show O<_;omega)).trans o2;have e3:=(hb6.cell (p:=⟨B,2,none⟩) (by show B<_;omega)).trans u2;have ez:∀ j,w6.frozen? ⟨O,j,none⟩=false:=fun j=>(World.frozen?_of_block (hb6.block O (by omega))).trans (fz j)
    have HOM:=Lib.hid (OutM.mk1 e0 e1 e2 ez e3 (HR5.out.below (by rw [HS5.out];exact hb6)) (by omega) (own_mono ho6 (by omega)) (by omega) hl6 (by omega) (by omega) hd6 hr6 (HB05.out.trans (hb6.mono (by omega))) (by omega));clear ho6 hb6 hr6 hd6 hl6 e3 fz o0 o1 o2 u0 u2;go_wp2
    go_meet
    have hlv:=HLV.out;try simp only at hlv
    rw [HX.out.2.2,←HVV.out.1,←HVV.out.2] at hlv;refine ⟨false,_,HOM.out,?_⟩;rw [hlv,if_neg (by simp),if_neg hlt];rfl
  ·have HM:=Lib.hid (plus_any P1 P2 sz ca cb ⟨ga,0,none⟩ ⟨gb,0,none⟩ w5' l1 l2 (by omega) (by omega) d1 d2 HA5.out HB5.out);have HVV:=Lib.hid (And.intro v1 v2);clear l1 l2 d1 d2 v1 v2;go_wp2_with fail
   refine HM.out.mono ?_;rintro e w6 ⟨⟨v6,d,rfl,ho6,hl6,hd6,hr6⟩,hb6⟩;rw [HS5.out] at ho6 hb6;obtain ⟨g6,cp6,rfl,hg6,-,-⟩:=own_some ho6 (by omega);have e0:=(hb6.cell (p:=⟨O,0,none⟩) (by show O<_;omega)).trans o0;have e1:=(hb6.cell (p:=⟨O,1,none⟩) (by show O<_;omega)).trans o1;have e2:=(hb6.cell (p:=⟨O,2,none⟩) (by show O<_;omega)).trans o2;have e3:=(hb6.cell (p:=⟨B,2,none⟩) (by show B<_;omega)).trans u2;have ez:∀ j,w6.frozen? ⟨O,j,none⟩=false:=fun j=>(World.frozen?_of_block (hb6.block O (by omega))).trans (fz j)
   have HOM:=Lib.hid (OutM.mk1 e0 e1 e2 ez e3 (HR5.out.below (by rw [HS5.out];exact hb6)) (by omega) (own_mono ho6 (by omega)) (by omega) hl6 (by omega) (by omega) hd6 hr6 (HB05.out.trans (hb6.mono (by omega))) (by omega));clear ho6 hb6 hr6 hd6 hl6 e3 fz o0 o1 o2 u0 u2;go_wp2
   go_meet
   have hlv:=HLV.out;try simp only at hlv
   rw [HX.out.2.2,←HVV.out.1,←HVV.out.2] at hlv;refine ⟨true,_,HOM.out,?_⟩;rw [hlv];simp
set_option maxHeartbeats 2000000 in
theorem same_num (v:Value) (n:SNum) (x:Nat) (w:World) {M:Nat->Prop} (h:NumI M w v n) (hx:x<=1000000000) :
  Calls Tryz.prog 134 #[v,.int .i64 (x:Nat)] w fun e w'=>e = .returned (.bool (sameN n x))/\Below w.heap.size w w':=by
 have hnv:=h.num;obtain ⟨neg,X⟩:=n;obtain ⟨g,o,cap,rfl,-⟩:=h;simp only at hnv ⊢;have hal:∀ ob,Below w.heap.size w (w.alloc ob):=fun ob=>(Below.refl _ _).alloc (Nat.le_refl _) _
 have HC:=fun ob=>Lib.hid (compare_any _ X x (w.alloc ob) (hnv.below (hal ob)) hx)
 clear hnv
 cases neg
 ·obtain ⟨cc,hcc⟩:∃ cc,cmpT X x=cc:=⟨_,rfl⟩;have HS:=Lib.hid (show sameN (false,X) x=decide (cc=0) by unfold sameN;rw [hcc];rfl);rw [hcc] at HC;clear hcc;go_enter Tryz.func134,Tryz.ntmps134
  go_wp2_with fail
  refine (HC _).out.mono ?_;rintro e w1 ⟨rfl,hb1⟩;have hb:=(hal (.cells #[.bool false,.slice (some ⟨g,o,none⟩) (X.1.length+X.2.length) cap,.int .i64 X.2.length] 97)).trans (hb1.mono (by simp));clear hb1 hal HC;go_wp2
  go_ret
  rw [HS.out];exact ⟨by first | rfl | (congr 2;simp) ,hb⟩
 ·have HS:=Lib.hid (show sameN (true,X) x=false from rfl);have hb:=hal (.cells #[.bool true,.slice (some ⟨g,o,none⟩) (X.1.length+X.2.length) cap,.int .i64 X.2.length] 97);clear HC hal;go_enter Tryz.func134,Tryz.ntmps134
  go_wp2
  go_ret
  exact ⟨by rw [HS.out];rfl,hb⟩
theorem elem_ent:Elem Tryz.prog 195 272 (.agg #[.bool false,.slice none 0 0,.int .i64 0,.bool false,.slice none 0 0,.int .i64 0]) 6 80 :=
 ⟨Tryz.underlying195,info_parts (by kernel_rfl),rfl,by decide,by decide⟩
def numC (nb:Bool) (g o n c k:Nat):List Value:=[.bool nb,.slice (some ⟨g,o,none⟩) n c,.int .i64 (k:Nat)]
abbrev numA (nb:Bool) (g o n c k:Nat):Value := .agg #[.bool nb,.slice (some ⟨g,o,none⟩) n c,.int .i64 (k:Nat)]
abbrev stF (b:Nat) (st:Value) (k:Nat):Prop:=k=b\/rowF st k
section
variable {b:Nat} {x0 x1 x2 st v:Value} {l:Wd} {w w':World}
theorem OutAt.stk (h:OutAt b x0 x1 x2 st v l w) (st':Value):OutAt b x0 x1 x2 st' v l (w.setCell ⟨b,5,none⟩ st'):=by
 obtain ⟨p,h1,h2,h3,h4,h5⟩:=h;exact ⟨p,h1,by simp [World.setCell,Array.getElem?_modify,h2],own_set h3 (fun e=>h4 e.symm) _,h4,h5⟩
theorem OutAt.c5 (h:OutAt b x0 x1 x2 st v l w):w.cell? ⟨b,5,none⟩=some st:=h.cell.2.2.2.1
theorem OutAt.z (h:OutAt b x0 x1 x2 st v l w) (j:Nat):w.frozen? ⟨b,j,none⟩=false:=h.cell.2.2.2.2 j
def PushQ (b:Nat) (x0 x1 x2 st v:Value) (l:Wd) (n:Nat) (cs:List Value) (w w':World):Prop :=
 ∃ st',OutAt b x0 x1 x2 st' v l w'/\w'.ownsRow 0 272 6 st' n cs/\st'.ownBlock≠some b/\(∀ g,rowF v g->¬rowF st' g)/\Fr (stF b st) (stF b st') w w'
set_option maxHeartbeats 4000000 in
theorem push_any (h:OutAt b x0 x1 x2 st v l w) {n:Nat} {cs:List Value} (hst:w.ownsRow 0 272 6 st n cs) (hsb:st.ownBlock≠some b) (hsv:∀ g,rowF v g->¬rowF st g) (hn:n<=1000000) (nb zb:Bool) (g o m c k g' o' m' c' k':Nat) :
  Calls Tryz.prog 130 #[.pointer (some ⟨b,5,none⟩),.agg #[.bool nb,.slice (some ⟨g,o,none⟩) m c,.int .i64 (k:Nat),.bool zb,.slice (some ⟨g',o',none⟩) m' c',.int .i64 (k':Nat)]] w fun e w'=>e = .returned (.tuple #[])/\PushQ b x0 x1 x2 st v l (n+1) (cs++(numC nb g o m c k++numC zb g' o' m' c' k')) w w':=by
 have HH:=Lib.hid h;have hlt:=h.lt;obtain ⟨W,hW⟩:∃ W,w.alloc (.cells #[.bool nb,.slice (some ⟨g,o,none⟩) m c,.int .i64 (k:Nat),.bool zb,.slice (some ⟨g',o',none⟩) m' c',.int .i64 (k':Nat)] 272)=W:=⟨_,rfl⟩;have hb:Below w.heap.size w W:=by rw [←hW];exact (Below.refl _ _).alloc (Nat.le_refl _) _
 have hfW:Fr noF noF w W:=Fr.of hb;have hWs:W.heap.size=w.heap.size+1:=by rw [←hW];simp
 have hOW:=h.fr hfW id (fun _ _ q=>q);have c5:=hOW.c5;have hc:∀ j,W.cell? ⟨w.heap.size,j,none⟩=(#[Value.bool nb,.slice (some ⟨g,o,none⟩) m c,.int .i64 (k:Nat),.bool zb,.slice (some ⟨g',o',none⟩) m' c',.int .i64 (k':Nat)]:Array Value)[j]? := fun j=>by rw [←hW];exact cell_made _ _ _ _ _
 have e0:=hc 0;have e1:=hc 1;have e2:=hc 2;have e3:=hc 3;have e4:=hc 4;have e5:=hc 5;simp only [List.getElem?_toArray,List.getElem?_cons_zero,List.getElem?_cons_succ] at e0 e1 e2 e3 e4 e5;obtain ⟨B,hB⟩:∃ B,w.heap.size=B:=⟨_,rfl⟩;rw [hB] at e0 e1 e2 e3 e4 e5 hWs hlt;have hoW:=hfW.own hst (fun _ _ q=>q);obtain ⟨sa,sc,rfl⟩:=own_slice hst;have HO:=Lib.hid hoW;have HFW:=Lib.hid hfW;have HOW:=Lib.hid hOW;have HSV:=Lib.hid hsv;have HSB:=Lib.hid hsb;have HST:=Lib.hid hst;clear h hb hfW hOW hc hst hsv hsb hoW;go_enter Tryz.func130,Tryz.ntmps130
 go_wp2_with fail
 try rw [hB]
 have HWE:=Lib.hid hW;have HBE:=Lib.hid hB;have HWS:=Lib.hid hWs;clear hW hB hWs;refine rk (fun W':World=>W'.cell? ⟨b,5,none⟩=some (.slice sa n sc)/\W'.cell? ⟨B,0,none⟩=some (.bool nb)/\W'.cell? ⟨B,1,none⟩=some (.slice (some ⟨g,o,none⟩) m c)/\W'.cell? ⟨B,2,none⟩=some (.int .i64 (k:Nat))/\W'.cell? ⟨B,3,none⟩=some (.bool zb)/\W'.cell? ⟨B,4,none⟩=some (.slice (some ⟨g',o',none⟩) m' c')/\W'.cell? ⟨B,5,none⟩=some (.int .i64 (k':Nat))) 10 [0,1,2,3,4,5] 5 ⟨c5,e0,e1,e2,e3,e4,e5⟩ ?_;(iterate 6 (refine ty ?_;try simp only [pl]))
 refine takes_nil ?_;refine wpAnyK_only 6 (by kernel_rfl) rfl (fun J hJ=>?_);go_simp
 refine hJ.out _ _ ⟨cell_al c5 _,cell_al e0 _,cell_al e1 _,cell_al e2 _,cell_al e3 _,cell_al e4 _,cell_al e5 _⟩ fun _=>?_
 clear hJ J;refine wpAnyK_only 7 (by kernel_rfl) rfl (fun J hJ=>?_);rw [if_pos (by rfl)];change Oper.wp _ _ _ (W.drew.alloc (.cells [_,_,_,_,_,_].toArray _)) _ _
 refine app_newo elem_ent [_,_,_,_,_,_] 1 (by exact HO.out) (by omega) ?_;intro v2 w2 ho2 hf2;have hf2:=hf2.und;have nb':¬rowF (.slice sa n sc) b:=fun e=>HSB.out e
 have nB:¬rowF (.slice sa n sc) B:=fun e=>by have:=own_in HST.out e;have:=HBE.out;omega
 have f0:=hf2.cell c5 nb';have f1:=hf2.cell e0 nB;have f2:=hf2.cell e1 nB;have f3:=hf2.cell e2 nB;have f4:=hf2.cell e3 nB;have f5:=hf2.cell e4 nB;have f6:=hf2.cell e5 nB;have z2:w2.frozen? ⟨b,5,none⟩=false:=(hf2.frozen (World.block_lt_of_cell? _ _ c5) nb').trans (HOW.out.z 5);have nb2:v2.ownBlock≠some b:=fun e=>(hf2.fp b e).elim nb' (fun q=>by have:=HWS.out;omega)
 have hO2:OutAt b x0 x1 x2 v2 v l (w2.setCell ⟨b,5,none⟩ v2):=(HOW.out.fr hf2 nb' (fun g hg=>HSV.out g hg)).stk v2;have hfin:Fr (stF b (.slice sa n sc)) (stF b v2) w (w2.setCell ⟨b,5,none⟩ v2):=by
  have h1:Fr (stF b (.slice sa n sc)) (stF b (.slice sa n sc)) w w2:=(HFW.out.wide (G:=stF b (.slice sa n sc)) (fun _ q=>q.elim)).trans (hf2.wide (fun k hk => .inr hk));refine (h1.set (a:=⟨b,5,none⟩) v2 (.inl (.inl rfl))).tg (fun k hk=>?_);rcases hk with rfl | hk
  ·exact .inl (.inl rfl)
  ·exact (hf2.fp k hk).elim (fun q => .inl (.inr q)) (fun q => .inr (by have:=HFW.out.size;omega))
 have HQ:=Lib.hid (show PushQ b x0 x1 x2 (.slice sa n sc) v l (n+1) (cs++(numC nb g o m c k++numC zb g' o' m' c' k')) w (w2.setCell ⟨b,5,none⟩ v2) from
  ⟨v2,hO2,own_set ho2 (fun e=>nb2 e.symm) _,nb2,fun g hg e=>(hf2.fp g e).elim (HSV.out g hg) (fun q=>by have:=own_in HOW.out.row hg;omega),hfin⟩)
 obtain ⟨a2,cc2,rfl⟩:=own_slice ho2;clear ho2 hf2 hO2 hfin nb2;go_simp
 refine hJ.out _ _ ⟨f0,f1,f2,f3,f4,f5,f6⟩ fun _=>?_
 clear hJ J;refine wpAnyK_more [8,9] 1 rfl (by intro _ _ d _ _ h;cases d<;>exact h) (by kernel_rfl) (by kernel_rfl) ⟨f0,f1,f2,f3,f4,f5,f6⟩ ?_;(iterate 2 (refine ty ?_;try simp only [pl]))
 refine takes_nil ?_;refine wpAnyK_last 10 (by kernel_rfl) (by kernel_rfl) rfl (fun J hJ=>?_);go_simp
 refine hJ.out _ _ ?_;clear hJ J;refine wpAnyK_done (by kernel_rfl) ?_ _;go_wp2
 go_end0
 exact ⟨rfl,HQ.out⟩
theorem own_less {base e size g n c:Nat} {w:World} {xs:List Value} (h:w.ownsRow base e size (.slice (some ⟨g,0,none⟩) (n+1) c) (n+1) xs):w.ownsRow base e size (.slice (some ⟨g,0,none⟩) n c) n (xs.take (n*size)):=by
 rcases h with ⟨h1,h2⟩;rcases h2 with ⟨hv,_⟩ | ⟨g2,cap2,cur,hv,k1,k2,k3,k4,k5,k6⟩
 ·cases hv
 ·cases hv;refine ⟨by rw [List.length_take,h1,Nat.succ_mul];omega,.inr ⟨g,c,cur,rfl,k1,k2,by omega,k4,k5,?_⟩⟩;rw [←k6,List.take_take,Nat.min_eq_left (Nat.mul_le_mul_right _ (by omega))]
set_option maxHeartbeats 4000000 in
theorem pop_any (h:OutAt b x0 x1 x2 st v l w) {n:Nat} {cs tp:List Value} (hst:w.ownsRow 0 272 6 st (n+1) (cs++tp)) (hcs:cs.length=n*6) (hsb:st.ownBlock≠some b) (hsv:∀ g,rowF v g->¬rowF st g) (hn:n<=1000000) :
  Calls Tryz.prog 132 #[.pointer (some ⟨b,5,none⟩)] w fun e w'=>e = .returned (.tuple #[])/\PushQ b x0 x1 x2 st v l n cs w w':=by
 obtain ⟨g,c,rfl,-,hgl,-⟩:=own_some hst (by omega);have c5:=h.c5;have z5:=h.z 5;have ho:=own_less hst;rw [←hcs,List.take_left] at ho;have hcap:n+1<=c:=by
  rcases hst.2 with ⟨hv,_⟩ | ⟨g2,cap2,cur,hv,_,_,hh,_⟩
  ·cases hv
  ·cases hv;exact hh
 have hbg:b≠g:=fun e=>hsb (by simp [Value.ownBlock,e])
 have HQ:=Lib.hid (show PushQ b x0 x1 x2 (.slice (some ⟨g,0,none⟩) (n+1) c) v l n cs w (w.setCell ⟨b,5,none⟩ (.slice (some ⟨g,0,none⟩) n c)) from
  ⟨_,h.stk _,own_set ho (by simpa [Value.ownBlock] using hbg) _,by simpa [Value.ownBlock] using Ne.symm hbg,hsv,(Fr.refl _ _).set (a:=⟨b,5,none⟩) _ (.inl (.inl rfl))⟩)
 have k1:((n:Int)+1) - 1=(n:Int):=by omega
 have kw:IntKind.i64.wrap (n:Int)=(n:Int):=by rw [IntKind.wrap_i64];omega
 have k2:n<=c:=by omega
 have k3:(n:Int)<=(c:Int):=by omega
 clear h hst ho hsb hsv hcap hcs hgl;go_enter Tryz.func132,Tryz.ntmps132
 go_wp2_with fail
 refine rk (fun W':World=>W'.cell? ⟨b,5,none⟩=some (.slice (some ⟨g,0,none⟩) (n+1) c)) 14 (List.range 14) 1 c5 ?_;(iterate 14 (refine ty ?_;try simp only [pl]))
 refine takes_nil ?_;refine wpAnyK_last 14 (by kernel_rfl) (by kernel_rfl) rfl (fun J hJ=>?_);go_simp
 refine hJ.out _ _ ?_;clear hJ J;refine wpAnyK_done (by kernel_rfl) ?_ _;go_wp2
 go_end0
 obtain ⟨st',a1,a2,a3,a4,a5⟩:=HQ.out;exact ⟨rfl,st',a1,a2,a3,a4,a5.drew⟩
set_option maxHeartbeats 4000000 in
theorem top_any (h:OutAt b x0 x1 x2 st v l w) {n:Nat} {cs:List Value} (nb zb:Bool) (g o m c k g' o' m' c' k':Nat) (hst:w.ownsRow 0 272 6 st (n+1) (cs++(numC nb g o m c k++numC zb g' o' m' c' k'))) (hcs:cs.length=n*6) (hn:n<=1000000) :
  Calls Tryz.prog 133 #[.pointer (some ⟨b,5,none⟩)] w fun e w' =>
   e = .returned (.agg #[.bool nb,.slice (some ⟨g,o,none⟩) m c,.int .i64 (k:Nat),.bool zb,.slice (some ⟨g',o',none⟩) m' c',.int .i64 (k':Nat)])/\Below w.heap.size w w':=by
 obtain ⟨q,cp,rfl,-,hql,hc⟩:=own_some hst (by omega);have c5:=cell_al h.c5 (.cells #[.bool false,.slice none 0 0,.int .i64 0,.bool false,.slice none 0 0,.int .i64 0] 272);have cc:∀ j,j<6->(w.alloc (.cells #[.bool false,.slice none 0 0,.int .i64 0,.bool false,.slice none 0 0,.int .i64 0] 272)).cell? ⟨q,n*6+j,none⟩=(numC nb g o m c k++numC zb g' o' m' c' k')[j]? := fun j hj=>by
  rw [World.cell?_alloc_lt _ _ _ hql,hc _ (by omega),List.getElem?_append_right (by omega),hcs,Nat.add_sub_cancel_left]
 have e0:=cc 0 (by omega);have e1:=cc 1 (by omega);have e2:=cc 2 (by omega);have e3:=cc 3 (by omega);have e4:=cc 4 (by omega);have e5:=cc 5 (by omega);simp only [numC,List.cons_append,List.nil_append,List.getElem?_cons_zero,List.getElem?_cons_succ,Nat.add_zero] at e0 e1 e2 e3 e4 e5;have k1:((n:Int)+1) - 1=(n:Int):=by omega
 have kw:IntKind.i64.wrap (n:Int)=(n:Int):=by rw [IntKind.wrap_i64];omega
 have k2:(n:Int)<(n:Int)+1:=by omega
 obtain ⟨W,hW⟩:∃ W,w.alloc (.cells #[.bool false,.slice none 0 0,.int .i64 0,.bool false,.slice none 0 0,.int .i64 0] 272)=W:=⟨_,rfl⟩;rw [hW] at c5 e0 e1 e2 e3 e4 e5;have hb:Below w.heap.size w W:=by rw [←hW];exact (Below.refl _ _).alloc (Nat.le_refl _) _
 have hr:∀ j,W.cell? ⟨w.heap.size,j,none⟩=(#[Value.bool false,.slice none 0 0,.int .i64 0,.bool false,.slice none 0 0,.int .i64 0]:Array Value)[j]? := fun j=>by rw [←hW];exact cell_made _ _ _ _ _
 have hz:∀ j,W.frozen? ⟨w.heap.size,j,none⟩=false:=fun j=>by rw [←hW];simp
 clear h hst hc cc hcs;go_enter Tryz.func133,Tryz.ntmps133
 go_wp2_with fail
 try rw [hW]
 obtain ⟨B,hB⟩:∃ B,w.heap.size=B:=⟨_,rfl⟩;rw [hB] at hr hz hb ⊢;have r0:=hr 0;have r1:=hr 1;have r2:=hr 2;have r3:=hr 3;have r4:=hr 4;have r5:=hr 5;simp only [List.getElem?_toArray,List.getElem?_cons_zero,List.getElem?_cons_succ] at r0 r1 r2 r3 r4 r5;clear hr hW;refine rk (fun W':World=>W'.cell? ⟨b,5,none⟩=some (.slice (some ⟨q,0,none⟩) (n+1) cp)/\W'.cell? ⟨q,n*6,none⟩=some (.bool nb)/\W'.cell? ⟨q,n*6+1,none⟩=some (.slice (some ⟨g,o,none⟩) m c)/\W'.cell? ⟨q,n*6+2,none⟩=some (.int .i64 (k:Nat))/\W'.cell? ⟨q,n*6+3,none⟩=some (.bool zb)/\W'.cell? ⟨q,n*6+4,none⟩=some (.slice (some ⟨g',o',none⟩) m' c')/\W'.cell? ⟨q,n*6+5,none⟩=some (.int .i64 (k':Nat))) 12 (List.range 12) 1 ⟨c5,e0,e1,e2,e3,e4,e5⟩ ?_;(iterate 12 (refine ty ?_;try simp only [pl]))
 refine takes_nil ?_;refine wpAnyK_last 12 (by kernel_rfl) (by kernel_rfl) rfl (fun J hJ=>?_);go_simp
 refine hJ.out _ _ ?_;clear hJ J;refine wpAnyK_done (by kernel_rfl) ?_ _;go_wp2
 refine bodyPost_ret (v := .agg #[.bool nb,.slice (some ⟨g,o,none⟩) m c,.int .i64 (k:Nat),.bool zb,.slice (some ⟨g',o',none⟩) m' c',.int .i64 (k':Nat)]) ?_ rfl ?_
 ·simp [results,Tryz.results133,go_sem,r0,r1,r2,r3,r4,r5]
 ·refine ⟨rfl,?_⟩;rw [hB];(repeat (first | (with_reducible exact hb) | (with_reducible refine Below.drew ?_) | (with_reducible refine Below.setCell ?_ ?_ _;rotate_left;focus (exact Nat.le_refl _))))
end
def GetR (o:GetO) (e:Ending):Prop :=
 match o with
 | .no=>∃ t b,e = .returned (.tuple #[.agg #[strv t,.bool b],.bool false])
 | .val t num=>t.length<=1000000/\e = .returned (.tuple #[.agg #[strv t,.bool num],.bool true])
 | .boom=>False
section
variable {τ:Type}
def GetQ (E:EnvF τ) (F S:τ->Nat->Prop) (Inv:τ->World->Prop) (n:Wd) (s:τ) (w:World) (e:Ending) (w':World):Prop :=
 GetR (E.get n s).1 e/\Inv (E.get n s).2 w'/\Fr (F s) (F (E.get n s).2) w w'/\∀ k,S (E.get n s).2 k->S s k\/w.heap.size<=k
structure GetM (gv:Value) (E:EnvF τ) (F S:τ->Nat->Prop) (Inv:τ->World->Prop):Prop where
 call:∃ K cp,gv = .func (.func K) #[] cp/\(∀ args w,(callFunc K args).run Tryz.prog w = .ok (.enter K args) w)/\∀ W s n,Inv s W->n.length<=5000000->Calls Tryz.prog K (#[strv n]++cp) W (GetQ E F S Inv n s W)
 sub:∀ s k,F s k->S s k
 supp:∀ s W k,Inv s W->S s k->k<W.heap.size
 keep:∀ s W W',Inv s W->W.heap.size<=W'.heap.size->(∀ k,S s k->W'.heap[k]? = W.heap[k]?)->Inv s W'
theorem GetM.fr {gv:Value} {E:EnvF τ} {F S:τ->Nat->Prop} {Inv:τ->World->Prop} (h:GetM gv E F S Inv) {s:τ} {w w':World} {D D':Nat->Prop} (hi:Inv s w) (hf:Fr D D' w w') (hd:∀ k,D k->¬S s k):Inv s w' :=
 h.keep s w w' hi hf.size (fun k hk=>hf.keep k (h.supp s w k hi hk) (fun q=>hd k q hk))
theorem asked_idle (A:Nat) (w:World) (hA:w.cell? ⟨A,0,none⟩=some (.bool true)):CallsD Tryz.prog 207 #[.pointer (some ⟨A,0,none⟩)] .returning w fun e u' w'=>e = .returned (.tuple #[])/\u' = .returning/\w'=w:=by
 refine callsD_of_wpS Tryz.func207 rfl fun c₀ cs hu=>?_
 apply wpS_seq;apply wpS_region;simp [wpOpsS,go_sem,hu,hA,Tryz.ntmps207,Exit.thenS];refine wpS_of_wp ?_;go_wp2
 cases c₀;simp_all [bodyPostS,results,Tryz.results207]
set_option maxHeartbeats 4000000 in
theorem ask_any {gv:Value} {E:EnvF τ} {F S:τ->Nat->Prop} {Inv:τ->World->Prop} (hg:GetM gv E F S Inv) (b:Nat) (n:Wd) (s:τ) (w:World) (c2:w.cell? ⟨b,2,none⟩=some gv) (hi:Inv s w) (hn:n.length<=5000000) :
  Calls Tryz.prog 165 #[.pointer (some ⟨b,0,none⟩),strv n] w (GetQ E F S Inv n s w):=by
 obtain ⟨K,cp,rfl,hent,hcall⟩:=hg.call;have hmf:∀ (fn:Fn) (first cap:Array Value) (w:World),(Instr.makeFunc fn first cap).run Tryz.prog w = .ok (.func fn first cap) w:=fun _ _ _ _=>rfl
 obtain ⟨A,hA⟩:∃ A,w.heap.size=A:=⟨_,rfl⟩;obtain ⟨V,hV⟩:∃ V,((w.alloc (.cells #[.string ⟨#[]⟩,.bool false] 86)).alloc (.cells #[.bool false] 4))=V:=⟨_,rfl⟩;obtain ⟨W,hW⟩:∃ W,V.setCell ⟨A+1,0,none⟩ (.bool false)=W:=⟨_,rfl⟩;have s1:(w.alloc (.cells #[.string ⟨#[]⟩,.bool false] 86)).heap.size=A+1:=by simp [hA]
 have hfW:Fr noF noF w W:=by
  rw [←hW,←hV];exact (((Fr.refl _ _).alloc _).alloc _).set _ (.inr (by rw [hA];exact Nat.le_succ _))
 have c2W:=hfW.cell c2 id;have hsW:W.heap.size=A+2:=by rw [←hW,←hV];simp [hA,World.setCell]
 have v0:V.cell? ⟨A,0,none⟩=some (.string ⟨#[]⟩):=by rw [←hV,World.cell?_alloc_lt _ _ _ (by show A<_;omega),←hA];exact cell_made _ _ _ _ _
 have v1:V.cell? ⟨A,1,none⟩=some (.bool false):=by rw [←hV,World.cell?_alloc_lt _ _ _ (by show A<_;omega),←hA];exact cell_made _ _ _ _ _
 have v2:V.cell? ⟨A+1,0,none⟩=some (.bool false):=by rw [←hV,←s1];exact cell_made _ _ _ _ _
 have y0:∀ j,V.frozen? ⟨A,j,none⟩=false:=fun j=>by rw [←hV,World.frozen?_of_block (Below.heap_alloc _ _ _ (by show A<_;omega)),←hA];simp
 have y2:∀ j,V.frozen? ⟨A+1,j,none⟩=false:=fun j=>by rw [←hV,←s1];simp
 have a0:W.cell? ⟨A,0,none⟩=some (.string ⟨#[]⟩):=by rw [←hW];exact cell_set v0 _ (by show A+1≠A;omega)
 have a1:W.cell? ⟨A,1,none⟩=some (.bool false):=by rw [←hW];exact cell_set v1 _ (by show A+1≠A;omega)
 have a2:W.cell? ⟨A+1,0,none⟩=some (.bool false):=by rw [←hW];exact cell_put v2 _
 have z0:∀ j,W.frozen? ⟨A,j,none⟩=false:=fun j=>by rw [←hW,World.frozen?_setCell];exact y0 j
 have z2:∀ j,W.frozen? ⟨A+1,j,none⟩=false:=fun j=>by rw [←hW,World.frozen?_setCell];exact y2 j
 have c2V:V.cell? ⟨b,2,none⟩=some (.func (.func K) #[] cp):=by
  have:Fr noF noF w V:=by rw [←hV];exact ((Fr.refl _ _).alloc _).alloc _
  exact this.cell c2 id
 have hsV:V.heap.size=A+2:=by rw [←hV];simp [hA]
 have hiW:=hg.fr hi hfW (fun _ q=>q.elim);have HC:=Lib.hid (hcall W s n hiW hn);have HFW:=Lib.hid hfW;have HG:=Lib.hid hg;have HSU:=Lib.hid (fun k (hk:S s k)=>hg.supp s w k hi hk);have HSB:=Lib.hid hg.sub;have HA:=Lib.hid hA;have HSW:=Lib.hid hsW;clear hfW hcall hiW c2 hi hg s1 hsW;go_enter_defers Tryz.func165,Tryz.ntmps165
 go_wp2_with fail
 try rw [hW]
 clear hW hV v0 v1 v2 y0 y2 hsV c2V hA;refine HC.out.mono ?_;rintro e w1 ⟨hr,hi1,hf1,hs1⟩;have hAS:∀ k,A<=k->¬S s k:=fun k hk q=>by have:=HSU.out k q;have:=HA.out;omega
 have nA:¬F s A:=fun q=>hAS A (Nat.le_refl _) (HSB.out _ _ q)
 have nA1:¬F s (A+1):=fun q=>hAS (A+1) (by omega) (HSB.out _ _ q)
 have b0:=hf1.cell a0 nA;have b1:=hf1.cell a1 nA;have b2:=hf1.cell a2 nA1;have k0:∀ j,w1.frozen? ⟨A,j,none⟩=false:=fun j=>(hf1.frozen (a:=⟨A,j,none⟩) (by show A<_;have:=HSW.out;omega) nA).trans (z0 j)
 have k2:∀ j,w1.frozen? ⟨A+1,j,none⟩=false:=fun j=>(hf1.frozen (a:=⟨A+1,j,none⟩) (by show A+1<_;have:=HSW.out;omega) nA1).trans (z2 j)
 obtain ⟨t,bb,ok,rfl⟩:∃ t bb ok,e = .returned (.tuple #[.agg #[strv t,.bool bb],.bool ok]):=by
  unfold GetR at hr;split at hr
  ·obtain ⟨t,b,h⟩:=hr;exact ⟨t,b,_,h⟩
  ·exact ⟨_,_,_,hr.2⟩
  ·exact hr.elim
 have HR:=Lib.hid hr;have HI:=Lib.hid (And.intro hi1 (And.intro hf1 hs1));have HAS:=Lib.hid hAS;clear hr hi1 hf1 hs1 hAS nA nA1 a0 a1 a2 z0 z2 HC;go_wp2_with fail
 obtain ⟨X,hX⟩:∃ X,(((((w1.setCell ⟨A,0,none⟩ (strv t)).setCell ⟨A,1,none⟩ (.bool bb)).setCell ⟨A+1,0,none⟩ (.bool true)).setCell ⟨A,0,none⟩ (strv t)).setCell ⟨A,1,none⟩ (.bool bb))=X:=⟨_,rfl⟩;rw [hX];have n01:(⟨A,0,none⟩:Addr)≠⟨A,1,none⟩:=by simp
 have e2:X.cell? ⟨A+1,0,none⟩=some (.bool true):=by
  rw [←hX];exact cell_set (cell_set (cell_put (cell_set (cell_set b2 _ (by simp)) _ (by simp)) _) _ (by simp)) _ (by simp)
 have e0:X.cell? ⟨A,0,none⟩=some (strv t):=by
  rw [←hX,cellSet,if_neg (by simp)];refine cell_put (v:=strv t) ?_ _;refine cell_set ?_ _ (by simp);rw [cellSet,if_neg (by simp)];exact cell_put b0 _
 have e1:X.cell? ⟨A,1,none⟩=some (.bool bb):=by
  rw [←hX];refine cell_put (v := .bool bb) ?_ _;rw [cellSet,if_neg (by simp)];refine cell_set ?_ _ (by simp);refine cell_put (v := .bool false) ?_ _;rw [cellSet,if_neg (by simp)];exact b1
 have hXf:Fr (fun k=>k=A\/k=A+1) (fun k=>k=A\/k=A+1) w1 X:=by
  rw [←hX];exact (((((Fr.refl _ _).set _ (.inl (.inl rfl))).set _ (.inl (.inl rfl))).set _ (.inl (.inr rfl))).set _ (.inl (.inl rfl))).set _ (.inl (.inl rfl))
 clear hX;refine leaves_cons (f:=207) (args:=#[.pointer (some ⟨A+1,0,none⟩)]) (by simp) (by simp [go_sem]) ?_;refine (asked_idle (A+1) _ e2).mono ?_;rintro e u' w'' ⟨rfl,rfl,rfl⟩;simp [Leaves,settle,results,Tryz.results165,go_sem,e0,e1];obtain ⟨hi1,hf1,hs1⟩:=HI.out;have hsS:∀ k,(k=A\/k=A+1)->¬S (E.get n s).2 k:=by
  intro k hk q;rcases hs1 k q with q | q
  ·exact HAS.out k (by omega) q
  ·have:=HSW.out;omega
 refine ⟨HR.out,HG.out.fr hi1 hXf hsS,?_,fun k hk=>(hs1 k hk).imp id (fun q=>by have:=HSW.out;have:=HA.out;omega)⟩;have h1:Fr (F s) (F (E.get n s).2) w w1:=((HFW.out.wide (G:=F s) (fun _ q=>q.elim)).trans hf1);exact ⟨hXf.os.trans h1.os,hXf.tape.trans h1.tape,hXf.output.trans h1.output,Nat.le_trans h1.size hXf.size,fun k hk hn=>(hXf.keep k (Nat.lt_of_lt_of_le hk h1.size) (fun q=>by have:=HA.out;omega)).trans (h1.keep k hk hn),h1.fp⟩
end
set_option maxHeartbeats 2000000 in
theorem valid_any (t:Wd) (num:Bool) (w:World) (ht:t.length<=1000000) :
  Calls Tryz.prog 84 #[.agg #[strv t,.bool num]] w fun e w'=>e = .returned (.bool (validL t num))/\Below w.heap.size w w':=by
 have hb:∀ ob,Below w.heap.size w (w.alloc ob):=fun ob=>(Below.refl _ _).alloc (Nat.le_refl _) _
 have hsz:(⟨t.toArray⟩:ByteArray).size=t.length:=size_mk _
 cases num
 ·have k1:((t.length:Int)<=60)=(t.length<=60):=by simp only [eq_iff_iff];omega
  have HS:=Lib.hid (show validL t false=decide (t.length<=60) from rfl);have HB:=Lib.hid (hb (.cells #[strv t,.bool false] 86));clear hb;go_enter Tryz.func84,Tryz.ntmps84
  go_wp2
  go_ret
  rw [HS.out];exact ⟨by simp,HB.out⟩
 ·have HS:=Lib.hid (show validL t true=isNumL t from rfl);have HP:=fun ob=>Lib.hid (parse_any ⟨t.toArray⟩ (w.alloc ob) (by rw [hsz];exact ht))
  go_enter Tryz.func84,Tryz.ntmps84
  go_wp2_with fail
  refine (HP _).out.mono ?_;rintro e w1 ⟨b,v,k,rfl,⟨va,vn,vk,rfl⟩,hb1,-⟩;have HB:=Lib.hid ((hb _).trans (hb1.mono (by simp)));clear hb hb1 HP;go_wp2
  go_ret
  rw [HS.out];exact ⟨rfl,HB.out.alloc HB.out.size _⟩
structure ConM (b q j:Nat) (n:Wd) (w:World):Prop where
 b0:w.cell? ⟨b,0,none⟩=some (.pointer (some ⟨q,0,none⟩))
 c:∃ C m cc,w.cell? ⟨q,0,none⟩=some (.slice (some ⟨C,0,none⟩) m cc)/\w.cell? ⟨C,j,none⟩=some (strv n)/\j<m/\m<=1000000
theorem ConM.fr {b q j:Nat} {n:Wd} {w w':World} {D D':Nat->Prop} (h:ConM b q j n w) (hf:Fr D D' w w') (hd:∀ k,¬D k):ConM b q j n w':=by
 obtain ⟨b0,C,m,cc,h1,h2,h3⟩:=h;exact ⟨hf.cell b0 (hd _),C,m,cc,hf.cell h1 (hd _),hf.cell h2 (hd _),h3⟩
def PanE (n:Nat) (e:Ending):Prop:=∃ older:List PanicEntry,e = .panicked ({ v:=errnoV n,recovered:=false }::older)/\older.dropWhile (!·.goexit)=[]
section
variable {τ:Type}
def AskQ {α:Type} (F S:τ->Nat->Prop) (Inv:τ->World->Prop) (s:τ) (w:World) (ok:α->τ->World->Ending->Prop) (r:Except (Nat×τ) (α×τ)) (e:Ending) (w':World):Prop :=
 match r with
 | .ok (a,s')=>ok a s' w' e/\Inv s' w'/\Fr (F s) (F s') w w'/\∀ k,S s' k->S s k\/w.heap.size<=k
 | .error (n,s')=>PanE n e/\Inv s' w'/\Fr (F s) (F s') w w'/\∀ k,S s' k->S s k\/w.heap.size<=k
theorem AskQ.more {gv:Value} {E:EnvF τ} {F S:τ->Nat->Prop} {Inv:τ->World->Prop} (hg:GetM gv E F S Inv) {s s':τ} {w w1 w2:World} {D D':Nat->Prop} (h:Inv s' w1/\Fr (F s) (F s') w w1/\∀ k,S s' k->S s k\/w.heap.size<=k) (hf:Fr D D' w1 w2) (hd:∀ k,D k->¬S s' k/\w.heap.size<=k):Inv s' w2/\Fr (F s) (F s') w w2/\∀ k,S s' k->S s k\/w.heap.size<=k :=
 ⟨hg.fr h.1 hf (fun k q=>(hd k q).1),⟨hf.os.trans h.2.1.os,hf.tape.trans h.2.1.tape,hf.output.trans h.2.1.output,Nat.le_trans h.2.1.size hf.size,fun k hk hn=>(hf.keep k (Nat.lt_of_lt_of_le hk h.2.1.size) (fun q=>by have:=(hd k q).2;omega)).trans (h.2.1.keep k hk hn),h.2.1.fp⟩,h.2.2⟩
def ArgP (a:Wd×Bool) (_:τ) (_:World) (e:Ending):Prop:=a.1.length<=1000000/\e = .returned (.agg #[strv a.1,.bool a.2])
set_option maxHeartbeats 4000000 in
theorem arg_any {gv:Value} {E:EnvF τ} {F S:τ->Nat->Prop} {Inv:τ->World->Prop} (hg:GetM gv E F S Inv) (b q j:Nat) (n:Wd) (s:τ) (w:World) (c2:w.cell? ⟨b,2,none⟩=some gv) (hc:ConM b q j n w) (hi:Inv s w) (hn:n.length<=5000000) :
  Calls Tryz.prog 127 #[.pointer (some ⟨b,0,none⟩),.int .i64 (j:Nat)] w (AskQ F S Inv s w ArgP (argF E n s)):=by
 obtain ⟨W,hW⟩:∃ W,w.alloc (.cells #[.string ⟨#[]⟩,.bool false] 86)=W:=⟨_,rfl⟩;have hfW:Fr noF noF w W:=by rw [←hW];exact (Fr.refl _ _).alloc _
 obtain ⟨A,hA⟩:∃ A,w.heap.size=A:=⟨_,rfl⟩;have a0:W.cell? ⟨A,0,none⟩=some (.string ⟨#[]⟩):=by rw [←hW,←hA];exact cell_made _ _ _ _ _
 have a1:W.cell? ⟨A,1,none⟩=some (.bool false):=by rw [←hW,←hA];exact cell_made _ _ _ _ _
 have z0:∀ j,W.frozen? ⟨A,j,none⟩=false:=fun j=>by rw [←hW,←hA];simp
 have hsW:W.heap.size=A+1:=by rw [←hW];simp [hA]
 have hASu:∀ k,S s k->k<A:=fun k hk=>by rw [←hA];exact hg.supp s w k hi hk
 have hiW:=hg.fr hi hfW (fun _ q=>q.elim);obtain ⟨b0,C,m,cc,q0,cj,hjm,hm⟩:=hc.fr hfW (fun _ q=>q);have HAK:=Lib.hid (ask_any hg b n s W (hfW.cell c2 id) hiW hn);have k1:(j:Int)<(m:Int):=by omega
 have HFW:=Lib.hid hfW;have HG:=Lib.hid hg;have HSU:=Lib.hid hASu;have HSW:=Lib.hid hsW;clear hfW hiW c2 hc hi hg hASu hsW;go_enter Tryz.func127,Tryz.ntmps127
 go_wp2_with fail
 refine HAK.out.mono ?_;rintro e w1 ⟨hr,hi1,hf1,hs1⟩;have nA:¬F s A:=fun q=>by have:=HSU.out A (HG.out.sub _ _ q);omega
 have b0':=hf1.cell a0 nA;have b1':=hf1.cell a1 nA;have y0:∀ j,w1.frozen? ⟨A,j,none⟩=false:=fun j=>(hf1.frozen (a:=⟨A,j,none⟩) (by show A<_;have:=HSW.out;omega) nA).trans (z0 j)
 obtain ⟨⟨o,s'⟩,ho⟩:∃ p,E.get n s=p:=⟨_,rfl⟩;rw [ho] at hr hi1 hf1 hs1;have hFw:Fr (F s) (F s') w w1:=(HFW.out.wide (G:=F s) (fun _ q=>q.elim)).trans hf1;have hSw:∀ k,S s' k->S s k\/w.heap.size<=k:=fun k hk=>(hs1 k hk).imp id (fun q=>by have:=HFW.out.size;omega)
 have HO:=Lib.hid ho;have HI:=Lib.hid (And.intro hi1 (And.intro hFw hSw));have hAS':¬S s' A:=fun q=>(hs1 A q).elim (fun q=>by have:=HSU.out A q;omega) (fun q=>by have:=HSW.out;omega)
 have HAS:=Lib.hid hAS';clear hi1 hf1 hs1 hFw hSw ho HAK a0 a1 z0 b0 q0 cj nA hAS'
 cases o with
 | boom=>exact hr.elim
 | no =>
  obtain ⟨t,bb,rfl⟩:=hr;have HR:=Lib.hid (show argF E n s = .error (12,s') by unfold argF;rw [HO.out]);go_wp2
  refine ⟨rfl,?_⟩;rw [HR.out];exact ⟨⟨[],rfl,rfl⟩,AskQ.more HG.out HI.out ((Fr.refl noF _).alloc _) (fun _ q=>q.elim)⟩
 | val t num =>
  obtain ⟨ht,rfl⟩:=hr;have HT:=Lib.hid ht;have HV:=fun W=>Lib.hid (valid_any t num W ht)
  go_wp2_with fail
  refine (HV _).out.mono ?_;rintro e w2 ⟨rfl,hb2⟩;have lA:A<w1.heap.size:=World.block_lt_of_cell? w1 _ b0';have hfz:Fr noF noF w1 w2:=((Fr.refl _ _).alloc _).trans (Fr.of hb2);have d0:=hfz.cell b0' id;have d1:=hfz.cell b1' id;have d2:∀ j,w2.frozen? ⟨A,j,none⟩=false:=fun j=>(hfz.frozen (a:=⟨A,j,none⟩) lA id).trans (y0 j)
  have e0:w2.cell? ⟨w1.heap.size,0,none⟩=some (strv t):=(hb2.cell (by simp)).trans (cell_made _ _ _ _ 0);have e1:w2.cell? ⟨w1.heap.size,1,none⟩=some (.bool num):=(hb2.cell (by simp)).trans (cell_made _ _ _ _ 1);have HFZ:=Lib.hid hfz;have hAne:¬(w1.heap.size=A):=fun e=>by omega
  have hAI:=AskQ.more HG.out HI.out hfz (fun _ q=>q.elim);have HAI:=Lib.hid hAI;clear hb2 hfz b0' b1' y0 HV hAI
  cases hvl:validL t num
  ·have HR:=Lib.hid (show argF E n s = .error (11,s') by unfold argF;rw [HO.out];simp only [hvl];rfl);clear hvl;go_wp2
   refine ⟨rfl,?_⟩;rw [HR.out];exact ⟨⟨[],rfl,rfl⟩,HAI.out⟩
  ·have HR:=Lib.hid (show argF E n s = .ok ((t,num),s') by unfold argF;rw [HO.out];simp only [hvl];rfl);clear hvl;go_wp2
   refine bodyPost_ret (v := .agg #[strv t,.bool num]) ?_ rfl ?_
   ·simp [results,Tryz.results127,go_sem,d0,d1]
   ·rw [HR.out];exact ⟨⟨HT.out,rfl⟩,AskQ.more HG.out HAI.out (D:=fun k=>k=A) (((Fr.refl (fun k=>k=A) _).set (a:=⟨A,0,none⟩) _ (.inl rfl)).set (a:=⟨A,1,none⟩) _ (.inl rfl)) (fun k hk=>by subst hk;exact ⟨HAS.out,by omega⟩)⟩
end
theorem num_row {B:Nat} {w:World} {v:Value} {wh fr:Wd} (neg:Bool) (ho:w.ownsRow B 5 1 v (wh.length+fr.length) (digs (wh++fr))) (h1:wh.all isDig=true) (h2:fr.all isDig=true) (h3:0<wh.length) (h4:wh.length+fr.length<=30) :
  NumI (fun k=>k<B) w (.agg #[.bool neg,v,.int .i64 (fr.length:Nat)]) (neg,(wh,fr)):=by
 obtain ⟨g,cap,rfl,hg,-,-⟩:=own_some ho (by omega);have hcp:wh.length+fr.length<=cap/\cap<=maxLen:=by
  rcases ho.2 with ⟨hv,_⟩ | ⟨g2,cap2,cur,hv,_,_,hh,hh2,_⟩
  ·cases hv
  ·cases hv;exact ⟨hh,hh2⟩
 exact ⟨g,0,cap,rfl,hcp.1,hcp.2,by omega,⟨_,own_dig ho (m:=0) (by simp;omega) (by simp)⟩,bytesAt_own ho (by simp),⟨h1,h2,fun e=>by have:=congrArg List.length e;simp at this;simp [this] at h3,by show wh.length<=100;omega,by show fr.length<=100;omega⟩⟩
section
variable {τ:Type}
theorem arg_valid {E:EnvF τ} {n t:Wd} {num:Bool} {s s':τ} (h:argF E n s = .ok ((t,num),s')):validL t num=true:=by
 unfold argF at h;split at h
 ·cases h
 ·cases h
 ·split at h
  ·cases h;assumption
  ·cases h
def NumP (S:τ->Nat->Prop) (w:World) (n:SNum) (s':τ) (w':World) (e:Ending):Prop:=∃ v,e = .returned v/\NumI (fun k=>k<w.heap.size\/S s' k) w' v n/\n.2.1.length+n.2.2.length<=30
def WdP (t:Wd) (_:τ) (_:World) (e:Ending):Prop:=t.length<=1000000/\e = .returned (strv t)
set_option maxHeartbeats 4000000 in
theorem text_any {gv:Value} {E:EnvF τ} {F S:τ->Nat->Prop} {Inv:τ->World->Prop} (hg:GetM gv E F S Inv) (b q j:Nat) (n:Wd) (s:τ) (w:World) (c2:w.cell? ⟨b,2,none⟩=some gv) (hc:ConM b q j n w) (hi:Inv s w) (hn:n.length<=5000000) :
  Calls Tryz.prog 172 #[.pointer (some ⟨b,0,none⟩),.int .i64 (j:Nat)] w (AskQ F S Inv s w WdP (wdF E n s)):=by
 have HA:=Lib.hid (arg_any hg b q j n s w c2 hc hi hn);obtain ⟨r,hr⟩:∃ r,argF E n s=r:=⟨_,rfl⟩;rw [hr] at HA;have HR:=Lib.hid hr;have HG:=Lib.hid hg;clear hg c2 hc hi hr;go_enter Tryz.func172,Tryz.ntmps172
 go_wp2_with fail
 refine HA.out.mono ?_;intro e w1 hq
 cases r with
 | error er =>
  obtain ⟨m,s'⟩:=er;obtain ⟨⟨older,rfl,hold⟩,hI⟩:=hq;have HQ:=Lib.hid (show AskQ F S Inv s w WdP (wdF E n s) (.panicked ({ v:=errnoV m,recovered:=false }::older)) w1 by
   unfold wdF;rw [HR.out];exact ⟨⟨older,rfl,hold⟩,hI⟩)
  clear hold hI HA;go_wp2
  exact ⟨rfl,HQ.out⟩
 | ok p =>
  obtain ⟨⟨t,num⟩,s'⟩:=p;obtain ⟨⟨ht,rfl⟩,hI⟩:=hq;have HI:=Lib.hid hI;have HT:=Lib.hid ht;clear hI HA
  cases num
  ·have HW:=Lib.hid (show wdF E n s = .ok (t,s') by unfold wdF;rw [HR.out];rfl);go_wp2
   go_ret
   rw [HW.out];exact ⟨⟨HT.out,rfl⟩,AskQ.more HG.out HI.out ((Fr.refl noF _).alloc _) (fun _ q=>q.elim)⟩
  ·have HW:=Lib.hid (show wdF E n s = .error (13,s') by unfold wdF;rw [HR.out];rfl);go_wp2
   refine ⟨rfl,?_⟩;rw [HW.out];exact ⟨⟨[],rfl,rfl⟩,AskQ.more HG.out HI.out ((Fr.refl noF _).alloc _) (fun _ q=>q.elim)⟩
set_option maxHeartbeats 4000000 in
theorem numb_any {gv:Value} {E:EnvF τ} {F S:τ->Nat->Prop} {Inv:τ->World->Prop} (hg:GetM gv E F S Inv) (b q j:Nat) (n:Wd) (s:τ) (w:World) (c2:w.cell? ⟨b,2,none⟩=some gv) (hc:ConM b q j n w) (hi:Inv s w) (hn:n.length<=5000000) :
  Calls Tryz.prog 129 #[.pointer (some ⟨b,0,none⟩),.int .i64 (j:Nat)] w (AskQ F S Inv s w (NumP S w) (numF E n s)):=by
 obtain ⟨W,hW⟩:∃ W,w.alloc (.cells #[.bool false,.slice none 0 0,.int .i64 0] 97)=W:=⟨_,rfl⟩;have hfW:Fr noF noF w W:=by rw [←hW];exact (Fr.refl _ _).alloc _
 obtain ⟨A,hA⟩:∃ A,w.heap.size=A:=⟨_,rfl⟩;have hR:ResC W A:=by rw [←hW,←hA];exact ⟨cell_made _ _ _ _ _,cell_made _ _ _ _ _,cell_made _ _ _ _ _,by simp,by simp,by simp,by simp⟩
 have hsW:W.heap.size=A+1:=by rw [←hW];simp [hA]
 have hASu:∀ k,S s k->k<A:=fun k hk=>by rw [←hA];exact hg.supp s w k hi hk
 have hiW:=hg.fr hi hfW (fun _ q=>q.elim);have HAR:=Lib.hid (arg_any hg b q j n s W (hfW.cell c2 id) (hc.fr hfW (fun _ q=>q)) hiW hn);obtain ⟨r,hr⟩:∃ r,argF E n s=r:=⟨_,rfl⟩;rw [hr] at HAR;have HRR:=Lib.hid hr;have HG:=Lib.hid hg;have HFW:=Lib.hid hfW;have HSU:=Lib.hid hASu;have HSW:=Lib.hid hsW;have HR:=Lib.hid hR;clear hg c2 hc hi hr hfW hASu hiW hsW hR;go_enter Tryz.func129,Tryz.ntmps129
 go_wp2_with fail
 refine HAR.out.mono ?_;intro e w1 hq;have conv:∀ {s':τ},(Inv s' w1/\Fr (F s) (F s') W w1/\∀ k,S s' k->S s k\/W.heap.size<=k)->(Inv s' w1/\Fr (F s) (F s') w w1/\∀ k,S s' k->S s k\/w.heap.size<=k):=fun h=>⟨h.1,(HFW.out.wide (G:=F s) (fun _ q=>q.elim)).trans h.2.1,fun k hk=>(h.2.2 k hk).imp id (fun q=>by have:=HFW.out.size;omega)⟩
 cases r with
 | error er =>
  obtain ⟨m,s'⟩:=er;obtain ⟨⟨older,rfl,hold⟩,hI⟩:=hq;have HQ:=Lib.hid (show AskQ F S Inv s w (NumP S w) (numF E n s) (.panicked ({ v:=errnoV m,recovered:=false }::older)) w1 by
   unfold numF;rw [HRR.out];exact ⟨⟨older,rfl,hold⟩,conv hI⟩)
  clear hold hI HAR conv;go_wp2
  exact ⟨rfl,HQ.out⟩
 | ok p =>
  obtain ⟨⟨t,num⟩,s'⟩:=p;obtain ⟨⟨ht,rfl⟩,hI⟩:=hq;have HI:=Lib.hid (conv hI);have nA:¬F s A:=fun q=>by have:=HSU.out A (HG.out.sub _ _ q);omega
  have hSA:¬S s' A:=fun q=>(hI.2.2 A q).elim (fun q=>by have:=HSU.out A q;omega) (fun q=>by have:=HSW.out;omega)
  have hf1:=hI.2.1;have lA:A<W.heap.size:=by have:=HSW.out;omega
  have hR1:ResC w1 A:=⟨hf1.cell HR.out.c0 nA,hf1.cell HR.out.c1 nA,hf1.cell HR.out.c2 nA,(hf1.frozen (a:=⟨A,0,none⟩) lA nA).trans HR.out.z0,(hf1.frozen (a:=⟨A,1,none⟩) lA nA).trans HR.out.z1,(hf1.frozen (a:=⟨A,2,none⟩) lA nA).trans HR.out.z2,Nat.lt_of_lt_of_le lA hf1.size⟩;have HR1:=Lib.hid hR1;have HSA:=Lib.hid hSA;have HT:=Lib.hid ht;clear hI HAR conv hf1 hR1 hSA nA lA
  cases num
  ·have HW:=Lib.hid (show numF E n s = .error (13,s') by unfold numF;rw [HRR.out];rfl);go_wp2
   refine ⟨rfl,?_⟩;rw [HW.out];exact ⟨⟨[],rfl,rfl⟩,AskQ.more HG.out HI.out ((Fr.refl noF _).alloc _) (fun _ q=>q.elim)⟩
  ·have HW:=Lib.hid (show numF E n s = .ok (numOf t,s') by unfold numF;rw [HRR.out];rfl);have hnum:isNumL t=true:=by have:=arg_valid HRR.out;exact this
   have HN:=Lib.hid hnum;have hsz:(⟨t.toArray⟩:ByteArray).size=t.length:=size_mk _;have HP:=fun W=>Lib.hid (parse_any ⟨t.toArray⟩ W (by rw [hsz];exact ht))
   clear hnum;go_wp2_with fail
   refine (HP _).out.mono ?_;rintro e w2 ⟨bb,v,k,rfl,⟨va,vn,vk,rfl⟩,hb2,hres⟩;obtain ⟨rfl,rfl,hown⟩:=hres HN.out;have hfz:Fr noF noF w1 w2:=((Fr.refl _ _).alloc _).trans (Fr.of hb2);have hR2:ResC w2 A:=⟨hfz.cell HR1.out.c0 id,hfz.cell HR1.out.c1 id,hfz.cell HR1.out.c2 id,(hfz.frozen (a:=⟨A,0,none⟩) HR1.out.lt id).trans HR1.out.z0,(hfz.frozen (a:=⟨A,1,none⟩) HR1.out.lt id).trans HR1.out.z1,(hfz.frozen (a:=⟨A,2,none⟩) HR1.out.lt id).trans HR1.out.z2,Nat.lt_of_lt_of_le HR1.out.lt hfz.size⟩;have r0:=hR2.c0;have r1:=hR2.c1;have r2:=hR2.c2;have y0:=hR2.z0;have y1:=hR2.z1;have y2:=hR2.z2;have hAw:A<w2.heap.size:=hR2.lt;have hw1:A<w1.heap.size:=HR1.out.lt;have hB1:(w1.alloc (.cells #[strv t,.bool true] 86)).heap.size=w1.heap.size+1:=by simp
   rw [hB1] at hown;have HO:=Lib.hid hown;have HFZ:=Lib.hid hfz;clear hown hres hb2 hfz hR2 hB1 HP;go_wp2
   obtain ⟨X,hX⟩:∃ X,((w2.setCell ⟨A,0,none⟩ (.bool (negL t))).setCell ⟨A,1,none⟩ (.slice va vn vk)).setCell ⟨A,2,none⟩ (.int .i64 ((fracL t).length:Nat))=X:=⟨_,rfl⟩;have x0:X.cell? ⟨A,0,none⟩=some (.bool (negL t)):=by
    rw [←hX,cellSet,if_neg (by simp),cellSet,if_neg (by simp)];exact cell_put r0 _
   have x1:X.cell? ⟨A,1,none⟩=some (.slice va vn vk):=by
    rw [←hX,cellSet,if_neg (by simp)];refine cell_put (v := .slice none 0 0) ?_ _;rw [cellSet,if_neg (by simp)];exact r1
   have x2:X.cell? ⟨A,2,none⟩=some (.int .i64 ((fracL t).length:Nat)):=by
    rw [←hX];refine cell_put (v := .int .i64 0) ?_ _;rw [cellSet,if_neg (by simp),cellSet,if_neg (by simp)];exact r2
   have hrow:X.ownsRow (w1.heap.size+1) 5 1 (.slice va vn vk) ((wholeL t).length+(fracL t).length) (digs (wholeL t++fracL t)):=by
    rw [←hX];exact own_set (own_set (own_set HO.out (p:=⟨A,0,none⟩) (fun e=>by have:=(HO.out.lt A e.symm).1;omega) _) (p:=⟨A,1,none⟩) (fun e=>by have:=(HO.out.lt A e.symm).1;omega) _) (p:=⟨A,2,none⟩) (fun e=>by have:=(HO.out.lt A e.symm).1;omega) _
   have hfX:Fr (fun k=>k=A) (fun k=>k=A) w1 X:=by
    rw [←hX];exact (((HFZ.out.wide (G:=fun k=>k=A) (fun _ q=>q.elim)).set (a:=⟨A,0,none⟩) _ (.inl rfl)).set (a:=⟨A,1,none⟩) _ (.inl rfl)).set (a:=⟨A,2,none⟩) _ (.inl rfl)
   rw [hX];have f0:=fun ob=>cell_al x0 ob
   have f1:=fun ob=>cell_al x1 ob
   have f2:=fun ob=>cell_al x2 ob
   clear hX;refine bodyPost_ret (v := .agg #[.bool (negL t),.slice va vn vk,.int .i64 ((fracL t).length:Nat)]) ?_ rfl ?_
   ·simp [results,Tryz.results129,go_sem,f0,f1,f2]
   ·rw [HW.out];obtain ⟨d1,d2,hw,h30⟩:=num_parts HN.out;have hn:=fun ob=>num_row (negL t) (hrow.alloc ob) d1 d2 hw h30
    refine ⟨⟨_,rfl,?_,h30⟩,AskQ.more HG.out HI.out (hfX.alloc _) (fun k hk=>by subst hk;exact ⟨HSA.out,by omega⟩)⟩;refine (hn _).fr (Fr.refl noF _) (fun _ q=>q.elim) (fun k hk => .inl ?_);rcases hk with hk | hk
    ·show k<w1.heap.size+1;omega
    ·have:=HG.out.supp s' w1 k HI.out.1 hk;show k<w1.heap.size+1;omega
end
def jmpI (o:Option Nat):Int:=match o with | some k=>((k:Nat):Int) | none=>-1
set_option maxHeartbeats 2000000 in
theorem at_any (q mb n p:Nat) (f:Nat->Option Nat) (w:World) (q2:w.cell? ⟨q,2,none⟩=some (.map (some mb))) (hm:MapI w mb n f) (hp:p<=4000000000) :
  Calls Tryz.prog 135 #[.pointer (some ⟨q,0,none⟩),.int .i64 (p:Nat)] w fun e w'=>e = .returned (.int .i64 (jmpI (f p)))/\w=w':=by
 have hlk:=hm.look p hp;obtain ⟨o,ho⟩:∃ o,f p=o:=⟨_,rfl⟩;rw [ho] at hlk ⊢;clear ho hm
 cases o with
 | none =>
  go_enter Tryz.func135,Tryz.ntmps135
  go_wp2
  go_ret
  exact ⟨rfl,rfl⟩
 | some k =>
  go_enter Tryz.func135,Tryz.ntmps135
  go_wp2
  go_ret
  exact ⟨rfl,rfl⟩
section
variable {b:Nat} {x0 x2 st v:Value} {l:Wd} {w:World}
set_option maxHeartbeats 4000000 in
theorem vtell_any {g:Nat} {nv:Value} {n:SNum} {t:Wd} (h:OutAt b x0 (.pointer (some ⟨g,0,none⟩)) x2 st v l w) (hn:NumI (fun _=>False) w nv n) (hw:∀ W,Below w.heap.size w W->Calls Tryz.prog 45 #[.pointer (some ⟨g,0,none⟩),nv] W fun e w'=>e = .returned (strv t)/\Below W.heap.size W w') (hlen:l.length+t.length<=1000000000) :
  Calls Tryz.prog 128 #[.pointer (some ⟨b,0,none⟩),nv] w fun e w'=>e = .returned (.tuple #[])/\WriteQ b x0 (.pointer (some ⟨g,0,none⟩)) x2 st v (l++t) w w':=by
 obtain ⟨gd,o,cap,rfl,-⟩:=hn;obtain ⟨L,hL⟩:∃ L,n.2.1.length+n.2.2.length=L:=⟨_,rfl⟩;obtain ⟨k,hk⟩:∃ k,n.2.2.length=k:=⟨_,rfl⟩;rw [hL,hk] at hw ⊢;obtain ⟨A,hA⟩:∃ A,w.heap.size=A:=⟨_,rfl⟩;obtain ⟨W,hW⟩:∃ W,w.alloc (.cells #[.bool n.1,.slice (some ⟨gd,o,none⟩) L cap,.int .i64 (k:Nat)] 97)=W:=⟨_,rfl⟩;have hb:Below w.heap.size w W:=by rw [←hW];exact (Below.refl _ _).alloc (Nat.le_refl _) _
 have hfW:Fr noF noF w W:=Fr.of hb;have hc:∀ j,W.cell? ⟨A,j,none⟩=(#[Value.bool n.1,.slice (some ⟨gd,o,none⟩) L cap,.int .i64 (k:Nat)]:Array Value)[j]? := fun j=>by rw [←hW,←hA];exact cell_made _ _ _ _ _
 have e0:=hc 0;have e1:=hc 1;have e2:=hc 2;simp only [List.getElem?_toArray,List.getElem?_cons_zero,List.getElem?_cons_succ] at e0 e1 e2;have hOW:=h.fr hfW id (fun _ _ q=>q);have b1:=hOW.cell.2.1;have HWR:=Lib.hid (hw W.drew (hb.trans ⟨rfl,rfl,rfl,Nat.le_refl _,fun _ _=>rfl⟩));have HOW:=Lib.hid hOW;have HFW:=Lib.hid hfW;obtain ⟨nb,hnb⟩:∃ nb,n.1=nb:=⟨_,rfl⟩;rw [hnb] at e0 hW HWR ⊢;clear h hw hb hc hOW hfW hL hk hnb;go_enter Tryz.func128,Tryz.ntmps128
 go_wp2_with fail
 try rw [hW]
 clear hW hA;refine rk (fun W':World=>W'.cell? ⟨b,1,none⟩=some (.pointer (some ⟨g,0,none⟩))/\W'.cell? ⟨A,0,none⟩=some (.bool nb)/\W'.cell? ⟨A,1,none⟩=some (.slice (some ⟨gd,o,none⟩) L cap)/\W'.cell? ⟨A,2,none⟩=some (.int .i64 (k:Nat))) 9 (List.range 8) 2 ⟨b1,e0,e1,e2⟩ ?_;(iterate 8 (refine ty ?_;try simp only [pl]))
 refine takes_nil ?_;refine wpAnyK_only 8 (by kernel_rfl) rfl (fun J hJ=>?_);go_simp
 refine HWR.out.mono ?_;rintro e w1 ⟨rfl,hb1⟩;have hf1:Fr noF noF W w1:=(Fr.of hb1).und;refine hJ.out _ _ ⟨hf1.cell b1 id,hf1.cell e0 id,hf1.cell e1 id,hf1.cell e2 id⟩ fun _=>?_
 clear hJ J;have HWS:=Lib.hid (out_write t (HOW.out.fr hf1 id (fun _ _ q=>q)) hlen);have HF1:=Lib.hid hf1;clear hf1 hb1 HWR;refine wpAnyK_last 9 (by kernel_rfl) (by kernel_rfl) rfl (fun J hJ=>?_);go_simp
 refine HWS.out.mono ?_;rintro e w2 ⟨⟨u,rfl⟩,hw2⟩;refine hJ.out _ _ ?_;clear hJ J;refine wpAnyK_done (by kernel_rfl) ?_ _;have HW2:=Lib.hid hw2;clear hw2 HWS;go_wp2
 go_end0
 obtain ⟨v',h1,h2⟩:=HW2.out;exact ⟨rfl,v',h1,((HFW.out.trans HF1.out).wide (G:=outF b v) (fun _ q=>q.elim)).trans h2⟩
end
def EntC (M:Nat->Prop) (w:World):List (SNum×SNum)->List Value->Prop
 | [],cs=>cs=[]
 | (n,z)::r,cs=>∃ nb g o m c k zb g' o' m' c' k' t,cs=(numC nb g o m c k++numC zb g' o' m' c' k')++t/\NumI M w (numA nb g o m c k) n/\NumI M w (numA zb g' o' m' c' k') z/\EntC M w r t
theorem EntC.len {M:Nat->Prop} {w:World}:∀ {r:List (SNum×SNum)} {cs:List Value},EntC M w r cs->cs.length=r.length*6
 | [],cs,h=>by rw [show cs=[] from h];rfl
 | p::r,cs,h=>by
  obtain ⟨nb,g,o,m,c,k,zb,g',o',m',c',k',t,rfl,_,_,ht⟩:=h;have:=EntC.len ht;simp [numC,this];omega
theorem EntC.fr {M M' F F':Nat->Prop} {w w':World} (hf:Fr F F' w w') (hF:∀ k,F k->M k) (hM:∀ k,M' k->M k\/w.heap.size<=k):∀ {r:List (SNum×SNum)} {cs:List Value},EntC M w r cs->EntC M' w' r cs
 | [],cs,h=>h
 | p::r,cs,h=>by
  obtain ⟨nb,g,o,m,c,k,zb,g',o',m',c',k',t,rfl,h1,h2,ht⟩:=h;exact ⟨nb,g,o,m,c,k,zb,g',o',m',c',k',t,rfl,h1.fr hf hF hM,h2.fr hf hF hM,EntC.fr hf hF hM ht⟩
theorem EntC.snoc {M:Nat->Prop} {w:World} {n z:SNum} {nb zb:Bool} {g o m c k g' o' m' c' k':Nat} (h1:NumI M w (numA nb g o m c k) n) (h2:NumI M w (numA zb g' o' m' c' k') z):∀ {r:List (SNum×SNum)} {cs:List Value},EntC M w r cs->EntC M w (r++[(n,z)]) (cs++(numC nb g o m c k++numC zb g' o' m' c' k'))
 | [],cs,h=>by rw [show cs=[] from h];exact ⟨nb,g,o,m,c,k,zb,g',o',m',c',k',[],by simp,h1,h2,rfl⟩
 | p::r,cs,h=>by
  obtain ⟨nb',g1,o1,m1,c1,k1,zb',g2,o2,m2,c2,k2,t,rfl,a1,a2,ht⟩:=h;exact ⟨nb',g1,o1,m1,c1,k1,zb',g2,o2,m2,c2,k2,_,by rw [List.append_assoc],a1,a2,EntC.snoc h1 h2 ht⟩
theorem EntC.last {M:Nat->Prop} {w:World} {n z:SNum}:∀ {r:List (SNum×SNum)} {cs:List Value},EntC M w (r++[(n,z)]) cs->∃ cs' nb g o m c k zb g' o' m' c' k',cs=cs'++(numC nb g o m c k++numC zb g' o' m' c' k')/\EntC M w r cs'/\NumI M w (numA nb g o m c k) n/\NumI M w (numA zb g' o' m' c' k') z
 | [],cs,h=>by
  obtain ⟨nb,g,o,m,c,k,zb,g',o',m',c',k',t,rfl,h1,h2,ht⟩:=h;rw [show t=[] from ht];exact ⟨[],nb,g,o,m,c,k,zb,g',o',m',c',k',by simp,rfl,h1,h2⟩
 | p::r,cs,h=>by
  obtain ⟨nb,g,o,m,c,k,zb,g',o',m',c',k',t,rfl,h1,h2,ht⟩:=h;obtain ⟨cs',nb',g1,o1,m1,c1,k1,zb',g2,o2,m2,c2,k2,rfl,a0,a1,a2⟩:=EntC.last ht;exact ⟨_,nb',g1,o1,m1,c1,k1,zb',g2,o2,m2,c2,k2,by simp only [List.append_assoc],⟨nb,g,o,m,c,k,zb,g',o',m',c',k',cs',rfl,h1,h2,a0⟩,a1,a2⟩
abbrev mutF (b:Nat) (v st:Value) (Sx:Nat->Prop) (k:Nat):Prop:=k=b\/rowF v k\/rowF st k\/Sx k
section
variable {τ:Type}
def RunAt (b A0 q g:Nat) (gv:Value) (G:Nat->Prop) (F S:τ->Nat->Prop) (Inv:τ->World->Prop) (r:RSt τ) (w:World):Prop :=
 ∃ v st cs,OutAt b (.pointer (some ⟨q,0,none⟩)) (.pointer (some ⟨g,0,none⟩)) gv st v r.out w/\w.ownsRow 0 272 6 st r.stk.length cs/\EntC (mutF b v st (S r.gs)) w r.stk cs/\Inv r.gs w /\
  st.ownBlock≠some b/\(∀ k,rowF v k->¬rowF st k)/\(∀ k,S r.gs k->(k+2<b\/b<k)/\¬rowF v k/\¬rowF st k)/\(∀ k,rowF v k\/rowF st k->A0<=k)/\∀ k,F r.gs k->G k
structure EnvM (w0:World) (A0 b:Nat) (G:Nat->Prop) (q mb g:Nat) (s:MkS) (vC vI:Value) (rs:List (Value×Value)) (gv:Value) (E:EnvF τ) (F S:τ->Nat->Prop) (Inv:τ->World->Prop):Prop where
 prog:∀ W,Fr G G w0 W->ProgAt q s vC vI rs mb W
 wr:∀ W nv n,Fr G G w0 W->NumI (fun _=>False) W nv n->Calls Tryz.prog 45 #[.pointer (some ⟨g,0,none⟩),nv] W fun e w'=>e = .returned (strv (E.wr n))/\Below W.heap.size W w'
 wrl:∀ n:SNum,DgOk n.2->(E.wr n).length<=5000
 set:∃ cv ov,(∀ W,Fr G G w0 W->W.cell? ⟨g,0,none⟩=some cv/\W.cell? ⟨g,1,none⟩=some ov) /\
  (∀ W nv d,Fr G G w0 W->NumV W nv d->Calls Tryz.prog 60 #[cv,nv] W fun e w'=>e = .returned (.int .i64 (E.sort false d))/\Below W.heap.size W w') /\
  ∀ W nv d,Fr G G w0 W->NumV W nv d->Calls Tryz.prog 60 #[ov,nv] W fun e w'=>e = .returned (.int .i64 (E.sort true d))/\Below W.heap.size W w'
 srt:∀ b d,E.sort b d<6
 get:GetM gv E F S Inv
 n1:s.code.length<=1000000
 n2:s.cs.length<=1000000
 n3:∀ t∈s.cs,t.length<=5000
 n4:∀ x∈s.code,x.v<=1000000000/\∀ y∈x.tg,y<=4000000000
 gA:∀ k,A0<=k->G k
 gb:A0<=b
def VmQ (b A0 q g:Nat) (gv:Value) (G:Nat->Prop) (F S:τ->Nat->Prop) (Inv:τ->World->Prop) (r0:RSt τ) (_:Nat) (r:RSt τ) (w:World):Prop:=RunAt b A0 q g gv G F S Inv r w/\r.out.length<=r0.out.length+5000/\r.stk.length<=r0.stk.length+1
def ErrQ (Inv:τ->World->Prop) (S:τ->Nat->Prop) (b:Nat) (r:RSt τ) (w:World):Prop:=Inv r.gs w/\∀ k,S r.gs k->k+2<b\/b<k
section
variable {w0 W:World} {A0 b q mb g k:Nat} {G:Nat->Prop} {s:MkS} {vC vI gv:Value} {rs:List (Value×Value)} {E:EnvF τ} {F S:τ->Nat->Prop} {Inv:τ->World->Prop} {r:RSt τ} {x:InL}
theorem RunAt.quiet (hE:EnvM w0 A0 b G q mb g s vC vI rs gv E F S Inv) {w w':World} (h:RunAt b A0 q g gv G F S Inv r w) (hf:Fr noF noF w w'):RunAt b A0 q g gv G F S Inv r w':=by
 obtain ⟨v,st,cs,hO,hst,hen,hi,hsb,hsv,hS,hA,hF⟩:=h;exact ⟨v,st,cs,hO.fr hf id (fun _ _ q=>q),hf.own hst (fun _ _ q=>q),EntC.fr hf (fun _ q=>q.elim) (fun _ q => .inl q) hen,hE.get.fr hi hf (fun _ q=>q.elim),hsb,hsv,hS,hA,hF⟩
theorem RunAt.asked (hE:EnvM w0 A0 b G q mb g s vC vI rs gv E F S Inv) {w w':World} (h:RunAt b A0 q g gv G F S Inv r w) {s':τ} (hq:Inv s' w'/\Fr (F r.gs) (F s') w w'/\∀ k,S s' k->S r.gs k\/w.heap.size<=k) :
  RunAt b A0 q g gv G F S Inv { r with gs:=s' } w'/\Fr G G w w'/\∀ k,mutF b (.slice none 0 0) (.slice none 0 0) (S s') k->k=b\/S r.gs k\/w.heap.size<=k:=by
 obtain ⟨v,st,cs,hO,hst,hen,hi,hsb,hsv,hS,hA,hF⟩:=h;obtain ⟨hi',hf,hs'⟩:=hq;have hlt:=hO.lt;have nb:¬F r.gs b:=fun q=>by have:=(hS b (hE.get.sub _ _ q)).1;omega
 have nv:∀ k,rowF v k->¬F r.gs k:=fun k hk q=>(hS k (hE.get.sub _ _ q)).2.1 hk
 have nst:∀ k,rowF st k->¬F r.gs k:=fun k hk q=>(hS k (hE.get.sub _ _ q)).2.2 hk
 refine ⟨⟨v,st,cs,hO.fr hf nb nv,hf.own hst nst,EntC.fr hf (fun k hk => .inr (.inr (.inr (hE.get.sub _ _ hk)))) (fun k hk=>?_) hen,hi',hsb,hsv,fun k hk=>?_,hA,fun k hk=>?_⟩,?_,fun k hk=>?_⟩
 ·rcases hk with h | h | h | h
  ·exact .inl (.inl h)
  ·exact .inl (.inr (.inl h))
  ·exact .inl (.inr (.inr (.inl h)))
  ·exact (hs' k h).imp (fun q => .inr (.inr (.inr q))) id
 ·rcases hs' k hk with h | h
  ·exact hS k h
  ·exact ⟨by omega,fun q=>by have:=own_in hO.row q;omega,fun q=>by have:=own_in hst q;omega⟩
 ·rcases hf.fp k hk with h | h
  ·exact hF k h
  ·exact hE.gA k (by have:=hE.gb;omega)
 ·exact (hf.tg (F'':=F r.gs) (fun k hk => .inl hk)).wide (fun k hk=>hF k hk)
 ·rcases hk with h | h | h | h
  ·exact .inl h
  ·cases h
  ·cases h
  ·exact .inr (hs' k h)
theorem RunAt.wrote (hE:EnvM w0 A0 b G q mb g s vC vI rs gv E F S Inv) {w w':World} {v st:Value} {cs:List Value} {t:Wd} (hst:w.ownsRow 0 272 6 st r.stk.length cs) (hen:EntC (mutF b v st (S r.gs)) w r.stk cs) (hi:Inv r.gs w) (hsb:st.ownBlock≠some b) (hsv:∀ k,rowF v k->¬rowF st k)
  (hS:∀ k,S r.gs k->(k+2<b\/b<k)/\¬rowF v k/\¬rowF st k) (hA:∀ k,rowF v k\/rowF st k->A0<=k) (hF:∀ k,F r.gs k->G k) (hlt:b<w.heap.size) (hq:WriteQ b (.pointer (some ⟨q,0,none⟩)) (.pointer (some ⟨g,0,none⟩)) gv st v (r.out++t) w w') :
  RunAt b A0 q g gv G F S Inv { r with out:=r.out++t } w'/\Fr G G w w':=by
 obtain ⟨v',hO',hf⟩:=hq;have nst:∀ k,rowF st k->¬outF b v k:=fun k hk q=>q.elim (fun e=>hsb (by rw [←e];exact hk)) (fun e=>hsv k e hk)
 have hv':∀ k,rowF v' k->rowF v k\/w.heap.size<=k:=fun k hk=>(hf.fp k (.inr hk)).elim (fun q=>q.elim (fun e=>absurd (show v'.ownBlock=some b by rw [←e];exact hk) (by obtain ⟨_,_,_,_,h,_⟩:=hO';exact h)) .inl) .inr
 refine ⟨⟨v',st,cs,hO',hf.own hst nst,EntC.fr hf (fun k hk=>hk.elim .inl (fun h => .inr (.inl h))) (fun k hk=>?_) hen,hE.get.fr hi hf (fun k hk q=>hk.elim (fun e=>by have:=(hS k q).1;omega) (fun e=>(hS k q).2.1 e)),hsb,fun k hk=>?_,fun k hk=>?_,fun k hk=>?_,hF⟩,?_⟩
 ·rcases hk with h | h | h | h
  ·exact .inl (.inl h)
  ·exact (hv' k h).imp (fun q => .inr (.inl q)) id
  ·exact .inl (.inr (.inr (.inl h)))
  ·exact .inl (.inr (.inr (.inr h)))
 ·rcases hv' k hk with h | h
  ·exact hsv k h
  ·exact fun q=>by have:=own_in hst q;omega
 ·refine ⟨(hS k hk).1,fun q=>?_,(hS k hk).2.2⟩;rcases hv' k q with h | h
  ·exact (hS k hk).2.1 h
  ·have:=hE.get.supp r.gs w k hi hk;omega
 ·rcases hk with h | h
  ·rcases hv' k h with h | h
   ·exact hA k (.inl h)
   ·have:=hE.gb;omega
  ·exact hA k (.inr h)
 ·exact (hf.tg (F'':=outF b v) (fun k hk => .inl hk)).wide (fun k hk=>hE.gA k (hk.elim (fun e=>by rw [e];exact hE.gb) (fun e=>hA k (.inl e))))
theorem RunAt.stacked (hE:EnvM w0 A0 b G q mb g s vC vI rs gv E F S Inv) {w w':World} {v st:Value} {cs:List Value} {stk:List (SNum×SNum)} {n:Nat} (hst:w.ownsRow 0 272 6 st n cs) {cs':List Value} (hen:EntC (mutF b v st (S r.gs)) w stk cs') (hi:Inv r.gs w)
  (hS:∀ k,S r.gs k->(k+2<b\/b<k)/\¬rowF v k/\¬rowF st k) (hA:∀ k,rowF v k\/rowF st k->A0<=k) (hF:∀ k,F r.gs k->G k) (hlt:b<w.heap.size) (hq:PushQ b (.pointer (some ⟨q,0,none⟩)) (.pointer (some ⟨g,0,none⟩)) gv st v r.out stk.length cs' w w') :
  RunAt b A0 q g gv G F S Inv { r with stk:=stk } w'/\Fr G G w w':=by
 obtain ⟨st',a1,a2,a3,a4,a5⟩:=hq;have hm:∀ j,mutF b v st' (S r.gs) j->mutF b v st (S r.gs) j\/w.heap.size<=j:=by
  intro j hj;rcases hj with h | h | h | h
  ·exact .inl (.inl h)
  ·exact .inl (.inr (.inl h))
  ·rcases a5.fp j (.inr h) with (h | h) | h
   ·exact .inl (.inl h)
   ·exact .inl (.inr (.inr (.inl h)))
   ·exact .inr h
  ·exact .inl (.inr (.inr (.inr h)))
 have hsub:∀ j,stF b st j->mutF b v st (S r.gs) j:=fun j hj=>hj.elim .inl (fun h => .inr (.inr (.inl h)))
 have hl:=hE.get.supp r.gs w;refine ⟨⟨v,st',cs',a1,a2,EntC.fr a5 hsub hm hen,hE.get.fr hi a5 (fun j hj=>?_),a3,a4,fun j hj=>⟨(hS j hj).1,(hS j hj).2.1,fun h=>?_⟩,fun j hj=>?_,hF⟩,?_⟩
 ·rcases hj with rfl | h
  ·exact fun q=>by have:=(hS _ q).1;omega
  ·exact fun q=>(hS _ q).2.2 h
 ·rcases a5.fp j (.inr h) with (h | h) | h
  ·have:=(hS j hj).1;omega
  ·exact (hS j hj).2.2 h
  ·have:=hl j hi hj;omega
 ·rcases hj with h | h
  ·exact hA j (.inl h)
  ·rcases a5.fp j (.inr h) with (h | h) | h
   ·rw [h];exact hE.gb
   ·exact hA j (.inr h)
   ·have:=hE.gb;omega
 ·exact (a5.tg (F'':=stF b st) (fun k hk => .inl hk)).wide (fun j hj=>hE.gA j (hj.elim (fun h=>by rw [h];exact hE.gb) (fun h=>hA j (.inr h))))
set_option maxHeartbeats 4000000 in
theorem step_leave (hE:EnvM w0 A0 b G q mb g s vC vI rs gv E F S Inv) (hf:Fr G G w0 W) (hR:RunAt b A0 q g gv G F S Inv r W) (hk:s.code[k]? = some x) (hop:x.op=5) {stk:List (SNum×SNum)} {tp:SNum×SNum} (hs:r.stk=stk++[tp]) (hsl:r.stk.length<=1000000) :
  Calls Tryz.prog 87 #[.pointer (some ⟨b,0,none⟩),.int .i64 (k:Nat)] W fun e w'=>e = .returned (.int .i64 ((k+1:Nat):Int))/\VmQ b A0 q g gv G F S Inv r (k+1) { r with stk:=stk } w'/\Fr G G W w':=by
 have hp:=hE.prog W hf;obtain ⟨I,ic,kv,tv,q1,lt,i0,-⟩:=hp.ins hk;rw [hop] at i0;obtain ⟨v,st,cs,hO,hst,hen,hi,hsb,hsv,hS,hA,hF⟩:=hR;obtain ⟨tn,tz⟩:=tp;rw [hs] at hen hst;obtain ⟨cs',nb,g1,o1,m1,c1,k1,zb,g2,o2,m2,c2,k2,rfl,hen',-,-⟩:=hen.last;have hlen:(stk++[(tn,tz)]).length=stk.length+1:=by simp
 rw [hlen] at hst;have hn:stk.length<=1000000:=by rw [hs,hlen] at hsl;omega
 have HP:=Lib.hid (pop_any hO hst hen'.len hsb hsv hn);have b0:=hO.cell.1;obtain ⟨n,hN⟩:∃ n,s.code.length=n:=⟨_,rfl⟩;rw [hN] at q1 lt;have hn1:=hE.n1;rw [hN] at hn1;have k3:(k:Int)<(n:Int):=by omega
 have HH:=Lib.hid (And.intro hst (And.intro hen' (And.intro hi (And.intro hS (And.intro hA hF)))));have HE:=Lib.hid hE;have HS:=Lib.hid (And.intro hs hO.lt);clear hE hf hp hk hop hO hst hen hi hsb hsv hS hA hF hs hlen hen' hN hsl;go_enter Tryz.func87,Tryz.ntmps87
 go_wp2_with fail
 refine HP.out.mono ?_;rintro e w1 ⟨rfl,hq⟩;have HQ:=Lib.hid hq;clear hq HP;go_wp2
 go_ret
 obtain ⟨h0,h1,h2,h3,h4,h5⟩:=HH.out;obtain ⟨hr,hfr⟩:=RunAt.stacked HE.out h0 h1 h2 h3 h4 h5 HS.out.2 HQ.out;exact ⟨by first | rfl | simp,⟨hr,Nat.le_add_right _ _,by rw [HS.out.1];simp;omega⟩,hfr⟩
end
end
end Go.Proofs.YthpldolmpinnhaaGreatDoor
