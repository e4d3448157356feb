import Derived.Test.YthpldolmpinnhaaGreatDoorJG1
import Derived.Deep.RegionHeld3
open Go.Region renaming ready→z7,noSelect→z8,Mode→zy,wanted→zv,binds→zu
open Bool renaming and_eq_true→zx
open Array renaming replicate→zk,setIfInBounds_comm→zg
open Nat renaming le_trans→zj,lt_of_lt_of_le→zV
open Go.World renaming cell?_of_block→zf
open Option renaming getD_some→zZ,map_some→zX
open List renaming mem_singleton→zY,length_cons→zU
namespace Go.Proofs.YthpldolmpinnhaaGreatDoor
open Go Go.RowKit
section
variable {P:Program} {ops:Array Oper} {Q:Exit->Act->World->Prop} {md:zy} {S:World->Prop}
def bN:List Oper->Nat->Option Oper
 | [],_=>none
 | o::_,0=>some o
 | _::l,n+1=>bN l n
theorem Y0:∀ (l:List Oper) (i:Nat),bN l i=l.toArray[i]?
 | [],i=>by simp[bN]
 | o::l,0=>by simp[bN]
 | o::l,n+1=>by simpa[bN] using Y0 l n
def takes(P:Program)(ops:Array Oper)(S:World->Prop)(K:Act->Prop):List Nat->Act->Prop
 | [],a=>K a
 | i::is,a=>∃ o v,ops[i]? = some o/\YieldsIf P ops S o v a/\takes P ops S K is (a.put o.dst v)
def U2(md:zy)(ops:Array Oper):List Nat->Array Bool->Bool
 | [],_=>true
 | i::is,listed=>Region.free md ops listed i && (z7 md ops listed).contains i && U2 md ops is (listed.setIfInBounds i true)
def dw(listed:Array Bool)(is:List Nat):Array Bool:=is.foldl (fun l i=>l.setIfInBounds i true) listed
theorem K9{K:Act->Prop}{l:List Oper}{i:Nat}{is:List Nat}{a:Act}{o:Oper}{v:Value}(ho:bN l i=some o)(hw:zv o (yielded l.toArray a.tmps)=true)
  (hy:∀ w,S w->(execOp a.eval o).run P w = .ok (.value v) w) (h:takes P l.toArray S K is (a.put o.dst v)):takes P l.toArray S K (i::is) a :=
 ⟨o,v,(Y0 l i).symm.trans ho,.inl ⟨hw,hy⟩,h⟩
theorem Ag{K:Act->Prop}{l:List Oper}{i:Nat}{is:List Nat}{a:Act}{o:Oper}(ho:bN l i=some o)(hw:zv o (yielded l.toArray a.tmps)=false)
  (h:takes P l.toArray S K is (a.put o.dst undef)):takes P l.toArray S K (i::is) a :=
 ⟨o,undef,(Y0 l i).symm.trans ho,.inr ⟨hw,rfl⟩,h⟩
theorem xq{K:Act->Prop}{a:Act}(h:K a):takes P ops S K [] a:=h
theorem YB(hQ:∀ c a d v w,Q (.panic c) (a.put d v) w->Q (.panic c) a w)(hs:z8 ops=true){w:World}(hS:S w){fuel:Nat} :
  ∀ (is:List Nat) (listed:Array Bool) (a:Act),U2 md ops is listed=true ->
   takes P ops S (fun a'=>wpAnyH P md ops Q S fuel (dw listed is) a' w) is a->wpAnyH P md ops Q S (fuel+is.length) listed a w
 | [],_,_,_,h=>h
 | i::is,listed,a,hB,⟨o,v,ho,hy,h⟩=>by
  simp only[U2,zx] at hB;rw[zU,<-Nat.add_assoc];exact wpAnyH_take ho hs hB.1.1 hB.1.2 (fun c a w=>hQ c a o.dst v w) hy hS (YB hQ hs hS is _ _ hB.2 h)
theorem ue{id:Nat}{l:List Oper}{a:Act}{w:World}(S:World->Prop)(is:List Nat)(fuel:Nat)(hQ:∀ c a d v w,Q (.panic c) (a.put d v) w->Q (.panic c) a w)
  (hm:P.follows .mixedOrders=true) (hn:(z8 l.toArray && decide (l.length=fuel+is.length) && U2 .any l.toArray is (zk l.toArray.size false))=true) (hS:S w.drew)
  (h:takes P l.toArray S (fun a'=>wpAnyH P .any l.toArray Q S fuel (dw (zk l.toArray.size false) is) a' w.drew) is a):(Code.region id l.toArray true).wp P Q a w:=by
 simp only[Bool.and_eq_true,decide_eq_true_eq] at hn;refine wp_region_held (S:=S) hm ?_;have h1:=YB (Q:=Q) (md := .any) (ops:=l.toArray) hQ hn.1.1 hS is _ a hn.2 h;have h2:l.toArray.size=fuel+is.length:=by simpa using hn.1.2
 rw[h2];rw[h2] at h1;exact h1
theorem Hp{w:World}(is:List Nat)(fuel:Nat){f:Nat}{listed:Array Bool}{a:Act}(hf:f=fuel+is.length)(hQ:∀ c a d v w,Q (.panic c) (a.put d v) w->Q (.panic c) a w)
  (hs:z8 ops=true) (hB:U2 md ops is listed=true) (hS:S w)
  (h:takes P ops S (fun a'=>wpAnyH P md ops Q S fuel (dw listed is) a' w) is a):wpAnyH P md ops Q S f listed a w:=by
 subst hf;exact YB hQ hs hS is listed a hB h
theorem Hr{l:List Oper}{w:World}(i:Nat){fuel:Nat}{listed:Array Bool}{a:Act}{o:Oper}(hr:z7 md l.toArray listed=[i])(ho:bN l i=some o)
  (h:∀ K':Act->World->Prop,Shut (∀ a w,S w->(S w->wpAnyH P md l.toArray Q S fuel (listed.setIfInBounds i true) a w)->K' a w)->if zv o (yielded l.toArray a.tmps)=true then Oper.wp P o a w K' Q else K' (a.put o.dst undef) w) :
  wpAnyH P md l.toArray Q S (fuel+1) listed a w :=
 wpAnyH_ready hr (by simp) (AllReadyH.cons ((Y0 l i).symm.trans ho) h AllReadyH.nil)
end
end Go.Proofs.YthpldolmpinnhaaGreatDoor
namespace Go.Proofs.YthpldolmpinnhaaGreatDoor
open Go Go.RowKit
section
variable {P:Program} {ops:Array Oper} {Q:Exit->Act->World->Prop} {md:zy} {S:World->Prop}
def Vq(md:zy)(ops:Array Oper)(L:Array Bool):Prop :=
 ∀ j oj,ops[j]? = some oj->L.getD j false=true->∀ e∈oj.after,zu md e=true->L.getD e.on false=true
def CG(md:zy)(ops:Array Oper)(L:Array Bool):Bool :=
 (List.range ops.size).all fun j => !L.getD j false ||((ops[j]?).map (·.after.all fun e => !Region.binds md e || L.getD e.on false)).getD true
theorem CF{L:Array Bool}(h:CG md ops L=true):Vq md ops L:=by
 intro j oj hj hl e he hb;unfold CG at h;rw[List.all_eq_true] at h;have h1:=h j (List.mem_range.2 (Array.getElem?_eq_some_iff.1 hj).1);rw[hl,hj] at h1;simp only[Bool.not_true,Bool.false_or,zX,zZ,Array.all_eq_true] at h1;obtain⟨n,hn,rfl⟩:=Array.mem_iff_getElem.1 he;have h2:=h1 n hn;rw[hb] at h2;simpa using h2
theorem Vq.step{L:Array Bool}{j:Nat}(hc:Vq md ops L)(hj:j∈z7 md ops L):Vq md ops (L.setIfInBounds j true):=by
 intro x ox hx hl e he hb;by_cases hxj:j=x
 .subst hxj;obtain⟨_,o,ho,qQ⟩:=mem_ready.1 hj;rw[hx] at ho
  cases ho;exact getD_set_true (qQ e he hb)
 .rw[getD_set_ne false hxj] at hl;exact getD_set_true (hc x ox hx hl e he hb)
def waits(md:zy)(ops:Array Oper)(i:Nat):Nat->Nat->Bool
 | 0,_=>false
 | n+1,k=>((ops[k]?).map (·.after.any fun e=>zu md e && (e.on==i || waits md ops i n e.on))).getD false
theorem GQ{L:Array Bool}(hc:Vq md ops L){i:Nat}:∀ (n k:Nat),waits md ops i n k=true->L.getD k false=true->L.getD i false=true
 | 0,_,h,_=>by cases h
 | n+1,k,h,hl=>by
  rw[waits] at h
  cases ho:ops[k]? with
  | none=>rw[ho] at h;cases h
  | some o =>
   rw[ho] at h;simp only[zX,zZ,Array.any_eq_true] at h;obtain⟨m,hm,h2⟩:=h;simp only[zx,Bool.or_eq_true,beq_iff_eq] at h2;have h3:=hc k o ho hl o.after[m] (Array.getElem_mem hm) h2.1;rcases h2.2 with h4|h4
   .rw[h4] at h3;exact h3
   .exact GQ hc n _ h4 h3
def qp(P:Program)(md:zy)(ops:Array Oper)(Q:Exit->Act->World->Prop)(S:World->Prop)(k:Nat):Nat->Array Bool->Act->World->Prop
 | 0,listed,a,w=>z7 md ops listed=[]/\Q .normal a w
 | fuel+1,listed,a,w =>
  (z7 md ops listed=[]->Q .normal a w) /\
  ∀ i∈z7 md ops listed,wpOp P ops Q i (fun a' w'=>((listed.setIfInBounds i true).getD k false=false->S w')/\qp P md ops Q S k fuel (listed.setIfInBounds i true) a' w') a w
theorem GK{k:Nat}:∀ (fuel:Nat) (listed:Array Bool) (a:Act) (w:World),qp P md ops Q S k fuel listed a w->wpAny P md ops Q fuel listed a w
 | 0,_,_,_,h=>h
 | fuel+1,_,_,_,h=>⟨h.1,fun i hi=>wpOp_mono (fun a' w' h'=>GK fuel _ a' w' h'.2) (h.2 i hi)⟩
theorem CD{i k n:Nat}{oi:Oper}{v:Value}(hi:ops[i]? = some oi)(Sf:∀ (j:Nat) (o:Oper) cs b,ops[j]? = some o->o.op ≠ .select cs b)
  (hQ:∀ c a w,Q (.panic c) (a.put oi.dst v) w->Q (.panic c) a w) (hk:waits md ops i n k=true) (hki:k≠i) :
  ∀ (fuel:Nat) (listed:Array Bool) (a:Act) (w:World),
   (∀ j oj,ops[j]? = some oj->j≠i->listed.getD j true=false->(∀ e∈oj.after,zu md e=true->e.on≠i)->oi.apart ops oj=true) ->
   i∈z7 md ops listed->Vq md ops listed->YieldsIf P ops S oi v a->S w ->
   qp P md ops Q S k fuel (listed.setIfInBounds i true) (a.put oi.dst v) w->qp P md ops Q S k (fuel+1) listed a w:=by
 intro fuel;induction fuel with
 | zero =>
  intro listed a w _ hr _ hy hS H;refine⟨fun h=>(by rw[h] at hr;cases hr),fun j hj=>?_⟩;by_cases PA:j=i
  .subst PA;exact hy.wpOp hi hS ⟨fun _=>hS,H⟩
  .have:=ready_mono hj PA;rw[H.1] at this
   cases this
 | succ fuel ih =>
  intro listed a w tD hr hc hy hS H;refine⟨fun h=>(by rw[h] at hr;cases hr),fun j hj=>?_⟩;by_cases PA:j=i
  .subst PA;exact hy.wpOp hi hS ⟨fun _=>hS,H⟩
  .have h1:=H.2 j (ready_mono hj PA);obtain⟨za7,oj,hoj,qQ⟩:=mem_ready.1 hj;have hi0:=(mem_ready.1 hr).1;have UM:listed.getD i false=false:=by
    rcases Nat.lt_or_ge i listed.size with h' | h'
    .simp[h'] at hi0 |-;exact hi0
    .simp[Array.getElem?_eq_none h']
   have Hs:∀ e∈oj.after,zu md e=true->e.on≠i:=fun e he hb heq=>by
    have h1:=qQ e he hb;rw[heq,UM] at h1
    cases h1
   have h2:=wpOp_putIf hoj (tD j oj hoj PA za7 Hs) (fun cs b=>Sf i oi cs b hi) (fun cs b=>Sf j oj cs b hoj) hQ hy h1;have zyg:∀ k ok,ops[k]? = some ok->k≠i->(listed.setIfInBounds j true).getD k true=false ->
     (∀ e∈ok.after,zu md e=true->e.on≠i)->oi.apart ops ok=true:=fun k ok hk hki hun CB=>by
    refine tD k ok hk hki ?_ CB;by_cases hjk:j=k
    .subst hjk;exact za7
    .rw[getD_set_ne true hjk] at hun;exact hun
   have hcj:=hc.step hj;have hun:(listed.setIfInBounds j true).getD k false=false:=by
    cases hq:(listed.setIfInBounds j true).getD k false with
    | false=>rfl
    | true =>
     have h3:=GQ hcj n k hk hq;rw[getD_set_ne false PA,UM] at h3
     cases h3
   have za9:((listed.setIfInBounds i true).setIfInBounds j true).getD k false=false:=by
    rw[zg _ _ (Ne.symm PA),getD_set_ne false (Ne.symm hki)];exact hun
   refine wpOp_mono (fun a' w' h3=>⟨fun _=>h3.2.1 za9,ih (listed.setIfInBounds j true) a' w' zyg (ready_mono hr (Ne.symm PA)) hcj h3.1 (h3.2.1 za9) ?_⟩) h2;rw[zg _ _ PA];exact h3.2.2
def Vk(md:zy)(ops:Array Oper)(k:Nat):List Nat->Array Bool->Bool
 | [],_=>true
 | i::is,listed=>Region.free md ops listed i && (z7 md ops listed).contains i && CG md ops listed && waits md ops i ops.size k && !(k==i) && Vk md ops k is (listed.setIfInBounds i true)
theorem YC{k:Nat}(hQ:∀ c a d v w,Q (.panic c) (a.put d v) w->Q (.panic c) a w)(hs:z8 ops=true){w:World}(hS:S w){fuel:Nat} :
  ∀ (is:List Nat) (listed:Array Bool) (a:Act),Vk md ops k is listed=true ->
   takes P ops S (fun a'=>qp P md ops Q S k fuel (dw listed is) a' w) is a->qp P md ops Q S k (fuel+is.length) listed a w
 | [],_,_,_,h=>h
 | i::is,listed,a,hB,⟨o,v,ho,hy,h⟩=>by
  simp only[Vk,zx,Bool.not_eq_true',beq_eq_false_iff_ne] at hB;rw[zU,<-Nat.add_assoc];exact CD ho (Region.noSelect_spec hs) (fun c a w=>hQ c a o.dst v w) hB.1.1.2 hB.1.2 (fuel+is.length) listed a w (Region.free_spec ho hB.1.1.1.1.1) (by simpa using hB.1.1.1.1.2) (CF hB.1.1.1.2) hy hS (YC hQ hs hS is _ _ hB.2 h)
theorem Kz{id:Nat}{l:List Oper}{a:Act}{w:World}(S:World->Prop)(k:Nat)(is:List Nat)(fuel:Nat)(hQ:∀ c a d v w,Q (.panic c) (a.put d v) w->Q (.panic c) a w)
  (hm:P.follows .mixedOrders=true) (hn:(z8 l.toArray && decide (l.length=fuel+is.length) && Vk .any l.toArray k is (zk l.toArray.size false))=true) (hS:S w.drew)
  (h:takes P l.toArray S (fun a'=>qp P .any l.toArray Q S k fuel (dw (zk l.toArray.size false) is) a' w.drew) is a):(Code.region id l.toArray true).wp P Q a w:=by
 simp only[Bool.and_eq_true,decide_eq_true_eq] at hn;refine wp_region_any hm (GK (S:=S) (k:=k) _ _ _ _ ?_);have h1:=YC (Q:=Q) (md := .any) (ops:=l.toArray) hQ hn.1.1 hS is _ a hn.2 h;have h2:l.toArray.size=fuel+is.length:=by simpa using hn.1.2
 rw[h2];rw[h2] at h1;exact h1
theorem kX{w:World}{k:Nat}(is:List Nat)(fuel:Nat){f:Nat}{listed:Array Bool}{a:Act}(hf:f=fuel+is.length)(hQ:∀ c a d v w,Q (.panic c) (a.put d v) w->Q (.panic c) a w)
  (hs:z8 ops=true) (hB:Vk md ops k is listed=true) (hS:S w)
  (h:takes P ops S (fun a'=>qp P md ops Q S k fuel (dw listed is) a' w) is a):qp P md ops Q S k f listed a w:=by
 subst hf;exact YC hQ hs hS is listed a hB h
theorem Ht{l:List Oper}{w:World}{k:Nat}(i:Nat){fuel:Nat}{listed:Array Bool}{a:Act}{o:Oper}(hr:z7 md l.toArray listed=[i])(ho:bN l i=some o)
  (h:∀ K':Act->World->Prop,Shut (∀ a w,S w->(S w->qp P md l.toArray Q S k fuel (listed.setIfInBounds i true) a w)->K' a w)->if zv o (yielded l.toArray a.tmps)=true then Oper.wp P o a w K' Q else K' (a.put o.dst undef) w) :
  qp P md l.toArray Q S k (fuel+1) listed a w:=by
 refine⟨fun h0=>(by rw[hr] at h0;cases h0),fun j hj=>?_⟩;rw[hr,zY] at hj;subst hj;exact wpOp_step ((Y0 l _).symm.trans ho) fun K' hK=>h K' fun a w h1 h2=>hK a w ⟨fun _=>h1,h2 h1⟩
theorem Hh{l:List Oper}{w:World}{k:Nat}(i:Nat){fuel:Nat}{listed:Array Bool}{a:Act}{o:Oper}(hr:z7 md l.toArray listed=[i])(hk:(listed.setIfInBounds i true).getD k false=true)(ho:bN l i=some o)
  (h:∀ K':Act->World->Prop,Shut (∀ a w,qp P md l.toArray Q S k fuel (listed.setIfInBounds i true) a w->K' a w)->if zv o (yielded l.toArray a.tmps)=true then Oper.wp P o a w K' Q else K' (a.put o.dst undef) w) :
  qp P md l.toArray Q S k (fuel+1) listed a w:=by
 refine⟨fun h0=>(by rw[hr] at h0;cases h0),fun j hj=>?_⟩;rw[hr,zY] at hj;subst hj;exact wpOp_step ((Y0 l _).symm.trans ho) fun K' hK=>h K' fun a w h2=>hK a w ⟨fun h1=>(by rw[hk] at h1;cases h1),h2⟩
theorem Hw{k:Nat}{listed:Array Bool}{a:Act}{w:World}(hr:z7 md ops listed=[])(h:Q .normal a w) :
  ∀ fuel,qp P md ops Q S k fuel listed a w
 | 0=>⟨hr,h⟩
 | _+1=>⟨fun _=>h,by rw[hr];simp⟩
end
end Go.Proofs.YthpldolmpinnhaaGreatDoor
namespace Go.Proofs.YthpldolmpinnhaaGreatDoor
open Go Go.RowKit
structure xR(p:Nat)(w w':World):Prop where
 os:w'.os=w.os
 tape:w'.tape=w.tape
 output:w'.output=w.output
 size:w.heap.size<=w'.heap.size
 block:∀ k,k<w.heap.size->k≠p->w'.heap[k]? = w.heap[k]?
theorem xR.refl(p:Nat)(w:World):xR p w w:=⟨rfl,rfl,rfl,Nat.le_refl _,fun _ _ _=>rfl⟩
theorem xR.trans{p:Nat}{a b c:World}(h:xR p a b)(k:xR p b c):xR p a c :=
 ⟨k.os.trans h.os,k.tape.trans h.tape,k.output.trans h.output,zj h.size k.size,fun i hi hp=>(k.block i (zV hi h.size) hp).trans (h.block i hi hp)⟩
theorem xR.of{p:Nat}{w w':World}(h:Below w.heap.size w w'):xR p w w':=⟨h.os,h.tape,h.output,h.size,fun k hk _=>h.block k hk⟩
theorem xR.below{p:Nat}{w w' Qm:World}(h:xR p w w')(hb:Below w'.heap.size w' Qm):xR p w Qm:=h.trans (xR.of hb)
theorem xR.set(p:Nat)(w:World)(j:Nat)(u:Value):xR p w (w.setCell ⟨p,j,none⟩ u) :=
 ⟨rfl,rfl,rfl,by simp[World.setCell],fun k _ hp=>Below.heap_setCell _ _ _ _ hp⟩
theorem xR.drew{p:Nat}{w w':World}(h:xR p w w'):xR p w w'.drew:=⟨h.os,h.tape,h.output,h.size,h.block⟩
theorem xR.cell{p:Nat}{w w':World}(h:xR p w w'){a:Addr}{v:Value}(hc:w.cell? a=some v)(ha:a.block≠p):w'.cell? a=some v :=
 (zf (h.block a.block (World.block_lt_of_cell? w a hc) ha)).trans hc
theorem xR.low{p lo:Nat}{w w':World}(h:xR p w w')(Hz:lo<=p)(h2:lo<=w.heap.size):Below lo w w':=⟨h.os,h.tape,h.output,h.size,fun k hk=>h.block k (by omega) (by omega)⟩
def xr(lo hi:Nat)(w W:World):Prop:=hi<=W.heap.size/\∀ k,lo<=k->k<hi->W.heap[k]? = w.heap[k]?
theorem xr.below{lo hi:Nat}{w W W':World}(h:xr lo hi w W)(hb:Below W.heap.size W W'):xr lo hi w W' :=
 ⟨zj h.1 hb.size,fun k h1 h2=>(hb.block k (zV h2 h.1)).trans (h.2 k h1 h2)⟩
theorem xr.cell{lo hi:Nat}{w W:World}(h:xr lo hi w W){p:Addr}(h1:lo<=p.block)(h2:p.block<hi):W.cell? p=w.cell? p:=zf (w:=w) (h.2 p.block h1 h2)
theorem xr.via{lo hi lo' hi':Nat}{w w' W:World}(h:xr lo' hi' w' W)(hk:xr lo hi w w')(h1:lo'<=lo)(h2:hi<=hi'):xr lo hi w W :=
 ⟨zj h2 h.1,fun k a b=>(h.2 k (by omega) (by omega)).trans (hk.2 k a b)⟩
theorem xW{lo hi:Nat}{w:World}(h:hi<=w.heap.size):xr lo hi w w:=⟨h,fun _ _ _=>rfl⟩
theorem vK{lo hi B:Nat}{w w':World}(h:Below B w w')(hb:hi<=B)(h2:hi<=w.heap.size):xr lo hi w w':=⟨zj h2 h.size,fun k _ hk=>h.block k (by omega)⟩
end Go.Proofs.YthpldolmpinnhaaGreatDoor
