import Derived.Test.YtfcemhlpdcnckaaGreatDoorJG1
import Derived.Maps.AppendAt
import Derived.OneCell
import Derived.Deep.RegionHeld
import Derived.Laws.IdiomStrings
import Derived.OwnWalk
import Derived.BigQuiet
import Derived.Deep.QuietTactic
import Derived.IntWalk
set_option linter.defProp false
set_option maxHeartbeats 64000000
open Go.Act renaming put->ZP
open Go renaming Addr->yi,Calls->zE,Ending->gG,Oper->fG,Program->Me,TypeId->uP,Value->zx,World->z7,bodyPost_ret->zU,getD_set_ne->Mi,ready_mono->yk6,results->yk,wpAnyH->Bw,wpAnyH_done->V8,yielded->Bh
open Go.Addr renaming add->xM
open Array renaming getElem?_eq_none->il,getElem?_eq_some_iff->vN,getElem?_modify->Zt,replicate->uJ,setIfInBounds_comm->ML
open Go.RowKit renaming Below->yX
open Go.RowKit.Below renaming heap_setCell->zh,refl->z8
open Bool renaming and_eq_true->zQ,eq_iff_iff->vF,not_eq_true'->ypz,not_false->yp9,or_assoc->lI,or_eq_true->gj,true_and->ze8
open ByteArray renaming mk->jW
open Go.Code renaming region->Kl
open Go.Ending renaming returned->UK
open Go.ByteArray renaming toList_eq->dP
open Go.IntKind renaming i64->yU
open Go.IntWalk renaming i64_in->C1
open Go.Lib renaming frozen_of_heap->yj,hid->Z
open List renaming all_append->ie,all_cons->kP,all_eq_true->Yl,any_cons->yk8,any_eq_true->Mn,cons_append->yw,dropWhile_cons_of_neg->uS,dropWhile_cons_of_pos->kj,dropWhile_sublist->dh,drop_eq_getElem_cons->yH,drop_of_length_le->yq,drop_zero->qH,eq_nil_of_length_eq_zero->zF,foldl_cons->QA,getD_eq_getElem?_getD->zM,getElem?_append_left->qM,getElem?_append_right->zc,getElem?_eq_getElem->zw,getElem_append_left->lH,getElem_mem->xd,head?_cons->ZR,head?_eq_getElem?->PR,headD_eq_head?_getD->Mm,idxOf_le_length->ypy,length->qj,length_append->zI,length_cons->zm,length_nil->ur,length_pos_iff->xI,map_cons->ve,map_nil->YW,map_toArray->Ml,mem_append->xY,mem_singleton->uG,range->Um,setIfInBounds_toArray->yb,takeWhile_cons_of_neg->kR,takeWhile_cons_of_pos->Un,take_length->kp,take_succ_eq_append_getElem->zr
open Nat renaming add_assoc->jo,add_mul->ze9,add_sub_cancel->Vs,add_sub_cancel_left->dD,le_refl->X,le_trans->zZ,lt_of_lt_of_le->ze,mod_eq_of_lt->uC,mul_le_mul->Gf,mul_le_mul_right->MI,not_lt_zero->uf,pow_le_pow_right->zux,zero_add->V9,zero_le->zG
open Go.Op renaming bytesLess->gV
open Go.Oper renaming wp->XM
open Option renaming getD_some->zuv,map_some->MH
open Option.some renaming inj->zR,injEq->vw
open Go.Region renaming Mode->jx,binds->Xi,noSelect->ux,ready->vD,wanted->kg
open Go.Result renaming andThen_ok->F8
open Go.Sem renaming run_bind->gF,run_pure->yk7
open UInt8 renaming toNat_inj->Ul,toNat_ofNat'->vO
open Go.Value.slice renaming injEq->F4
open Go.Value renaming string->bJ
open Go.World renaming block_lt_of_cell?->Y,cell?_alloc_lt->za,cell?_alloc_some->dB,cell?_of_block->yZ,frozen?_of_block->zb,ownsRow_nil->yr,setCell->xW
open Go.Proofs.Tryz
namespace Go.Proofs.YtfcemhlpdcnckaaGreatDoor
open Go Go.RowKit
set_option maxRecDepth 10000
section
variable {P:Me} {ops:Array fG} {Q:Exit->Act->z7->Prop} {md:jx} {S:z7->Prop}
def U0(md:jx)(ops:Array fG)(L:Array Bool):Prop :=
 ∀j oj,ops[j]? = some oj->L.getD j false=true->∀e∈oj.after,Xi md e=true->L.getD e.on false=true
def I0(md:jx)(ops:Array fG)(L:Array Bool):Bool :=
 (Um ops.size).all λj => !L.getD j false ||((ops[j]?).map (·.after.all λe => !Region.binds md e ||L.getD e.on false)).getD true
def I1{L:Array Bool}(h:I0 md ops L=true):U0 md ops L:=by
 intro j oj hj hl e he hb;unfold I0 at h;rw[Yl]at h;have h1:=h j (List.mem_range.2 (vN.1 hj).1);rw[hl,hj]at h1;simp only[Bool.not_true,Bool.false_or,MH,zuv,Array.all_eq_true]at h1;obtain⟨n,hn,rfl⟩:=Array.mem_iff_getElem.1 he;have h2:=h1 n hn;rw[hb]at h2;simpa using h2
def U0.step{L:Array Bool}{j:Nat}(hc:U0 md ops L)(hj:j∈vD md ops L):U0 md ops (L.setIfInBounds j true):=by
 intro x ox hx hl e he hb;by_cases hxj:j=x
 .subst hxj;obtain⟨_,o,ho,Zw⟩:=mem_ready.1 hj;rw[hx]at ho
  cases ho;exact getD_set_true (Zw e he hb)
 .rw[Mi false hxj]at hl;exact getD_set_true (hc x ox hx hl e he hb)
def waits(md:jx)(ops:Array fG)(i:Nat):Nat->Nat->Bool
 | 0,_=>false
 |n+1,k=>((ops[k]?).map (·.after.any λe=>Xi md e && (e.on==i ||waits md ops i n e.on))).getD false
def Fi{L:Array Bool}(hc:U0 md ops L){i:Nat}:∀(n k:Nat),waits md ops i n k=true->L.getD k false=true->L.getD i false=true
 | 0,_,h,_=>by cases h
 |n+1,k,h,hl=>by
  rw[waits]at h
  cases ho:ops[k]? with
  |none=>rw[ho]at h;cases h
  |some o =>
   rw[ho]at h;simp only[MH,zuv,Array.any_eq_true]at h;obtain⟨m,hm,h2⟩:=h;simp only[zQ,gj,beq_iff_eq]at h2;have h3:=hc k o ho hl o.after[m] (Array.getElem_mem hm) h2.1;rcases h2.2 with h4|h4
   .rw[h4]at h3;exact h3
   .exact Fi hc n _ h4 h3
def qp(P:Me)(md:jx)(ops:Array fG)(Q:Exit->Act->z7->Prop)(S:z7->Prop)(k:Nat):Nat->Array Bool->Act->z7->Prop
 | 0,listed,a,w=>vD md ops listed=[]/\Q .normal a w
 |fuel+1,listed,a,w =>
  (vD md ops listed=[]->Q .normal a w) /\
  ∀i∈vD md ops listed,wpOp P ops Q i (λa' w'=>((listed.setIfInBounds i true).getD k false=false->S w')/\qp P md ops Q S k fuel (listed.setIfInBounds i true) a' w') a w
def Fl{k:Nat}:∀(fuel:Nat) (listed:Array Bool) (a:Act) (w:z7),qp P md ops Q S k fuel listed a w->wpAny P md ops Q fuel listed a w
 | 0,_,_,_,h=>h
 |fuel+1,_,_,_,h=>⟨h.1,λi hi=>wpOp_mono (λa' w' h'=>Fl fuel _ a' w' h'.2) (h.2 i hi)⟩
def I2{i k n:Nat}{oi:fG}{v:zx}(hi:ops[i]? = some oi)(af:∀(j:Nat) (o:fG) cs b,ops[j]? = some o->o.op ≠ .select cs b)
  (hQ:∀c a w,Q (.panic c) (a.put oi.dst v) w->Q (.panic c) a w) (hk:waits md ops i n k=true) (hki:k≠i) :
  ∀(fuel:Nat) (listed:Array Bool) (a:Act) (w:z7),
   (∀j oj,ops[j]? = some oj->j≠i->listed.getD j true=false->(∀e∈oj.after,Xi md e=true->e.on≠i)->oi.apart ops oj=true) ->
   i∈vD md ops listed->U0 md ops listed->YieldsIf P ops S oi v a->S w ->
   qp P md ops Q S k fuel (listed.setIfInBounds i true) (a.put oi.dst v) w->qp P md ops Q S k (fuel+1) listed a w:=by
 intro fuel;induction fuel with
 |zero =>
  intro listed a w _ hr _ hy hS H;refine⟨λh=>(by rw[h]at hr;cases hr),λj hj=>?_⟩;by_cases hji:j=i
  .subst hji;exact hy.wpOp hi hS ⟨λ_=>hS,H⟩
  .have:=yk6 hj hji;rw[H.1]at this
   cases this
 |succ fuel ih =>
  intro listed a w zed hr hc hy hS H;refine⟨λh=>(by rw[h]at hr;cases hr),λj hj=>?_⟩;by_cases hji:j=i
  .subst hji;exact hy.wpOp hi hS ⟨λ_=>hS,H⟩
  .have h1:=H.2 j (yk6 hj hji);obtain⟨yf5,oj,hoj,Zw⟩:=mem_ready.1 hj;have hi0:=(mem_ready.1 hr).1;have lS:listed.getD i false=false:=by
    rcases Nat.lt_or_ge i listed.size with h' |h'
    .simp[h']at hi0|-;exact hi0
    .simp[il h']
   have xv3:∀e∈oj.after,Xi md e=true->e.on≠i:=λe he hb heq=>by
    have h1:=Zw e he hb;rw[heq,lS]at h1
    cases h1
   have h2:=wpOp_putIf hoj (zed j oj hoj hji yf5 xv3) (λcs b=>af i oi cs b hi) (λcs b=>af j oj cs b hoj) hQ hy h1;have znd:∀k ok,ops[k]? = some ok->k≠i->(listed.setIfInBounds j true).getD k true=false ->
     (∀e∈ok.after,Xi md e=true->e.on≠i)->oi.apart ops ok=true:=λk ok hk hki hun hno=>by
    refine zed k ok hk hki ?_ hno;by_cases hjk:j=k
    .subst hjk;exact yf5
    .rw[Mi true hjk]at hun;exact hun
   have hcj:=hc.step hj;have hun:(listed.setIfInBounds j true).getD k false=false:=by
    cases hq:(listed.setIfInBounds j true).getD k false with
    |false=>rfl
    |true =>
     have h3:=Fi hcj n k hk hq;rw[Mi false hji,lS]at h3
     cases h3
   have yf7:((listed.setIfInBounds i true).setIfInBounds j true).getD k false=false:=by
    rw[ML _ _ (Ne.symm hji),Mi false (Ne.symm hki)];exact hun
   refine wpOp_mono (λa' w' h3=>⟨λ_=>h3.2.1 yf7,ih (listed.setIfInBounds j true) a' w' znd (yk6 hr (Ne.symm hji)) hcj h3.1 (h3.2.1 yf7) ?_⟩) h2;rw[ML _ _ hji];exact h3.2.2
def Yr(md:jx)(ops:Array fG)(k:Nat):List Nat->Array Bool->Bool
 |[],_=>true
 |i::is,listed=>Region.free md ops listed i && (vD md ops listed).contains i && I0 md ops listed && waits md ops i ops.size k && !(k==i) && Yr md ops k is (listed.setIfInBounds i true)
def Ys{k:Nat}(hQ:∀c a d v w,Q (.panic c) (a.put d v) w->Q (.panic c) a w)(hs:ux ops=true){w:z7}(hS:S w){fuel:Nat} :
  ∀(is:List Nat) (listed:Array Bool) (a:Act),Yr md ops k is listed=true ->
   takes P ops S (λa'=>qp P md ops Q S k fuel (gf listed is) a' w) is a->qp P md ops Q S k (fuel+is.length) listed a w
 |[],_,_,_,h=>h
 |i::is,listed,a,hB,⟨o,v,ho,hy,h⟩=>by
  simp only[Yr,zQ,ypz,beq_eq_false_iff_ne]at hB;rw[zm,<-jo];exact I2 ho (Region.noSelect_spec hs) (λc a w=>hQ c a o.dst v w) hB.1.1.2 hB.1.2 (fuel+is.length) listed a w (Region.free_spec ho hB.1.1.1.1.1) (by simpa using hB.1.1.1.1.2) (I1 hB.1.1.1.2) hy hS (Ys hQ hs hS is _ _ hB.2 h)
def Kw{id:Nat}{l:List fG}{a:Act}{w:z7}(S:z7->Prop)(k:Nat)(is:List Nat)(fuel:Nat)(hQ:∀c a d v w,Q (.panic c) (a.put d v) w->Q (.panic c) a w)
  (hm:P.follows .mixedOrders=true) (hn:(ux l.toArray && decide (l.length=fuel+is.length) && Yr .any l.toArray k is (uJ l.toArray.size false))=true) (hS:S w.drew)
  (h:takes P l.toArray S (λa'=>qp P .any l.toArray Q S k fuel (gf (uJ l.toArray.size false) is) a' w.drew) is a):(Kl id l.toArray true).wp P Q a w:=by
 simp only[Bool.and_eq_true,decide_eq_true_eq]at hn;refine wp_region_any hm (Fl (S:=S) (k:=k) _ _ _ _ ?_);have h1:=Ys (Q:=Q) (md := .any) (ops:=l.toArray) hQ hn.1.1 hS is _ a hn.2 h;have h2:l.toArray.size=fuel+is.length:=by simpa using hn.1.2
 rw[h2];rw[h2]at h1;exact h1
def qY{w:z7}{k:Nat}(is:List Nat)(fuel:Nat){f:Nat}{listed:Array Bool}{a:Act}(hf:f=fuel+is.length)(hQ:∀c a d v w,Q (.panic c) (a.put d v) w->Q (.panic c) a w)
  (hs:ux ops=true) (hB:Yr md ops k is listed=true) (hS:S w)
  (h:takes P ops S (λa'=>qp P md ops Q S k fuel (gf listed is) a' w) is a):qp P md ops Q S k f listed a w:=by
 subst hf;exact Ys hQ hs hS is listed a hB h
def N0{l:List fG}{w:z7}{k:Nat}(i:Nat){fuel:Nat}{listed:Array Bool}{a:Act}{o:fG}(hr:vD md l.toArray listed=[i])(ho:Z3 l i=some o)
  (h:∀K':Act->z7->Prop,Shut (∀a w,S w->(S w->qp P md l.toArray Q S k fuel (listed.setIfInBounds i true) a w)->K' a w)->if kg o (Bh l.toArray a.tmps)=true then XM P o a w K' Q else K' (a.put o.dst undef) w) :
  qp P md l.toArray Q S k (fuel+1) listed a w:=by
 refine⟨λh0=>(by rw[hr]at h0;cases h0),λj hj=>?_⟩;rw[hr,uG]at hj;subst hj;exact wpOp_step ((Yb l _).symm.trans ho) λK' hK=>h K' λa w h1 h2=>hK a w ⟨λ_=>h1,h2 h1⟩
def N1{l:List fG}{w:z7}{k:Nat}(i:Nat){fuel:Nat}{listed:Array Bool}{a:Act}{o:fG}(hr:vD md l.toArray listed=[i])(hk:(listed.setIfInBounds i true).getD k false=true)(ho:Z3 l i=some o)
  (h:∀K':Act->z7->Prop,Shut (∀a w,qp P md l.toArray Q S k fuel (listed.setIfInBounds i true) a w->K' a w)->if kg o (Bh l.toArray a.tmps)=true then XM P o a w K' Q else K' (a.put o.dst undef) w) :
  qp P md l.toArray Q S k (fuel+1) listed a w:=by
 refine⟨λh0=>(by rw[hr]at h0;cases h0),λj hj=>?_⟩;rw[hr,uG]at hj;subst hj;exact wpOp_step ((Yb l _).symm.trans ho) λK' hK=>h K' λa w h2=>hK a w ⟨λh1=>(by rw[hk]at h1;cases h1),h2⟩
def N2{k:Nat}{listed:Array Bool}{a:Act}{w:z7}(hr:vD md ops listed=[])(h:Q .normal a w) :
  ∀fuel,qp P md ops Q S k fuel listed a w
 | 0=>⟨hr,h⟩
 |_+1=>⟨λ_=>h,by rw[hr];simp⟩
end
structure xj(p:Nat)(w w':z7):Prop where
 os:w'.os=w.os
 tape:w'.tape=w.tape
 output:w'.output=w.output
 size:w.heap.size<=w'.heap.size
 block:∀k,k<w.heap.size->k≠p->w'.heap[k]? = w.heap[k]?
def xj.refl(p:Nat)(w:z7):xj p w w:=⟨rfl,rfl,rfl,X _,λ_ _ _=>rfl⟩
def xj.trans{p:Nat}{a b c:z7}(h:xj p a b)(k:xj p b c):xj p a c :=
 ⟨k.os.trans h.os,k.tape.trans h.tape,k.output.trans h.output,zZ h.size k.size,λi hi hp=>(k.block i (ze hi h.size) hp).trans (h.block i hi hp)⟩
def xj.of{p:Nat}{w w':z7}(h:yX w.heap.size w w'):xj p w w':=⟨h.os,h.tape,h.output,h.size,λk hk _=>h.block k hk⟩
def xj.below{p:Nat}{w w' Fz:z7}(h:xj p w w')(hb:yX w'.heap.size w' Fz):xj p w Fz:=h.trans (xj.of hb)
def xj.set(p:Nat)(w:z7)(j:Nat)(u:zx):xj p w (w.setCell ⟨p,j,none⟩ u) :=
 ⟨rfl,rfl,rfl,by simp[xW],λk _ hp=>zh _ _ _ _ hp⟩
def xj.drew{p:Nat}{w w':z7}(h:xj p w w'):xj p w w'.drew:=⟨h.os,h.tape,h.output,h.size,h.block⟩
def xj.cell{p:Nat}{w w':z7}(h:xj p w w'){a:yi}{v:zx}(hc:w.cell? a=some v)(ha:a.block≠p):w'.cell? a=some v :=
 (yZ (h.block a.block (Y w a hc) ha)).trans hc
def xj.low{p lo:Nat}{w w':z7}(h:xj p w w')(C7:lo<=p)(h2:lo<=w.heap.size):yX lo w w':=⟨h.os,h.tape,h.output,h.size,λk hk=>h.block k (by omega) (by omega)⟩
def xS(lo hi:Nat)(w W:z7):Prop:=hi<=W.heap.size/\∀k,lo<=k->k<hi->W.heap[k]? = w.heap[k]?
def xS.below{lo hi:Nat}{w W W':z7}(h:xS lo hi w W)(hb:yX W.heap.size W W'):xS lo hi w W' :=
 ⟨zZ h.1 hb.size,λk h1 h2=>(hb.block k (ze h2 h.1)).trans (h.2 k h1 h2)⟩
def xS.cell{lo hi:Nat}{w W:z7}(h:xS lo hi w W){p:yi}(h1:lo<=p.block)(h2:p.block<hi):W.cell? p=w.cell? p:=yZ (w:=w) (h.2 p.block h1 h2)
def xS.via{lo hi lo' hi':Nat}{w w' W:z7}(h:xS lo' hi' w' W)(hk:xS lo hi w w')(h1:lo'<=lo)(h2:hi<=hi'):xS lo hi w W :=
 ⟨zZ h2 h.1,λk a b=>(h.2 k (by omega) (by omega)).trans (hk.2 k a b)⟩
def vX{lo hi:Nat}{w:z7}(h:hi<=w.heap.size):xS lo hi w w:=⟨h,λ_ _ _=>rfl⟩
def uO{lo hi B:Nat}{w w':z7}(h:yX B w w')(hb:hi<=B)(h2:hi<=w.heap.size):xS lo hi w w':=⟨zZ h2 h.size,λk _ hk=>h.block k (by omega)⟩
def Up{P:Me}{t e:uP}{z:zx}{size bytes:Nat}(E:bH P t e z size bytes){w:z7}{ops:Array fG}{rest:List fG}{o:fG}{a:Act}{Q:Exit->Act->z7->Prop}
  (hgd:o.guard=none) (s x:Operand) (ho:o.op = .call { callee := .builtin .append,args:=#[s,x],argTypes:=#[t,t] })
  (base:Nat) (v:zx) (n:Nat) (xs:List zx) (hs:a.eval s=v) (uT:w.ownsRow base e size v n xs)
  (ad:yi) (m c:Nat) (news:List zx) (hx:a.eval x = .slice (some ad) m c) (hl:news.length=m*size) (Ms:∀j u,news[j]? = some u->w.cell? (ad.add j)=some u) (h1:∀u∈news,u.oneCell'=true)
  (h31:n+m<=2147483648) (Mt:base<=w.heap.size)
  (h:∀v' w',w'.ownsRow base e size v' (n+m) (xs++news)->w.grownBy w' v.ownBlock->(v'.ownBlock=v.ownBlock\/v'.ownBlock=some w.heap.size)->wpList P ops Q rest (a.put o.dst v') w'):wpList P ops Q (o::rest) a w:=by
 obtain⟨i,hi,hz,h2,h3⟩:=E.info;have dS:=E.small;refine wpList_append_own_at w hgd s x t ho base e i z size bytes E.under hi hz h2 h3 E.UL E.pos v n xs hs uT ad m c news hx hl Ms h1 (by unfold maxLen;omega) ?_ Mt (λv' w' a b _ d=>h v' w' a b d);exact zZ (Gf h31 dS) (by decide)
def U1:bH prog 23 3 (.int .i64 0) 1 8 :=
 ⟨underlying23,info_parts (by kernel_rfl),rfl,by decide,by decide⟩
def J0{P:Me}{t e:uP}{z:zx}{size bytes:Nat}(E:bH P t e z size bytes){w:z7}{o:fG}{a:Act}{K:Act->z7->Prop}{Q:Exit->Act->z7->Prop}
  (s x:Operand) (ho:o.op = .call { callee := .builtin .append,args:=#[s,x],argTypes:=#[t,t] })
  (base:Nat) (v:zx) (n:Nat) (xs:List zx) (hs:a.eval s=v) (uT:w.ownsRow base e size v n xs)
  (ad:yi) (m c:Nat) (news:List zx) (hx:a.eval x = .slice (some ad) m c) (hl:news.length=m*size) (Ms:∀j u,news[j]? = some u->w.cell? (ad.add j)=some u) (h1:∀u∈news,u.oneCell'=true)
  (h31:n+m<=2147483648) (Mt:base<=w.heap.size)
  (h:∀v' w',w'.ownsRow base e size v' (n+m) (xs++news)->w.grownBy w' v.ownBlock->(v'.ownBlock=v.ownBlock\/v'.ownBlock=some w.heap.size)->K (a.put o.dst v') w'):o.wp P a w K Q:=by
 obtain⟨i,hi,hz,h2,h3⟩:=E.info;have dS:=E.small;obtain⟨v',w',hr,k2,k3,k4,k5⟩:=run_append_own_at (P:=P) w base t o.type e i z size bytes E.under hi hz h2 h3 E.UL E.pos v n xs uT ad m c news hl Ms h1 (by unfold maxLen;omega) (zZ (Gf h31 dS) (by decide)) Mt;unfold XM execOp;simp only[ho,resolve,invoke,builtin,gF,yk7,F8,Ml,ve,YW,hs,hx,hr];exact h v' w' k2 k3 k5
def Z4(W:z7)(cs:List zx)(t:uP):∃W1,W1=(W.alloc (.cells cs.toArray t)).drew/\yX W.heap.size W W1/\W1.heap.size=W.heap.size+1/\∀j u,cs[j]? = some u->W1.cell? ((⟨W.heap.size,0,none⟩:yi).add j)=some u :=
 ⟨_,rfl,(((z8 _ _).alloc (X _) _:yX W.heap.size W (W.alloc (.cells cs.toArray t)))).trans ⟨rfl,rfl,rfl,X _,λ_ _=>rfl⟩,by simp,λj u hu=>by rw[vA];exact(zg W cs.toArray t (0,0) j).trans (by simpa using hu)⟩
structure Fr(F F':Nat->Prop)(w w':z7):Prop where
 os:w'.os=w.os
 tape:w'.tape=w.tape
 output:w'.output=w.output
 size:w.heap.size<=w'.heap.size
 keep:∀k,k<w.heap.size->¬F k->w'.heap[k]? = w.heap[k]?
 fp:∀k,F' k->F k\/w.heap.size<=k
namespace Fr
variable {F F' F'' G:Nat->Prop} {w w' Fz:z7}
def refl(F:Nat->Prop)(w:z7):Fr F F w w:=⟨rfl,rfl,rfl,X _,λ_ _ _=>rfl,λ_ h => .inl h⟩
def trans(h:Fr F F' w w')(k:Fr F' F'' w' Fz):Fr F F'' w Fz :=
 ⟨k.os.trans h.os,k.tape.trans h.tape,k.output.trans h.output,zZ h.size k.size,
  λi hi hn=>(k.keep i (ze hi h.size) (λhf=>(h.fp i hf).elim hn (λq=>by omega))).trans (h.keep i hi hn),
  λi hi=>(k.fp i hi).elim (h.fp i) (λq => .inr (zZ h.size q))⟩
def wide(h:Fr F F' w w')(hF:∀k,F k->G k):Fr G G w w':=⟨h.os,h.tape,h.output,h.size,λk hk hn=>h.keep k hk (λq=>hn (hF k q)),λ_ q => .inl q⟩
def tg(h:Fr F F' w w')(hF:∀k,F'' k->F k\/w.heap.size<=k):Fr F F'' w w':=⟨h.os,h.tape,h.output,h.size,h.keep,hF⟩
def of(h:yX w.heap.size w w'):Fr F F w w':=⟨h.os,h.tape,h.output,h.size,λk hk _=>h.block k hk,λ_ q => .inl q⟩
def below(h:Fr F F' w w')(hb:yX w'.heap.size w' Fz):Fr F F' w Fz:=h.trans (of hb)
def und(h:Fr F F' w.drew w'):Fr F F' w w':=⟨h.os,h.tape,h.output,h.size,h.keep,h.fp⟩
def drew(h:Fr F F' w w'):Fr F F' w w'.drew:=⟨h.os,h.tape,h.output,h.size,h.keep,h.fp⟩
def alloc(h:Fr F F' w w')(o:Obj):Fr F F' w (w'.alloc o):=h.below ((z8 _ _).alloc (X _) _)
def set(h:Fr F F' w w'){a:yi}(u:zx)(ha:F a.block\/w.heap.size<=a.block):Fr F F' w (w'.setCell a u) :=
 ⟨h.os,h.tape,h.output,by simpa[xW]using h.size,λk hk hn=>(zh _ _ _ _ (λq=>by rcases ha with e|e;exact hn (q▸e);omega)).trans (h.keep k hk hn),h.fp⟩
def grown{r:Option Nat}(h:Fr F F' w w')(hg:w'.grownBy Fz r)(hr:∀g,r=some g->F g\/w.heap.size<=g):Fr F F' w Fz :=
 ⟨hg.os.trans h.os,hg.tape.trans h.tape,hg.output.trans h.output,zZ h.size hg.size,λk hk hn=>(hg.block k (ze hk h.size) (λe=>(hr k e.symm).elim hn (λq=>by omega))).trans (h.keep k hk hn),h.fp⟩
def cell(h:Fr F F' w w'){a:yi}{v:zx}(hc:w.cell? a=some v)(ha:¬F a.block):w'.cell? a=some v :=
 (yZ (h.keep a.block (Y w a hc) ha)).trans hc
def frozen(h:Fr F F' w w'){a:yi}(hl:a.block<w.heap.size)(ha:¬F a.block):w'.frozen? a=w.frozen? a:=zb (h.keep a.block hl ha)
def low{B:Nat}(h:Fr F F' w w')(hF:∀k,F k->B<=k)(hB:B<=w.heap.size):yX B w w':=⟨h.os,h.tape,h.output,h.size,λk hk=>h.keep k (by omega) (λq=>by have:=hF k q;omega)⟩
def own{base size n:Nat}{e:uP}{v:zx}{xs:List zx}(h:Fr F F' w w')(ho:w.ownsRow base e size v n xs)(hv:∀g,v.ownBlock=some g->¬F g):w'.ownsRow base e size v n xs:=by
 obtain⟨h1,h2⟩:=ho;refine⟨h1,?_⟩;rcases h2 with hn|⟨g,cap,cur,e1,e2,e3,e4⟩
 .exact .inl hn
 .exact .inr ⟨g,cap,cur,e1,e2,(h.keep g (vN.1 e3).1 (hv g (by rw[e1];rfl))).trans e3,e4⟩
end Fr
abbrev j6(_:Nat):Prop:=False
abbrev yd(v:zx)(k:Nat):Prop:=v.ownBlock=some k
def Fr.app{v v':zx}{w w':z7}(hg:w.grownBy w' v.ownBlock)(hw:v'.ownBlock=v.ownBlock\/v'.ownBlock=some w.heap.size):Fr (yd v) (yd v') w w' :=
 ⟨hg.os,hg.tape,hg.output,hg.size,λk hk hn=>hg.block k hk (λe=>hn e.symm),λk hk=>by
  rcases hw with e|e
  .exact .inl (e.symm.trans hk)
  .exact .inr (by rw[yd,e]at hk;cases hk;exact X _)⟩
def ji{w:z7}{base size n:Nat}{e:uP}{v:zx}{xs:List zx}(h:w.ownsRow base e size v n xs){g:Nat}(hg:yd v g):g<w.heap.size:=(h.lt g hg).2
def yG{w:z7}{a:yi}{v:zx}(h:w.cell? a=some v)(o:Obj):(w.alloc o).cell? a=some v:=(za _ _ _ (Y w a h)).trans h
def Qe{w:z7}{a b:yi}{v:zx}(h:w.cell? a=some v)(u:zx)(hn:b.block≠a.block):(w.setCell b u).cell? a=some v:=by rw[zN,if_neg (λe=>hn (by rw[e]))];exact h
def Z5{w:z7}{a:yi}{v:zx}(h:w.cell? a=some v)(u:zx):(w.setCell a u).cell? a=some u:=by rw[zN,if_pos rfl,h];rfl
def I3{P:Me}{t e te:uP}{z:zx}{size bytes:Nat}(E:bH P t e z size bytes){w:z7}{ops:Array fG}{rest:List fG}{o:fG}{a:Act}{Q:Exit->Act->z7->Prop}
  (news:List zx) (m:Nat) {s x:Operand} {v:zx} {n:Nat} {xs:List zx} (uT:w.ownsRow 0 e size v n xs)
  (h31:n+m<=2147483648) (h:∀v' w',w'.ownsRow 0 e size v' (n+m) (xs++news)->Fr (yd v) (yd v') w w'->wpList P ops Q rest (a.put o.dst v') w')
  (hgd:o.guard=none:=by rfl) (ho:o.op = .call { callee := .builtin .append,args:=#[s,x],argTypes:=#[t,t] }:=by rfl) (hs:a.eval s=v:=by rfl) (hx:a.eval x = .slice (some ⟨w.heap.size,0,none⟩) m m:=by rfl)
  (hl:news.length=m*size:=by rfl) (h1:∀u∈news,u.oneCell'=true:=by simp[Value.oneCell']):wpList P ops Q (o::rest) a (w.alloc (.cells news.toArray te)):=by
 have hb:yX w.heap.size w (w.alloc (.cells news.toArray te)):=(z8 _ _).alloc (X _) _;refine Up E hgd s x ho 0 v n xs hs ((Fr.of hb (F:=λ_=>False)).own uT (λ_ _ q=>q)) _ m m news hx hl (λj u hu=>by rw[vA,zg];simpa using hu) h1 h31 (zG _) (λv' w' ho hg hw=>h v' w' ho ?_);have ud:=uT.lt;refine⟨hg.os.trans hb.os,hg.tape.trans hb.tape,hg.output.trans hb.output,zZ hb.size hg.size,λk hk hn=>(hg.block k (ze hk hb.size) (λe=>hn e.symm)).trans (hb.block k hk),λk hk=>?_⟩;rcases hw with e|e
 .exact .inl (e.symm.trans hk)
 .exact .inr (by rw[yd,e]at hk;cases hk;exact hb.size)
def Qi{P:Me}{t e te:uP}{z:zx}{size bytes:Nat}(E:bH P t e z size bytes){w:z7}{o:fG}{a:Act}{K:Act->z7->Prop}{Q:Exit->Act->z7->Prop}
  (news:List zx) (m:Nat) {s x:Operand} {v:zx} {n:Nat} {xs:List zx} (uT:w.ownsRow 0 e size v n xs)
  (h31:n+m<=2147483648) (h:∀v' w',w'.ownsRow 0 e size v' (n+m) (xs++news)->Fr (yd v) (yd v') w w'->K (a.put o.dst v') w')
  (ho:o.op = .call { callee := .builtin .append,args:=#[s,x],argTypes:=#[t,t] }:=by rfl) (hs:a.eval s=v:=by rfl) (hx:a.eval x = .slice (some ⟨w.heap.size,0,none⟩) m m:=by rfl)
  (hl:news.length=m*size:=by rfl) (h1:∀u∈news,u.oneCell'=true:=by simp[Value.oneCell']):o.wp P a (w.alloc (.cells news.toArray te)) K Q:=by
 have hb:yX w.heap.size w (w.alloc (.cells news.toArray te)):=(z8 _ _).alloc (X _) _;refine J0 E s x ho 0 v n xs hs ((Fr.of hb (F:=λ_=>False)).own uT (λ_ _ q=>q)) _ m m news hx hl (λj u hu=>by rw[vA,zg];simpa using hu) h1 h31 (zG _) (λv' w' ho hg hw=>h v' w' ho ?_);refine⟨hg.os.trans hb.os,hg.tape.trans hb.tape,hg.output.trans hb.output,zZ hb.size hg.size,λk hk hn=>(hg.block k (ze hk hb.size) (λe=>hn e.symm)).trans (hb.block k hk),λk hk=>?_⟩;rcases hw with e|e
 .exact .inl (e.symm.trans hk)
 .exact .inr (by rw[yd,e]at hk;cases hk;exact hb.size)
section
variable {P:Me} {ops:Array fG} {Q:Exit->Act->z7->Prop} {md:jx} {S:z7->Prop}
def ty{K:Act->Prop}{l:List fG}{i:Nat}{is:List Nat}{a:Act}{o:fG}{v:zx}(h:takes P l.toArray S K is (a.put o.dst v))(ho:Z3 l i=some o:=by rfl)(hw:kg o (Bh l.toArray a.tmps)=true:=by rfl)
  (hy:∀w,S w->(execOp a.eval o).run P w = .ok (.value v) w:=by intro w' Pa;(try dsimp only at Pa);go_simp;try(with_reducible rfl)):takes P l.toArray S K (i::is) a:=jN ho hw hy h
def tn{K:Act->Prop}{l:List fG}{i:Nat}{is:List Nat}{a:Act}{o:fG}(h:takes P l.toArray S K is (a.put o.dst undef))(ho:Z3 l i=some o:=by rfl)(hw:kg o (Bh l.toArray a.tmps)=false:=by rfl):takes P l.toArray S K (i::is) a:=dT ho hw h
end
section
variable {P:Me} {Q:Exit->Act->z7->Prop} {id:Nat} {l:List fG} {a:Act} {w:z7}
def rt(S:z7->Prop)(is:List Nat)(fuel:Nat)(hS:S w.drew)
  (h:takes P l.toArray S (λa'=>Bw P .any l.toArray Q S fuel (gf (uJ l.toArray.size false) is) a' w.drew) is a)
  (hQ:∀c a d v w,Q (.panic c) (a.put d v) w->Q (.panic c) a w:=by intro _ _ d _ _ h;cases d<;>exact h) (hm:P.follows .mixedOrders=true:=by kernel_rfl)
  (hn:(ux l.toArray && decide (l.length=fuel+is.length) && Yo .any l.toArray is (uJ l.toArray.size false))=true:=by kernel_rfl):(Kl id l.toArray true).wp P Q a w:=xb S is fuel hQ hm hn hS h
def rk(S:z7->Prop)(k:Nat)(is:List Nat)(fuel:Nat)(hS:S w.drew)
  (h:takes P l.toArray S (λa'=>qp P .any l.toArray Q S k fuel (gf (uJ l.toArray.size false) is) a' w.drew) is a)
  (hQ:∀c a d v w,Q (.panic c) (a.put d v) w->Q (.panic c) a w:=by intro _ _ d _ _ h;cases d<;>exact h) (hm:P.follows .mixedOrders=true:=by kernel_rfl)
  (hn:(ux l.toArray && decide (l.length=fuel+is.length) && Yr .any l.toArray k is (uJ l.toArray.size false))=true:=by kernel_rfl):(Kl id l.toArray true).wp P Q a w:=Kw S k is fuel hQ hm hn hS h
end
def pl:(∀a d v,ZP a (some d) v={ a with tmps:=a.tmps.setIfInBounds d v })/\(∀a v,ZP a none v=a)/\(∀(l:List zx) i v,l.toArray.setIfInBounds i v=(l.set i v).toArray)/\(∀(a:zx) l v,(a::l).set 0 v=v::l)/\∀(a:zx) l n v,(a::l).set (n+1) v=a::l.set n v :=
 ⟨λ_ _ _=>rfl,λ_ _=>rfl,λ_ _ _=>yb ..,λ_ _ _=>rfl,λ_ _ _ _=>rfl⟩
def zo{α:Type}(a:α):∃x,a=x:=⟨a,rfl⟩
section
variable {P:Me} {Q:Exit->Act->z7->Prop} {md:jx} {S:z7->Prop} {l:List fG} {w:z7} {fuel:Nat} {listed:Array Bool} {a:Act} {o:fG}
def bF(i:Nat)(h:∀K':Act->z7->Prop,Shut (∀a w,S w->(S w->Bw P md l.toArray Q S fuel (listed.setIfInBounds i true) a w)->K' a w)->if kg o (Bh l.toArray a.tmps)=true then XM P o a w K' Q else K' (a.put o.dst undef) w)
  (hr:vD md l.toArray listed=[i]:=by kernel_rfl) (ho:Z3 l i=some o:=by rfl):Bw P md l.toArray Q S (fuel+1) listed a w:=Mw i hr ho h
def UG{k:Nat}(i:Nat)(h:∀K':Act->z7->Prop,Shut (∀a w,S w->(S w->qp P md l.toArray Q S k fuel (listed.setIfInBounds i true) a w)->K' a w)->if kg o (Bh l.toArray a.tmps)=true then XM P o a w K' Q else K' (a.put o.dst undef) w)
  (hr:vD md l.toArray listed=[i]:=by kernel_rfl) (ho:Z3 l i=some o:=by rfl):qp P md l.toArray Q S k (fuel+1) listed a w:=N0 i hr ho h
def N3{k:Nat}(i:Nat)(h:∀K':Act->z7->Prop,Shut (∀a w,qp P md l.toArray Q S k fuel (listed.setIfInBounds i true) a w->K' a w)->if kg o (Bh l.toArray a.tmps)=true then XM P o a w K' Q else K' (a.put o.dst undef) w)
  (hr:vD md l.toArray listed=[i]:=by kernel_rfl) (hk:(listed.setIfInBounds i true).getD k false=true:=by kernel_rfl) (ho:Z3 l i=some o:=by rfl):qp P md l.toArray Q S k (fuel+1) listed a w:=N1 i hr hk ho h
def fR(h:Q .normal a w)(n:Nat)(hr:vD md l.toArray listed=[]:=by kernel_rfl):Bw P md l.toArray Q S n listed a w:=V8 hr h n
def N4{k:Nat}(h:Q .normal a w)(n:Nat)(hr:vD md l.toArray listed=[]:=by kernel_rfl):qp P md l.toArray Q S k n listed a w:=N2 hr h n
def rqm(is:List Nat)(n:Nat)(hS:S w)(h:takes P l.toArray S (λa'=>wpAnyH P md l.toArray Q S n (gf listed is) a' w) is a)(hQ:∀c a d v w,Q (.panic c) (a.put d v) w->Q (.panic c) a w:=by intro _ _ d _ _ h;cases d<;>exact h)
  (hf:fuel=n+is.length:=by rfl) (hs:ux l.toArray=true:=by kernel_rfl) (hB:Yo md l.toArray is listed=true:=by kernel_rfl):Bw P md l.toArray Q S fuel listed a w:=Mh is n hf hQ hs hB hS h
end
section
variable{P:Me}{Q:Exit->Act->z7->Prop}{id:Nat}{l:List fG}{a:Act}{w:z7}{md:jx}{listed:Array Bool}{n:Nat}{R:Prop}
def bW(S:World->Prop)(is:List Nat)(fuel:Nat)(hS:S w.drew)(k:R)(h:R->takes P l.toArray S (λa'=>wpAnyH P .any l.toArray Q S fuel (gf (Array.replicate l.toArray.size false) is) a' w.drew) is a:=by intro k;(repeat ((first|refine ty ?_|refine tn ?_);try simp only[pl]));refine yA ?_;exact k)
 (hQ:∀c a d v w,Q (.panic c) (a.put d v) w->Q (.panic c) a w:=by intro _ _ d _ _ h;cases d<;>exact h)(hm:P.follows .mixedOrders=true:=by kernel_rfl)
 (hn:(ux l.toArray&&decide (l.length=fuel+is.length)&&Yo .any l.toArray is (uJ l.toArray.size false))=true:=by kernel_rfl):(Kl id l.toArray true).wp P Q a w:=rt S is fuel hS (h k) hQ hm hn
def PG(S:World->Prop)(j:Nat)(is:List Nat)(fuel:Nat)(hS:S w.drew)(k:R)(h:R->takes P l.toArray S (λa'=>qp P .any l.toArray Q S j fuel (gf (Array.replicate l.toArray.size false) is) a' w.drew) is a:=by intro k;(repeat ((first|refine ty ?_|refine tn ?_);try simp only[pl]));refine yA ?_;exact k)
 (hQ:∀c a d v w,Q (.panic c) (a.put d v) w->Q (.panic c) a w:=by intro _ _ d _ _ h;cases d<;>exact h)(hm:P.follows .mixedOrders=true:=by kernel_rfl)
 (hn:(ux l.toArray&&decide (l.length=fuel+is.length)&&Yr .any l.toArray j is (uJ l.toArray.size false))=true:=by kernel_rfl):(Kl id l.toArray true).wp P Q a w:=rk S j is fuel hS (h k) hQ hm hn
def Xo{S:World->Prop}{m:Nat}(is:List Nat)(n:Nat)(hS:S w)(k:R)(h:R->takes P l.toArray S (λa'=>wpAnyH P md l.toArray Q S n (gf listed is) a' w) is a:=by intro k;(repeat ((first|refine ty ?_|refine tn ?_);try simp only[pl]));refine yA ?_;exact k)(hQ:∀c a d v w,Q (.panic c) (a.put d v) w->Q (.panic c) a w:=by intro _ _ d _ _ h;cases d<;>exact h)
 (hf:m=n+is.length:=by rfl)(hs:ux l.toArray=true:=by kernel_rfl)(hB:Yo md l.toArray is listed=true:=by kernel_rfl):Bw P md l.toArray Q S m listed a w:=rqm is n hS (h k) hQ hf hs hB
end
def _root_.Go.RowKit.Hid.o{p:Prop}(h:Hid p):p:=h.out
instance(b o:Nat):CoeDep (Nat×Nat) (b,o) yi:=⟨⟨b,o,none⟩⟩
instance(b o:Nat):CoeDep (Nat×Nat) (b,o) (Option yi):=⟨some ⟨b,o,none⟩⟩
instance(w:z7)(o:Nat):CoeDep (z7×Nat) (w,o) yi:=⟨⟨w.heap.size,o,none⟩⟩
instance(w:z7)(o:Nat):CoeDep (z7×Nat) (w,o) (Option yi):=⟨some ⟨w.heap.size,o,none⟩⟩
instance:CoeOut z7 Nat:=⟨λw=>w.heap.size⟩
instance(b o:Nat):CoeDep (Nat×Nat) (b,o) zx:=⟨.pointer (some ⟨b,o,none⟩)⟩
instance(w:z7)(o:Nat):CoeDep (z7×Nat) (w,o) zx:=⟨.pointer (some ⟨w.heap.size,o,none⟩)⟩
instance:Coe Nat zx:=⟨λn=>.int .i64 n⟩
instance:Coe Int zx:=⟨λn=>.int .i64 n⟩
inductive znb:z7->Nat->Nat->zx->Type
 |mk(w b o v):znb w b o v
inductive lT:Nat->Nat->Type
 |mk(b o):lT b o
def zX(b o):lT b o:=.mk b o
inductive zo0:z7->z7->Type
 |mk(w v):zo0 w v
def zJ(w v):zo0 w v:=.mk w v
instance(w v):CoeSort (zo0 w v) Prop:=⟨λ_=>yX w.heap.size w v⟩
def gwz{p:Program}{f:Nat}{g:Array Value}{w:World}{Q T:Ending->World->Prop}{R:Prop}(c:Hid (Calls p f g w Q))(k:∀e v,Q e v->T e v)(h:Hid (Calls p f g w T)->R:=by intro k;go_wp2_with fail;exact k.out):R:=h (c.out.mono k)
def gqz{P R:Prop}(k:R)(h:R->P:=by intro k;go_wp2_with fail;exact k):P:=h k
def zL{c:Prop}{h:Decidable c}(d:¬c){α:Sort _}{t e:α}:ite c t e=e:=if_neg d
def zl{c:Prop}{h:Decidable c}(d:c){α:Sort _}{t e:α}:ite c t e=t:=if_pos d
def qP{p:Prop}[Decidable p]:(decide p=true)=p:=decide_eq_true_eq
def Jz{a b c:Prop}(x:a)(y:b)(z:c):Hid a/\Hid b/\Hid c:=⟨x,y,z⟩
def hdd{a b c d:Prop}(x:a)(y:b)(z:c)(u:d):Hid a/\Hid b/\Hid c/\Hid d:=⟨x,y,z,u⟩
def FD{a b c d e:Prop}(x:a)(y:b)(z:c)(u:d)(v:e):Hid a/\Hid b/\Hid c/\Hid d/\Hid e:=⟨x,y,z,u,v⟩
def l6{a b c d e f:Prop}(x:a)(y:b)(z:c)(u:d)(v:e)(w:f):Hid a/\Hid b/\Hid c/\Hid d/\Hid e/\Hid f:=⟨x,y,z,u,v,w⟩
def l7{a b c d e f g:Prop}(x:a)(y:b)(z:c)(u:d)(v:e)(w:f)(s:g):Hid a/\Hid b/\Hid c/\Hid d/\Hid e/\Hid f/\Hid g:=⟨x,y,z,u,v,w,s⟩
def l8{a b c d e f g h:Prop}(x:a)(y:b)(z:c)(u:d)(v:e)(w:f)(s:g)(t:h):Hid a/\Hid b/\Hid c/\Hid d/\Hid e/\Hid f/\Hid g/\Hid h:=⟨x,y,z,u,v,w,s,t⟩
instance(b o):CoeOut (lT b o) yi:=⟨λ_=>⟨b,o,none⟩⟩
instance(b o):CoeOut (lT b o) (Option yi):=⟨λ_=>some ⟨b,o,none⟩⟩
instance(b o):CoeOut (lT b o) zx:=⟨λ_=>.pointer (some ⟨b,o,none⟩)⟩
def zy(w b o v):znb w b o v:=.mk w b o v
instance(w b o v):CoeSort (znb w b o v) Prop:=⟨λ_=>w.cell? ⟨b,o,none⟩=some v⟩
section
variable{P:Prop}
def yf8(h:P:=by
 rw[<-hD];clear a0 a1' a2 a3 a4 a5 a6 a7 a8 g0 g1 g2 g3 g4 g5 g6 Gd hD hnx n0 n0' d0 d0';have aZ:=Fm.trans lW;have hz6:(w:Nat)+2<=(W6:Nat):=by have:=lW.size;omega
 have hT6:=Fp hT aZ;have l9:=Z kL;have Fs:=Z YZ;clear kL YZ;refine(Tryz.utf8_ValidString D W6 (by omega) hT6).mono ?_;rintro e W7 ⟨rfl,PF⟩
 cases hv:zuz D.data.toList
 .have HF:=Z (l9.o hv);clear hv;go_wp2;go_ret;refine⟨aZ.trans (PF.mono (by omega)),?_⟩;rw[HF.o];exact rfl
 .have HVL:=Z hv;clear hv;have hR7:=hR6.below PF (by omega);have zky:zJ w W7:=aZ.trans (PF.mono (by omega));have s37:XP (w:Nat) W3 W7:=(s34.trans s46).trans (XP.below PF);have hz7:(w:Nat)+2<=(W7:Nat):=by have:=PF.size;omega
  obtain⟨a0,a1',a2,a3,a4,a5,a6,a7,a8⟩:=hR7.a;go_wp2_with fail;refine(Tryz.utf8_RuneCountInString D W7 (by omega)).mono ?_;rintro e W8 ⟨rfl,pos,rfl⟩;have hpt:(xn D.data.toList).2=D.data.toList.length:=(Jy _).1 HVL.o;have hcp:=YY D D.size 0 (by omega) (by omega) (by rw[qH,hpt,yz];simp);rw[qH]at hcp;rw[show Lib.runeCount D=(xn D.data.toList).1.length from hcp.1];have HCP:=Z hcp;have HPT:=Z hpt;clear hcp hpt;obtain⟨cnt,N5⟩:∃n,(xn D.data.toList).1.length=n:=⟨_,rfl⟩;rw[N5];have zo1:=Z N5;clear N5;by_cases lz:cnt=10
  .subst lz;have hrf:C0 D D.size 0 #[]=((yS D.data.toList).map (yF .i32)).toArray:=by have:=HCP.o.2 #[];simpa using this
   have lA:(yS D.data.toList).length=10:=by
    have:=congrArg qj (E9 _ D.data.toList (X _));rw[List.length_map,zo1.o]at this;exact this
   obtain⟨rs,FB⟩:∃r:List Int,r=yS D.data.toList:=⟨_,rfl⟩;rw[<-FB]at hrf lA;have hcv:∀W:z7,(convert 9 96 (.string D)).run prog W = .ok (.slice (zX (W:Nat) 0) 10 (WJ W 10 0 21)) (W.drew.alloc (.cells ((rs.map (yF .i32)).toArray++uJ (WJ W 10 0 21 - 10) (.int .i32 0)) 21)):=by
    intro W;have:=run_runes_of_string (P:=prog) W 9 96 21 D underlying9 underlying96 underlying21 (by rw[hrf];simp;omega);rw[hrf]at this;simpa[lA]using this
   have HRF:=Z hrf;have HRS:=Z FB;clear hrf FB;go_wp2_with fail;have jq:(W7.iter D pos).drew.cell? (w,7)=some (.string D):=by
    show(W7.alloc _).cell? _=_;rw[za _ _ _ (by simp;omega)];exact a7
   refine bW (λW':z7=>zy W' (w:Nat) 7 (.string D)) [0,1,2,3,4,5] 2 jq ?_;refine bF 6 (λK hK=>?_);go_simp;refine hK.out _ _ ?_ λ_=>?_
   .show((W7.iter D pos).alloc _).cell? _=_;rw[N6 (by show _<(W7.alloc _).heap.size;simp;omega)];exact jq
   clear hK K;refine bF 7 (λK hK=>?_);go_simp;have xv6:(((W7.iter D pos).alloc (.cells ((rs.map (yF .i32)).toArray++uJ (WJ (W7.iter D pos).drew 10 0 21 - 10) (.int .i32 0)) 21)).drew.drew).heap[(w:Nat)+1]? = W7.heap[(w:Nat)+1]? := by
    show((W7.alloc _).alloc _).heap[(w:Nat)+1]? = _;rw[xA _ _ _ (by simp;omega),xA _ _ _ (by omega)]
   have hVB:=xv6.trans hR7.hB;have yfy:=lr (W7.iter D pos) rs (uJ (WJ (W7.iter D pos).drew 10 0 21 - 10) (.int .i32 0)) (WJ (W7.iter D pos).drew 10 0 21) ((w:Nat)+1) lA hVB (by simp);rw[yfy];simp only[xO];refine hK.out _ _ ?_ λ_=>?_
   .rw[World.cell?_setCells_out _ _ _ _ _ (λh=>absurd h (by simp))];show((W7.iter D pos).alloc _).cell? _=_;rw[N6 (by show _<(W7.alloc _).heap.size;simp;omega)];exact jq
   clear hK K;refine fR ?_ _;go_wp2;refine zU (v := .pointer ((w:Nat)+1,0)) ?_ rfl ?_
   .simp[yk,results20,go_sem]
   .have HK:=zkv (fi:=fi) (ne:=ne) HDD.o r3 r4 r5 (p1 (by omega)) (p2 (by omega)) (p3 (by omega)) HPT.o zo1.o;rw[show ra=true from r1,show rb=true from r2];exact lh (nx:=nx) hR7 zky hz7 lA HNX.out HRS.o HDD.o HK (s13.trans s37) s37 mz.o Vk N7 PD HQ1.o HQ3.o
  .have vxb:((cnt:Int) !=10)=true:=by simp;omega
   have HF:=Z (Fs.o (λh=>lz (zo1.o.symm.trans h)));go_wp2;go_ret;refine⟨zky.trans (Ft _ _ _ _ (by omega)),?_⟩;rw[HF.o];exact rfl):P:=h
def J(h:P:=by omega):P:=h
def zku(h:P:=by
 refine(vH ⟨lo.toArray⟩ _ Cg).mono ?_;rw[show vW (⟨lo.toArray⟩:ByteArray).data.toList=true from QP.o];rintro e w2 ⟨rfl,Yt⟩;have qX:zJ W w2:=by obtain⟨n,rfl⟩:=Yt;exact below_drewN (z8 _ _) n
 have c2:=(qX.cell (Y _ _ H2)).trans H2;clear Yt;go_wp2_with fail;refine(vH ⟨hi.toArray⟩ _ I4).mono ?_;rw[show vW (⟨hi.toArray⟩:ByteArray).data.toList=true from ZT.o];rintro e w3 ⟨rfl,Ez⟩;have kL:zJ w2 w3:=by obtain⟨n,rfl⟩:=Ez;exact below_drewN (z8 _ _) n
 have UF:=bj.trans ((qX.trans (kL.mono qX.size)).mono bj.size);clear Ez c2;go_wp2_with fail;refine(vV ⟨lo.toArray⟩ ⟨hi.toArray⟩ _ Cg I4).mono ?_;rw[show cmpL (⟨lo.toArray⟩:ByteArray).data.toList (⟨hi.toArray⟩:ByteArray).data.toList=L0 from HL0.o];rintro e w4 ⟨rfl,rfl⟩;go_wp2;go_ret2
 exact⟨by rw[HN.o];rfl,UF⟩):P:=h
def zkq(h:P:=by
 refine(vH ⟨lo.toArray⟩ _ Cg).mono ?_;rw[show vW (⟨lo.toArray⟩:ByteArray).data.toList=true from QP.o];rintro e w2 ⟨rfl,Yt⟩;have qX:zJ W w2:=by obtain⟨n,rfl⟩:=Yt;exact below_drewN (z8 _ _) n
 have c2:=(qX.cell (Y _ _ H2)).trans H2;clear Yt;go_wp2_with fail;refine(vH ⟨hi.toArray⟩ _ I4).mono ?_;rw[show vW (⟨hi.toArray⟩:ByteArray).data.toList=false from ZT.o];rintro e w3 ⟨rfl,Ez⟩;have kL:zJ w2 w3:=by obtain⟨n,rfl⟩:=Ez;exact below_drewN (z8 _ _) n
 have UF:=bj.trans ((qX.trans (kL.mono qX.size)).mono bj.size);clear Ez c2;go_wp2;go_ret2
 exact⟨by rw[HN.o];rfl,UF⟩):P:=h
def zkk(h:P:=by
 refine(vH ⟨lo.toArray⟩ _ Cg).mono ?_;rw[show vW (⟨lo.toArray⟩:ByteArray).data.toList=false from QP.o];rintro e w2 ⟨rfl,Yt⟩;have qX:zJ W w2:=by obtain⟨n,rfl⟩:=Yt;exact below_drewN (z8 _ _) n
 have c2:=(qX.cell (Y _ _ H2)).trans H2;clear Yt;go_wp2_with fail;refine(vH ⟨hi.toArray⟩ _ I4).mono ?_;generalize vW (⟨hi.toArray⟩:ByteArray).data.toList=fh;rintro e w3 ⟨rfl,Ez⟩;have kL:zJ w2 w3:=by obtain⟨n,rfl⟩:=Ez;exact below_drewN (z8 _ _) n
 have UF:=bj.trans ((qX.trans (kL.mono qX.size)).mono bj.size);clear Ez c2;go_wp2;go_ret2
 exact⟨by rw[HN.o];rfl,UF⟩):P:=h
def zV(h:P:=by simp;omega):P:=h
def yy(h:P:=by kernel_rfl):P:=h
def zo2(h:P:=by
 go_upto_region 3 with fail
 have Fy:=HS.o.Y0 k1 my;have Ko:=xZ HW.o (b:=p) (j:=1) (u := .int .i64 k1) (X _);obtain⟨w3,fE⟩:∃Xk,w2.setCell (zX p 1) k1=Xk:=⟨_,rfl⟩;rw[fE]at Fy Ko;try rw[fE]
 clear HS HW fE c1 z1;have HS:=Z Fy;have HW:=Z Ko;clear Fy Ko;obtain⟨Yk,hY⟩:∃Yk,({ x with i:=k1 }:Sc)=Yk:=⟨_,rfl⟩;rw[hY]at HS;have C7:Yk.out.length+1<=1000000:=by rw[<-hY];show x.out.length+1<=1000000;omega
 have HY:=Z hY;clear hY;have c0:=HS.o.c0;have c1:=HS.o.c1;have hyi:Yk.i=k1:=by rw[<-HY.o]
 rw[hyi]at c1;clear hyi;have jq:zy w3.drew p 0 (.string s)/\zy w3.drew p 1 k1:=⟨c0,c1⟩;go_wp2_with fail;refine bW (λW':z7=>zy W' p 0 (.string s)/\zy W' p 1 k1) [0,1,2,3,4,5,6,7,8,9,10,11,12,13,14] 1 jq ?_;refine bF 15 (λK hK=>?_);go_simp;rw[hHX.o,hd];refine(Vj p s Yk [d] w3.drew (HS.o.below (z8 _ _).drew) C7 (λm hm=>WH.o.1 m (by rw[<-HY.o]at hm;exact hm)) (λm hm=>WH.o.2 m (by rw[<-HY.o]at hm;exact hm))).mono ?_;rintro e w4 ⟨rfl,dS,YZ⟩;have hS1:zy w4 p 0 (.string s)/\zy w4 p 1 k1:=⟨dS.c0,by rw[dS.c1,(Gb Yk [d]).1,<-HY.o]⟩;have Vg:=Z dS;have N8:=Z (HW.o.drew.trans YZ);clear dS YZ;refine hK.out _ _ hS1 λ_=>?_;clear hK K hS1;refine fR ?_ _;go_wp2;refine zU (v := .tuple #[]) ?_ rfl ?_
 .simp[yk,results28,go_sem]
 rw[HE.o,HK.o,Cf.o];have h4:=Vg.o;rw[<-HY.o]at h4;exact⟨rfl,h4,N8.o⟩):P:=h
def zkj(h:P:=by (repeat(first|(with_reducible exact z8 _ _)|(with_reducible refine below_drewN ?_ _)|(with_reducible refine Below.drew ?_)|(with_reducible refine Below.alloc ?_ ?_ _;rotate_left;focus(first|(simp;done)|(simp;omega)))))):P:=h
def zY(h:P:=by simp):P:=h
def zj(h:P:=by decide):P:=h
def WI(h:P:=by obtain⟨n,rfl⟩:=Yt;exact below_drewN (z8 _ _) n):P:=h
def WL(h:P:=by obtain⟨n,rfl⟩:=Ez;exact below_drewN (z8 _ _) n):P:=h
def mq(h:P:=by
 by_cases gC:n=0
 .have k5:((n:Int)==0)=true:=by simp[gC]
  have HN0:=Z gC;clear gC;have HE:=Z (show n=R by rw[<-bd.o,zL (λe=>by rw[PC,Ey]at e;simp at e)]);clear bd PC Ey;go_wp2;go_ret;exact⟨by rw[HE.o];rfl,rfl⟩
 .have k5:((n:Int)==0)=false:=by simp;omega
  have HNZ:=Z gC;clear gC;have HE:=Z (show n=R by rw[<-bd.o,zL (λe=>by rw[PC,Ey]at e;simp at e)]);clear bd PC Ey;go_wp2;go_ret;exact⟨by rw[HE.o];rfl,rfl⟩):P:=h
def qK(h:P:=by simp[IntKind.wrap,IntKind.signed,IntKind.bits];omega):P:=h
def j7(h:P:=by have:=hb.size;simp;omega):P:=h
def yfx(h:P:=by
 clear hwb;refine bW (λW':z7=>zy W' p 0 (.string s)/\zy W' p 1 j) [0,1,2,3,4,5,6,7,8,9,10,11,12,13,14,15] 0 hS2 ?_;refine fR ?_ _;go_wp2;go_ret;refine⟨?_,?_,zkg.drew⟩
 .rw[HT.o];show UK (bJ (s.extract k j))=_;rw[HPC.o]
 .rw[HY.o];exact bd.o.below (z8 _ _).drew):P:=h
def yfu(h:P:=by
 have e:yE t.data.toList=yE (t.data.toList.take n):=by
  have:=congrArg yE HL.o;rw[hc]at this;exact this.trans (short_zero _)
 rw[kT,toList_mk,<-e,HP.o]):P:=h
def uZ(h:P:=by rw[HF.o];rfl):P:=h
def WM(h:P:=by
 go_wp2_with fail;refine bW (λW':z7=>zy W' p 0 (.string s)/\zy W' p 1 k) [0,1,2,3,4,5,6,7,8,9,10,11,12,13,14,15,16,17,18,19,20,21,22,23,24] 0 jq ?_;refine fR ?_ _;go_wp2_with fail;go_meet
 case rel=>exact⟨by rw[HE.o],Ur.o.drew,hB0.drew⟩):P:=h
def gT(h:P:=by rw[hW];exact zg _ _ _ _ _):P:=h
def zi4(h:P:=by
 have vP:R=none:=by
  rw[<-ZC.o];refine Ql ud HG.o ?_;rw[hp];simp[vz,hd]
 have HN:=Z vP;have Yt:(d==[46,46])=false:=by simpa using hd
 clear hp vP hd;go_wp2;go_ret2
 exact⟨by rw[HN.o];rfl,hB.trans (hb.mono hB.size)⟩):P:=h
def zi5(h:P:=by
 refine bW (λW':z7=>zy W' p 0 (.string s)/\zy W' p 1 k) [0,1,2,3,4,5,6,7,8,9,10,11,12,13,14,15,16,17,18,19,20,21] 0 jq ?_;refine fR ?_ _;obtain⟨W4,I5⟩:∃Xk,w3.drew=Xk:=⟨_,rfl⟩;have dS:=GZ.o.below (z8 _ _).drew;have Pc:=Ko.drew;rw[I5]at dS Pc|-
 clear I5 jq c0 c1 Ko GZ;have GZ:=Z dS;have Ko:=Pc;clear dS Pc;go_wp2_with fail;refine(GY p s Yk num W4 GZ.o (by rw[HYO.o];exact I6) (by rw[HYN.o];omega)).mono ?_;rintro e w4 ⟨rfl,dS,YZ⟩;have Vg:=Z dS;have N8:=Z (Ko.trans YZ);clear dS YZ;go_wp2;refine zU (v := .tuple #[]) ?_ rfl ?_
 .simp[yk,results50,go_sem]
 rw[HE.o];exact⟨rfl,Vg.o,N8.o⟩):P:=h
def jr(h:P:=by intro u hu;simp at hu;subst hu;rfl):P:=h
def gW(h:P:=by simpa[Fo.xX]using h):P:=h
def zi6(h:P:=by
 intro v' w' ho hg hw;have HN:=Z hn;have U2:=HH.o.GX (m:=⟨116,t,[],[],[],0⟩) (by rw[HN.o];exact H2.o) h2 h3 H3.o HD.o ly.o (by rw[HN.o];exact ho) hg hw (by rw[HN.o];omega);have C:=HH.o.Z6 ly.o hg (λg e=>(H2.o.lt g e).1);have e2:=hg.cell ((ly.o.cell (p:=(zX p 2)) HH.o.lt).trans h2) (λe=>yO _ ((H2.o.lt p e.symm).1));have z2:=C.z 2;obtain⟨na,nc,rfl⟩:=zD ho;have lx:=Z U2;clear U2 C ho hg hw hC;go_wp2;refine zU (v := .tuple #[]) ?_ rfl ?_
 .simp[yk,results51,go_sem]
 rw[HY.o];exact⟨rfl,lx.o.1,lx.o.2⟩):P:=h
def zi7(h:P:=by
 rw[lu]at c5;have HER:=Z her;have HPL:=Z lu;clear h2' her lu;go_wp2_with fail;have jq:zy wr.drew p 2 v2/\zy wr.drew p 4 er/\zy wr.drew p 5 pl:=⟨h2,c4,c5⟩;refine bW (λW':z7=>zy W' p 2 v2/\zy W' p 4 er/\zy W' p 5 pl) [0,1,2,3,4,5,6,7,8,9,10,11,12,13,14] 0 jq ?_;refine fR ?_ _;go_wp2;refine zU (v := .tuple #[v2,er,pl]) ?_ rfl ?_
 .simp[yk,results18,go_sem]
 have hm:xP s=Xk:=HMM.o;unfold Pe;rw[hm,HER.o,HPL.o];exact⟨v2,rfl,by rw[HPS.o];exact bS H2.o,by rw[HPS.o];exact HW.o.drew⟩):P:=h
def WN(h:P:=by first|(simp;done)|(simp;omega)):P:=h
def zi9(h:P:=by
 have mj:jh n acc (t.drop m)=r:=by
  have h1:=Qm.o;rw[zL (by rw[HK.o];decide),I7.o.1,I7.o.2]at h1;rw[zl HK.o]at h1;exact h1
 have zo3:=Z mj;have gN:u.extract (m+1) u.size=⟨(t.drop m).toArray⟩:=by rw[ub,HUD.o];rfl
 have Fh:u.extract 0 (m+1)=⟨(c::t.take m).toArray⟩:=by rw[kT,HUD.o];rfl
 have mg:=Z Fh;have lj:=Z gN;clear mj Fh gN;go_wp2;rw[lj.o];go_roundg n
 case measure=>omega
 case rel=>exact⟨acc,t.drop m,rfl,HO.o,hb,by simp at Vf|-;omega,by simp at hla|-;omega,zo3.o⟩):P:=h
def WO(h:P:=by have ih:=gH rs T r d (i+1) h;rw[zu,yw,endGo,zL (by show ¬d=0;omega)];show endGo _ d (i+1)=_;rw[ih,zm,zuy,jo]):P:=h
def N9(h:P:=by first|(have:=mf.o;simp at hla;simp only[zI,zm,ur];omega)|(simp at hla|-;omega)):P:=h
def Nz(h:P:=by rw[<-HR.o,bI,HO.o];dsimp only;unfold Us;rw[HM.o,zl rfl,gC]):P:=h
def ziy(h:P:=by
 obtain⟨va,t⟩:=q;rw[hn]at hq;obtain⟨rfl,WR⟩:=hq;have hva:=(fS hn).1;have j8:=ZC.o;rw[hn]at j8;have QR:=Z j8;have Pl:=Z WR;have yfq:=Z (Fw va va false w5 hva hva);clear j8 hn WR;go_wp2_with fail;refine yfq.o.mono ?_;rintro e w6 ⟨⟨v,rfl,ht⟩,C8⟩;have Ex:=Z ht;clear ht;go_wp2;go_ret2
 refine⟨?_,YX.below C8⟩;rw[QR.o];exact⟨⟨v,rfl,Ex.o.keep (vX (X _)) YX.size (X _)⟩,Pl.o.below C8⟩):P:=h
def WS(h:P:=by rw[Gd];(repeat(first|(with_reducible exact z8 _ _)|(with_reducible refine Below.setCell ?_ ?_ _;rotate_left;focus(first|(simp;done)|(simp;omega)))))):P:=h
def zix(h:P:=by
 go_enter func81,ntmps81;go_wp2_with fail;refine bW (λW':z7=>zy W' p 0 (.string s)/\zy W' p 1 k) [0,1,2,3,4,5,6,7,8,9,10,11,12,13,14,15,16,17,18,19,20,21,22] 0 jq ?_;refine fR ?_ _;go_wp2_with fail;refine(jG p s x 3 k w.drew aY.o).mono ?_;rintro e w2 ⟨rfl,ZW,qX⟩;have Jx:=Z ZW;have hbf:=bD.trans HBD.o qX;clear ZW;go_wp2;refine zU (v := .tuple #[]) ?_ rfl ?_
 .simp[yk,results81,go_sem]
 rw[HF.o];exact⟨rfl,Jx.o,hbf⟩):P:=h
def UM(h:P:=by rw[hW];exact(z8 _ _).alloc (X _) _):P:=h
def WT(h:P:=by rw[<-ZC.o];refine Ql ud HG.o ?_;rw[HRG.o false (by simp[MN,hp0])];rfl):P:=h
def yfk(h:P:=by rw[zL hw]at hq;have HT5:=Z (show R = .error (3,q)by rw[lg.o];show(vR rs 125 q).then _=_;unfold vR;rw[zL hw];rfl);have HQ:=Z hq;obtain⟨bf,rfl,_,_⟩:=hq;clear hw lg;go_wp2;exact⟨rfl,by rw[HT5.o];exact HQ.o,YZ⟩):P:=h
def mZ(h:P:=by
 go_wp2_with fail;refine bW (λW':z7=>zy W' p 0 (.string s)/\zy W' p 1 k) [0,1,2,3,4,5,6,7,8,9,10,11,12,13,14,15,16,17,18,19,20,21] 0 jq ?_;refine fR ?_ _;go_wp2_with fail;go_meet
 case rel=>exact⟨by rw[HQ.o],HD4.o,HDW.o⟩):P:=h
def WW(h:P:=by rw[<-ZC.o];refine Ql ud HG.o ?_;rw[HRG.o false (by simp[Vz])];rfl):P:=h
def WA(h:P:=by rw[<-ZC.o];refine Ql ud HG.o ?_;rw[HRG.o false (by simp[Fx])];rfl):P:=h
def yfj(h:P:=by have hd6:d=6:=HD.o.1 rfl;subst hd6;go_wp2_with fail;refine(YV p 4 Jk x2 Jx.o.Ev).mono ?_;rintro e x3 ⟨hf,hx3⟩;have HF:=Z hf;obtain⟨bf,rfl,_,_⟩:=hf;go_wp2;exact⟨rfl,by rw[Cd.o];exact HF.o,qX.below hx3⟩):P:=h
def gA(h:P:=by rw[HN.o];exact ud):P:=h
def Wa(h:P:=by refine zj3 ud HG.o ?_;rw[HRG.o true (by simp[Vz,Fx,MN,hp0])];rfl):P:=h
def Eu(h:P:=by rw[<-HP.o];exact(congrArg yE HL.o).trans ((D0 _ _ hc).trans HL.o.symm)):P:=h
def ziv(h:P:=by refine hK.out _ _ trivial λ_=>?_;clear hK K;refine Xo [5,6,7,8,9,10,11,12,13,14,15,16,17,18,19,20] 0 (show True from trivial) ?_;refine fR ?_ _;go_wp2;go_ret;exact⟨by rw[HF.o,g1];simp,(z8 _ _).drew⟩):P:=h
def ziu(h:P:=by
 go_wp2;go_ret2
 exact⟨by rw[HN.o];rfl,hB.trans (hb.mono hB.size)⟩):P:=h
def yfg(h:P:=by rw[zL hw]at hq;have Cd:=Z (show R = .error (3,Jk)by rw[HT.o];unfold vR;rw[zL hw];rfl);have HQ:=Z hq;obtain⟨bf,rfl,_,_⟩:=hq;clear hw HT;go_wp2;exact⟨rfl,by rw[Cd.o];exact HQ.o,qX⟩):P:=h
def mY(h:P:=by
 clear dS YZ;go_wp2;refine zU (v := .tuple #[]) ?_ rfl ?_
 .simp[yk,results28,go_sem]
 rw[HE.o];exact⟨rfl,Vg.o,N8.o⟩):P:=h
def D1(h:P:=by intro u hu;simp[xl]at hu;rcases hu with rfl|rfl|rfl|rfl|rfl|rfl<;>rfl):P:=h
def Ek(h:P:=by have Hz3:=Z PD;clear PD;go_wp2;go_ret;rw[Hz.o,Vk.o,Hz3.o];exact⟨rfl,rfl⟩):P:=h
def ziq(h:P:=by
 cases hv;have ud:=lt_of_block hh;have h':w.heap[g] = .cells cur e (0,0):=by simpa[XN ud]using hh
 refine .inr ⟨g,cap,cur.setIfInBounds j u,rfl,hg,?_,k1,k2,by simp[k3],?_⟩
 .show(w.heap.modify g _)[g]? = _;rw[XN (by simpa using ud),Array.getElem_modify_self,h'];rfl
 .rw[Array.toList_setIfInBounds,List.take_set,k4]):P:=h
def qk(h:P:=by go_simp):P:=h
def yff(h:P:=by go_wp2;go_ret;rw[Hz.o,Vk.o,Hz3.o];exact⟨rfl,rfl⟩):P:=h
def xp(h:P:=by cases h):P:=h
def zik(h:P:=by
 clear HG;go_wp2_with fail;refine bW (λW':z7=>zy W' p 0 (.string s)/\zy W' p 1 k) [0,1,2,3,4,5,6,7,8,9,10,11,12,13,14,15] 0 aX ?_;refine fR ?_ _;obtain⟨w3,Ko⟩:∃Xk,wr.drew=Xk:=⟨_,rfl⟩;rw[Ko]at aV zj4 mX mV aX;try rw[Ko]
 clear Ko;clear mX mV aX;go_wp2;go_meet
 case rel=>exact⟨n,rfl,Qn,hn9,aV.o,zj4,HE.o⟩):P:=h
def zij(h:P:=by clear hzz;go_enter func123,ntmps123;go_wp2_with fail;refine HA.o.mono ?_;rintro e w1 ⟨rfl,qV⟩;obtain⟨j0,j1⟩:=HPS.o w1 qV;have HP1:=Z (HP.o.below qV);go_wp2_with fail;refine(HCW.o _).mono ?_;rintro e w2 ⟨rfl,rfl⟩;go_wp2;go_ret;exact⟨⟨by rw[HSV.o];rfl,(HP1.o.step j0).2 rfl⟩,(xj.of qV).trans (xj.set p _ 0 _)⟩):P:=h
def zig(h:P:=by clear hzz;go_enter func123,ntmps123;go_wp2_with fail;refine HA.o.mono ?_;rintro e w1 ⟨rfl,qV⟩;obtain⟨j0,j1⟩:=HPS.o w1 qV;have HP1:=Z (HP.o.below qV);go_wp2_with fail;refine(HCW.o _).mono ?_;rintro e w2 ⟨rfl,rfl⟩;go_wp2;go_ret;exact⟨⟨by rw[HSV.o];rfl,(HP1.o.step j0).1⟩,(xj.of qV).trans (xj.set p _ 0 _)⟩):P:=h
def Z7(h:P:=by unfold maxLen;omega):P:=h
def D2(h:P:=by rw[fE];exact(z8 _ _).alloc (X _) _):P:=h
def yfb(h:P:=by
 intro l h
 cases l with
 |nil=>simp[yV]
 |cons c t =>
  rw[yV.eq_def];dsimp only;by_cases hc:c=39
  .rw[zl hc]
   cases t with
   |nil=>simp
   |cons d u =>
    dsimp only;by_cases hd:d=39
    .rw[zl hd];have:=ih u (by simp at h;omega);simp;omega
    .rw[zL hd];simp
  .rw[zL hc];have:=ih t (by simp at h;omega);simp;omega):P:=h
def zif(h:P:=by
 obtain⟨T,t⟩:=q;rw[hn]at hq;obtain⟨⟨v,rfl,ht⟩,WR⟩:=hq;have j8:=ZC.o;rw[hn]at j8;have QR:=Z j8;have Ex:=Z ht;have Pl:=Z WR;clear j8 hn ht WR;go_wp2;go_ret2
 refine⟨?_,UN⟩;rw[QR.o];exact⟨⟨v,rfl,Ex.o.keep (vX (X _)) Vd.size (X _)⟩,Pl.o⟩):P:=h
def zid(h:P:=by
 obtain⟨T,t⟩:=q;rw[hn]at hq;obtain⟨⟨v,rfl,ht⟩,WR⟩:=hq;have j8:=ZC.o;rw[hn]at j8;have QR:=Z j8;have Ex:=Z ht;have Pl:=Z WR;clear j8 hn ht WR;go_wp2;go_ret2
 refine⟨?_,Vd⟩;rw[QR.o];exact⟨⟨v,rfl,Ex.o.keep (vX (X _)) YX.size (X _)⟩,Pl.o⟩):P:=h
def Wc(h:P:=by clear hn;go_enter func116,ntmps116;go_wp2;all_goals (first|(exfalso;omega)|(go_ret;exact⟨rfl,rfl⟩))):P:=h
def zib(h:P:=by obtain⟨d0,d1,d2,d3,d4,d5,d6,d7,d8,d9,d10⟩:=LP.cell;refine zU (v := .tuple #[mU (.pointer none) (.slice ca' cs.length cc') (.slice mQ os.length mJ) mi po gr fi ne dg s (.pointer none),.bool true]) ?_ rfl ⟨zj6,_,_,_,_,_,_,_,rfl⟩;simp[yk,results6,go_sem,d0,d1,d2,d3,d4,d5,d6,d7,d8,d9,d10]):P:=h
def yd0(h:P:=by have h1:=Qm.o;rw[zL (by rw[HK.o];decide),I7.o.1,I7.o.2]at h1;rw[zL (by rw[HK.o];decide)]at h1;exact h1):P:=h
def yd1(h:P:=by simp at hla;simp only[zI,zm,ur,xz];omega):P:=h
def zl0(h:P:=by
 have lt:∀(a:yi) (v:zx),w.cell? a=some v->a.block<(w:Nat):=λa v h=>Y w a h
 refine⟨λc hc=>?_,λi hi=>⟨?_,?_⟩⟩
 .rw[hb.cell (lt _ _ (h.1 c hc))];exact h.1 c hc
 .rw[hb.cell (lt _ _ (h.2 i hi).1)];exact(h.2 i hi).1
 .rw[hb.cell (lt _ _ (h.2 i hi).2)];exact(h.2 i hi).2):P:=h
def zl1(h:P:=by rw[hn]at hq aU;obtain rfl:=hq;have ZC:=Z aU;clear aU hn;go_wp2;refine⟨rfl,?_,UN⟩;rw[ZC.o]):P:=h
def ZA(h:P:=by simp[xW]):P:=h
def zl2(h:P:=by
 go_enter func123,ntmps123;go_wp2_with fail;refine HA.o.mono ?_;rintro e w1 ⟨⟨v,ev,rfl,hev⟩,qV⟩;rcases hev with rfl|⟨N,rfl⟩
 .go_wp2_with fail;refine(HCW.o _).mono ?_;rintro e w2 ⟨rfl,rfl⟩;go_wp2;exact⟨rfl,rfl,xj.of qV⟩
 .go_wp2;exact⟨rfl,rfl,xj.of qV⟩):P:=h
def We(h:P:=by unfold YA;rw[zM,zc (X _),ZO];rfl):P:=h
def YU(h:P:=by simp[zH]):P:=h
def yd2(h:P:=by exact⟨⟨⟨K,i,f,ma,mc,rfl,rfl,aQ,vs,gi.o.keep HKP.o qX.size HKP.o.1,zt.keep HKP.o qX.size HKP.o.1 _ _ D3.o⟩,HSF.o⟩,HBF.o⟩):P:=h
def Ej(h:P:=by
 go_wp2_with fail;go_meet
 case rel=>exact⟨by rw[HL.o],rfl⟩):P:=h
def Vb(h:P:=by simpa[zu,Fo.xV]using this):P:=h
def GV(h:P:=by rw[size_mk];unfold maxLen;omega):P:=h
def mG(h:P:=by
 induction l with
 |nil=>simp
 |cons a t ih=>have:=(Yh a).1;simp only[zn,zI,zm];omega):P:=h
def UO(h:P:=by unfold Xp;simp;omega):P:=h
def Eg(h:P:=by simp only[Fo.app,Fo.qa,Fo.Z8 r g];omega):P:=h
def mF(h:P:=by have:=uT k hk;omega):P:=h
def GU(h:P:=by simpa using hp0):P:=h
def Wi(h:P:=by
 simp only[Fo.wf,Fo.app,zQ]at h|-
 exact⟨h.1,Fo.Jv r g h.2 h2⟩):P:=h
def mD(h:P:=by
 go_wp2;go_ret2
 refine⟨?_,hb⟩;rw[<-HG.o,drop_cons t (k+1) Fv,go_bad HK.o MO.o (λq=>q.elim HP.o aK.o)];exact rfl):P:=h
def zl3(h:P:=by
 have hq:=zj7.o;rw[e6]at hq;have Wl:=Z hq;have E6:=Z e6;clear hq e6;have j8:r=none:=by
  rw[<-HR.o];simp[ya,E1.o,E2.o,E3.o,E4.o,E5.o,E6.o]
 have QR:=Z j8;clear j8;go_wp2;refine⟨rfl,?_,Vd⟩;rw[QR.o]):P:=h
def yd3(h:P:=by rw[zr Wm,ie,Cb.o];simp[HK2.o,HK.o,hq]):P:=h
def yd4(h:P:=by obtain⟨en1,en2⟩:=en;have HQ:=Z hq;obtain⟨bf,rfl,_,_⟩:=hq;go_wp2;exact⟨rfl,by rw[HT3.o];exact HQ.o,kL⟩):P:=h
def zl4(h:P:=by
 cases r <;>
 .go_wp2;go_ret2
  exact⟨by rw[HR.o];first|rfl|exact⟨_,rfl⟩,yd5⟩):P:=h
def mB(h:P:=by rw[zI,xH,e]at h4;rw[<-h4,zu,zm,zuy,jo]):P:=h
def mC(h:P:=by rw[za _ _ ⟨0,0,none⟩ (by simp<;>omega),za _ _ ⟨0,0,none⟩ ud];exact hg):P:=h
def zl5(h:P:=by
 cases r with
 |nil=>exact⟨rfl,rfl⟩
 |text t r=>cases Fu
 |hash r=>cases Fu
 |put n a r=>cases Fu
 |num n a r=>cases Fu
 |br n a fo of cl bs r=>cases Fu
 |uB k0 a0 m0 r0=>exfalso;simp only[Fo.len]at Vf;omega):P:=h
def Wn(h:P:=by
 simp only[Fo.wf,Fo.app,zQ]at h|-
 exact⟨h.1,I8 r g h.2⟩):P:=h
def Ef(h:P:=by intro u hu;simp at hu;rcases hu with rfl|rfl<;>rfl):P:=h
def yd6(h:P:=by rw[HF.o];have hk:xS (w1:Nat) (w2:Nat) w2 w3:=⟨kL.size,λk _ hk=>kL.block k hk⟩;exact⟨[],ma,mc,vs,rfl,gi.o.keep hk (X _) kL.size,zt.keep hk (X _) kL.size _ _ D3.o,rfl⟩):P:=h
def zl6(h:P:=by
 have hs:l=l.take k++l[k]::l.drop (k+1):=by rw[<-yH hk,List.take_append_drop]
 have h2:=congrArg (List.idxOf x) hs;rw[List.idxOf_append,zL h,List.idxOf_cons,hx]at h2;rw[h2];simp;omega):P:=h
def Ny(h:P:=by have:=Y1 _ _ _ hp;simp at this;omega):P:=h
def Wo(h:P:=by unfold zC;rw[zM,zw h];rfl):P:=h
def Ed(h:P:=by rw[<-Vh t n ud,<-hn,Vu]):P:=h
def Ju(h:P:=by simp[zu,Fo.app,Yw rs r g]):P:=h
def Pm(h:P:=by
 rcases Nat.lt_or_ge t.block (w:Nat)with h|h
 .exact h
 .simp[ze7,il h]at ht0):P:=h
def Jq(h:P:=by simp at h;omega):P:=h
def mH(h:P:=by
 go_enter func30,ntmps30;go_wp2;refine zU (v := .int .u8 (110:Nat)) ?_ rfl ?_
 .simp[yk,results30,go_sem]
 exact⟨by rw[HS.o],(z8 _ _).alloc (X _) _⟩):P:=h
def mL(h:P:=by
 simp only[hx,↓reduceIte];have fH:(Lit.string x) ≠ .string m:=λq=>hx (by cases q;rfl)
 exact⟨by rw[Xc fH];exact(h3 x).1,by rw[fF fH];exact(h3 x).2⟩):P:=h
def Jj(h:P:=by rw[<-hA];exact(Fr.refl _ _).alloc _):P:=h
def zoy(h:P:=by
 clear hc Pn Zw;rcases I9 with I9|I9;all_goals
  go_wp2;go_ret;rw[Hz.o,Vk.o];exact⟨rfl,rfl⟩):P:=h
def mM(h:P:=by rw[<-hY];show x.out.length+1<=1000000;omega):P:=h
def mN(h:P:=by rw[PE];exact⟨rfl,rfl,rfl,X _,λ_ _=>rfl⟩):P:=h
def mO(h:P:=by
 have ih:=kN s h r hf.2.2;unfold D4 at ih|-
 rw[zu,zn,ih,fT];unfold Wp;rw[zL hf.1];show(n,fW s (yf _ a))::_=_;rw[h a (xx hf.2.1)];rfl):P:=h
def Po(h:P:=by exact⟨MkS.le_trans (s.zox _ _) a,by simp only[Fo.keys,Fo.cw,MkS.VZ,ur];omega⟩):P:=h
def Iz(h:P:=by intro j u hu;rw[vA];have:=hC j;rw[this];simpa[xl]using hu):P:=h
def zov(h:P:=by
 clear hw5;clear mP mR aJ;go_wp2;go_meet
 case rel=>exact⟨n,rfl,Qn,hn9,aG.o,zj8,HE.o⟩):P:=h
def zou(h:P:=by
 have j8:r=none:=by rw[<-HR.o,bI,HO.o];dsimp only;unfold Us;rw[HM.o,zl rfl,HN.o];simp[hm0]
 have QR:=Z j8;subst hm0;clear j8;go_wp2;refine⟨rfl,?_,mS⟩;rw[QR.o]):P:=h
def zoq(h:P:=by obtain⟨en1,en2⟩:=en;have HQ:=Z hq;obtain⟨bf,rfl,_,_⟩:=hq;have HTE:=Z (show R = .error (en1,en2)from Eb.o);go_wp2;exact⟨rfl,by rw[HTE.o];exact HQ.o,Ut⟩):P:=h
def xK(h:P:=by rfl):P:=h
def Jg(h:P:=by simp[app,len,jZ r g];omega):P:=h
def zok(h:P:=by
 calc (10*v+(c.toNat - 48)+1)*10 ^ t.length<=((v+1)*10)*10 ^ t.length:=MI _ h3
  _=(v+1)*10 ^ (t.length+1):=by rw[Nat.pow_succ,Nat.mul_assoc,Nat.mul_comm 10]):P:=h
def mT(h:P:=by exact⟨by rw[HS.o],(z8 _ _).alloc (X _) _⟩):P:=h
def Y2(h:P:=by rw[h1];rfl):P:=h
def D5(h:P:=by
 go_wp2;go_ret2
 refine⟨?_,mW⟩;rw[HRN.o];rfl):P:=h
def Iy(h:P:=by have:=Fo.U3 r;simp only[Fo.cw,Fo.qa];omega):P:=h
def Ix(h:P:=by exact⟨rfl,X _,λj h1 h2=>by simp at h2;omega⟩):P:=h
def mr(h:P:=by rw[<-ZC.o];refine Ql ud HG.o ?_;rw[hp];exact Nx l1 l3):P:=h
def Uh(h:P:=by rw[yz];exact h0):P:=h
def Y3(h:P:=by simpa using h):P:=h
def n7(h:P:=by
 constructor
 .rintro((h|h)|h)
  .exact .inr (.inl h)
  .exact .inl h
  .exact .inr (.inr h)
 .rintro(h|h|h)
  .exact .inl (.inr h)
  .exact .inl (.inl h)
  .exact .inr h):P:=h
def Pp(h:P:=by rw[qc Vg.o,qc HSR.o];omega):P:=h
def VY(h:P:=by rw[heap_set h.h];rfl):P:=h
def Pr(h:P:=by simp[Lit.wf,IntKind.min,IntKind.max,IntKind.signed,IntKind.bits];omega):P:=h
def X0(h:P:=by cases q):P:=h
def n9(h:P:=by refine⟨⟨by simp only;omega,by simp only;rw[e1.2.1];omega,λm hm=>?_⟩,by simp only;omega,e1.2.2.1⟩;have:=e3 m hm;exact⟨this.1,by simp only;omega⟩):P:=h
def Ps(h:P:=by go_enter func27,ntmps27;go_wp2;go_ret;rw[Hz.o,Vk.o];exact⟨rfl,rfl⟩):P:=h
def Iv(h:P:=by simp only[Fo.app,Fo.cnt,Fo.U4 r g];omega):P:=h
def Iu(h:P:=by clear ZE ZW;go_wp2;go_ret;exact⟨rfl,z8 _ _⟩):P:=h
def Iq(h:P:=by have:=Fq.lt;omega):P:=h
def Ik(h:P:=by have:=Xr.lt;omega):P:=h
def Pt(h:P:=by
 rcases yp.1 h with rfl|h
 .exact zG _
 .exact YQ E r m h):P:=h
def D6(h:P:=by rw[fE];exact zg _ _ _ _ _):P:=h
def Ph(h:P:=by obtain⟨D,⟨es,clock,ho,_⟩,_⟩:=h;exact(vN.1 ho).1):P:=h
def zog(h:P:=by rw[ub,HUD.o];rfl):P:=h
def zof(h:P:=by rw[kT,HUD.o];rfl):P:=h
def Jf(h:P:=by go_wp2;go_ret;exact⟨rfl,rfl⟩):P:=h
def Pw(h:P:=by have:=Ij cl bs [] [];have:=HF.o.few;simp only[ur]at *;omega):P:=h
def Ig(h:P:=by rw[ByteArray.size_extract];omega):P:=h
def nz(h:P:=by exact xZ ((hb.mono (xx ud)).grown hg (zZ (xx ud) hb.size) (λg e=>xx (hr g e))) (X _)):P:=h
def Uw(h:P:=by simp[h]):P:=h
def ny(h:P:=by
 unfold vU;induction l with
 |nil=>rfl
 |cons a r ih=>simp only[zn,zI,ih,zm];simp[xl];omega):P:=h
def nu(h:P:=by obtain⟨vt,b,rfl,l1,l2,c0,c1,hr⟩:=h;obtain⟨us,xs,rfl,h1,h2⟩:=zt.split r vt hr;exact⟨_,xs,rfl,⟨us,b,rfl,l1,l2,c0,c1,h1⟩,h2⟩):P:=h
def nj(h:P:=by
 clear Fy kL;go_wp2;refine zU (v := .tuple #[]) ?_ rfl ?_
 .simp[yk,results48,go_sem]
 rw[HL.o];exact⟨rfl,GZ.o,HW3.o⟩):P:=h
def ng(h:P:=by rw[hn]at hq;obtain rfl:=hq;have j8:=ZC.o;rw[hn]at j8;have QR:=Z j8;clear j8 hn;go_wp2;refine⟨rfl,?_,UN⟩;rw[QR.o];rfl):P:=h
def nZ(h:P:=by rw[hn]at hq;obtain rfl:=hq;have j8:=ZC.o;rw[hn]at j8;have QR:=Z j8;clear j8 hn;go_wp2;refine⟨rfl,?_,Vd⟩;rw[QR.o];rfl):P:=h
def nY(h:P:=by rw[hn]at hq;obtain rfl:=hq;have j8:=ZC.o;rw[hn]at j8;have QR:=Z j8;clear j8 hn;go_wp2;refine⟨rfl,?_,YX⟩;rw[QR.o];rfl):P:=h
def nX(h:P:=by rw[hW,<-HHI.o];exact zg _ _ _ _ _):P:=h
def gU(h:P:=by cases e):P:=h
def Jd(h:P:=by rw[yz];omega):P:=h
def R0(h:P:=by have Wr:u.size=t.length+1:=U5.o;omega):P:=h
def nU(h:P:=by
 have h1:vs[i]? = some x0:=by rw[aF.o,<-nQ.o];simp
 rw[zw (by have:=HVL.o;omega)]at h1;exact zR h1):P:=h
def If(h:P:=by simp only[binOp];simp[Op.equal,Op.maxDepth,h 9999]):P:=h
def R1(h:P:=by rw[HM.o,HA.o,HK.o,HAL.o];exact Cf.o):P:=h
def Q5(h:P:=by simp[zu];omega):P:=h
def nK(h:P:=by rw[hW];exact aD.alloc aD.size _):P:=h
def R2(h:P:=by have:=uT k h2.symm;omega):P:=h
def Ib(h:P:=by subst hr;exact⟨.nil,_,rfl,rfl,rfl,rfl,rfl⟩):P:=h
def nJ(h:P:=by
 intro l h' hh hg g e;rcases hat with q|q
 .exact hg g (q▸e)
 .rw[q]at e
  cases e;exact .inr (zZ hh hb.size)):P:=h
def R3(h:P:=by have:=jw [44] ws [];unfold yY;omega):P:=h
def D7(h:P:=by simp[Fo.len,zt.count r vt hr hm]):P:=h
def zob(h:P:=by
 exfalso;rw[ze7,il h]at hg
 cases hg):P:=h
def nG(h:P:=by simpa using hp):P:=h
def nF(h:P:=by
 cases t with
 |nil=>simp[kZ]at h
 |cons d u =>
  simp[kZ]at h;obtain⟨rfl,rfl⟩:=h;rfl):P:=h
def Jb(h:P:=by simp at hj;omega):P:=h
def nD(h:P:=by
 cases hv:v.ownBlock with
 |none=>exact .inl rfl
 |some g=>exact .inr (λe=>by have:=(h.lt g hv).1;cases e;omega)):P:=h
def nE(h:P:=by obtain⟨vt,rfl,hr⟩:=h;obtain⟨us,xs,rfl,h1,h2⟩:=zt.split r vt hr;exact⟨_,xs,rfl,⟨us,rfl,h1⟩,h2⟩):P:=h
def R4(h:P:=by unfold Fk;rw[MkS.Qp _ (λs i=>X3 s i 0)];omega):P:=h
def R5(h:P:=by clear hp;go_wp2;go_ret;refine⟨Fm,?_⟩;rw[HF.o];exact rfl):P:=h
def D8(h:P:=by simp[yk,results49,go_sem]):P:=h
def nH(h:P:=by simp[yk,results48,go_sem]):P:=h
def nL(h:P:=by rw[vF,beq_iff_eq,beq_iff_eq];rw[vF,beq_iff_eq,qP]at h2;rw[<-h2];omega):P:=h
def nM(h:P:=by
 have j8:r=none:=by rw[<-Qm.o,zl HK.o]
 have QR:=Z j8;clear j8;go_wp2;refine⟨rfl,?_,hb⟩;rw[QR.o]):P:=h
def nN(h:P:=by
 cases xs with
 |nil=>have h1:=HVL.o;rw[aF.o]at h1;have:=nQ.o;simp at h1;omega
 |cons a b=>exact⟨a,b,rfl⟩):P:=h
def nO(h:P:=by rw[zM,zw (show m<acc.length by omega)];exact xd _):P:=h
def JZ(h:P:=by simp[zu,hm,hz]):P:=h
def nR(h:P:=by obtain⟨b,qV,qX⟩:=hc j hj;refine⟨b,qV,?_⟩;rw[hb.cell (Y w _ qX)];exact qX):P:=h
def nS(h:P:=by have HQ:=Z hq;obtain⟨bf,rfl,_,_⟩:=hq;clear gC;go_wp2;exact⟨rfl,by rw[Cd.o];exact HQ.o,qV⟩):P:=h
def R6(h:P:=by show(w.heap.push _)[(w:Nat)]? = _;simp):P:=h
def D9(h:P:=by simpa using hj):P:=h
def IZ(h:P:=by rw[q]at hc;revert hc;decide):P:=h
def nT(h:P:=by rw[show((48:Int))=(((48:UInt8).toNat:Nat):Int)from rfl,vZ];simpa using λe=>hzz ⟨ZE,e⟩):P:=h
def VX(h:P:=by exact X _):P:=h
def IY(h:P:=by simp at hl;omega):P:=h
def IX(h:P:=by simp[qI,YK,gm]):P:=h
def ni(h:P:=by show((yV (rs.drop (i+1))).1.flatMap enc).length+4*i<=4*(i+1+(yV (rs.drop (i+1))).2);omega):P:=h
def nl(h:P:=by rw[Vr hi (show ku (.string m)from trivial)];simp):P:=h
def IV(h:P:=by simp[Fo.keys];omega):P:=h
def nw(h:P:=by
 intro x hxm;rcases xY.1 hxm with q|q
 .have:=hx x q;omega
 .simp at q;subst q;simp):P:=h
def IU(h:P:=by simpa using ud):P:=h
def R7(h:P:=by unfold MkS.sz at hs;omega):P:=h
def o0(h:P:=by obtain⟨vt,b,rfl,l1,l2,c0,c1,hr⟩:=h;exact⟨_,b,rfl,l1,l2,c0,c1,zt.app hg r vt hr⟩):P:=h
def o5(h:P:=by rcases hg with hg|hg<;>cases hg;have:=Dz.base;show L1.B<=(w1:Nat);omega):P:=h
def o6(h:P:=by obtain⟨D,⟨es,clock,ho,rest⟩,h2⟩:=h;exact⟨D,⟨es,clock,hb.trans ho,rest⟩,h2⟩):P:=h
def o7(h:P:=by rw[hD,HL.o]at h;exact h):P:=h
def Dy(h:P:=by simp[zu]):P:=h
def IQ(h:P:=by simpa using ho):P:=h
def R8(h:P:=by rw[<-hB];exact(Fr.refl _ _).alloc _):P:=h
def R9(h:P:=by rw[<-hC];exact(Fr.refl _ _).alloc _):P:=h
def Rz(h:P:=by go_wp2;go_ret;refine⟨dE ?_,rfl⟩;simp[*]):P:=h
def IK(h:P:=by unfold Xs at h2;omega):P:=h
def o8(h:P:=by
 rw[hv]at e
 cases e;unfold C9 at hk;rw[hk]at hh;have:=(zR hh)
 cases this):P:=h
def IJ(h:P:=by simp[yk,results12,go_sem]):P:=h
def Dx(h:P:=by have:=Cf.o;omega):P:=h
def o9(h:P:=by obtain⟨k,cap,hv,he,hc⟩:=h;exact⟨k,cap,hv,he,λW hW=>hc W (hW.via hk h1 h2)⟩):P:=h
def Ry(h:P:=by exact⟨rfl,by rw[this.2];exact key _ this.1⟩):P:=h
def oz(h:P:=by rw[zw (by have:=aB.o;omega)]at h1;exact zR h1):P:=h
def Rx(h:P:=by rw[List.dropLast_concat_getLast]):P:=h
def oy(h:P:=by
 rcases hq with hq|hq|hq
 .exact Kp.fp q hq
 .cases hq;exact .inr Kp.size
 .cases hq):P:=h
def oq(h:P:=by have:=(Yh (zC rs i)).1;show(enc (zC rs i)).length+4*i<=4*(i+1);omega):P:=h
def og(h:P:=by rw[Rv,List.getElem?_map,zw hj]at hu;simpa using hu):P:=h
def zp0(h:P:=by simp[yk,results135,go_sem,k0,k1,k2]):P:=h
def Ru(h:P:=by simp[qI,YK,gm,gz,Qr]):P:=h
def Rq(h:P:=by rcases hg with hg|hg<;>cases hg):P:=h
def od(h:P:=by rw[<-HR.o,HN.o];show(match pOr ws with|some (T,[])=>some T|_=>none)=_;rw[HPO.o]):P:=h
def JY(h:P:=by rw[fe];simp):P:=h
def Rk(h:P:=by simp only[Fo.cnt,Fo.wt];omega):P:=h
def oZ(h:P:=by unfold vr;rw[X9,zI];exact CZ):P:=h
def oY(h:P:=by
 obtain rfl:k=s.size:=by omega
 go_wp2;go_ret;rw[Vu];exact⟨rfl,rfl⟩):P:=h
def IG(h:P:=by have:=MP.o.1;omega):P:=h
def oX(h:P:=by have:=CY.lt;omega):P:=h
def oV(h:P:=by have:=CX.lt;omega):P:=h
def oU(h:P:=by
 go_wp2_with fail;go_meet
 case rel =>
  rw[HY.o,HT.o];exact⟨Fs.o,oQ.o⟩):P:=h
def oK(h:P:=by rw[show runN jY rs i=vg rs i from rfl,hN];exact hk):P:=h
def Rj(h:P:=by rw[hW];constructor<;>go_simp):P:=h
def oJ(h:P:=by exact .inr ⟨λx hx b=>by rw[YJ,hb x hx],.inl (by rw[qs,hq])⟩):P:=h
def oG(h:P:=by intro u hu;simp only[jO,yk5]at hu;obtain⟨c,_,rfl⟩:=hu;rfl):P:=h
def oF(h:P:=by go_wp2;go_ret;exact⟨congrArg (λn:Nat=>UK n) HF.o,rfl⟩):P:=h
def oD(h:P:=by
 rcases yp.1 h with rfl|h
 .exact E.le a
 .exact YQ E r m h):P:=h
def oB(h:P:=by show q≠B+1;omega):P:=h
def oC(h:P:=by have:=cQD.lt;omega):P:=h
def Rf(h:P:=by cases hh;exact⟨rfl,rfl⟩):P:=h
def oE(h:P:=by
 split
 .exact(dW x 3 x.i).trans (Xz _ _)
 .exact Xz _ _):P:=h
def oH(h:P:=by rw[fe];exact(z8 _ _).alloc (X _) _):P:=h
def oI(h:P:=by unfold zC;rw[zM,Xe h];rfl):P:=h
def oL(h:P:=by
 split
 .exact⟨x.U6 _ _,X3 _ _ _⟩
 .exact MkS.zp2 _ _ _ _):P:=h
def oM(h:P:=by
 go_wp2;go_ret3
 exact⟨rfl,(z8 _ _).alloc (X _) _⟩):P:=h
def oN(h:P:=by rw[yq (by rw[mf.o];omega)];exact yM.aC):P:=h
def zp3(h:P:=by have hk2:g2=k:=zR hk;have:=oO.1;omega):P:=h
def IF(h:P:=by constructor<;>intro h<;>omega):P:=h
def Rb(h:P:=by simp[ByteArray.getElem_eq_getElem_data]):P:=h
def oP(h:P:=by refine⟨_,?_,(by rw[H1.o,hz];simpa using uT),hb⟩;rw[H2.o,hz];rfl):P:=h
def ID(h:P:=by have:=HN1.o;omega):P:=h
def zp4(h:P:=by rw[<-HE.o];exact⟨rfl,HH.o.below (z8 _ _).drew,HBW.o.drew⟩):P:=h
def oR(h:P:=by have:=(vq.1 hu).1;simpa[jO,vJ]using this):P:=h
def RZ(h:P:=by unfold maxLen at h2;omega):P:=h
def zp5(h:P:=by have:=HD.o.2 e;cases this):P:=h
def RY(h:P:=by simp[qI,YK,gm,gz]):P:=h
def RX(h:P:=by simp[kZ]at h;subst h;rfl):P:=h
def oS(h:P:=by obtain⟨vt,e,hr⟩:=h;exact⟨vt,e,zt.keep hk h1 h2 r vt hr⟩):P:=h
def oT(h:P:=by rw[zr h,List.any_append,h0];simp[hT]):P:=h
def Q6(h:P:=by cases hk):P:=h
def oW(h:P:=by intro u hu;simp[xl]at hu;rcases hu with rfl|rfl|rfl|rfl<;>rfl):P:=h
def oA(h:P:=by simp only[Fo.keys,Fo.cw,ur];omega):P:=h
def oe(h:P:=by show(xn (l.take 0)).1.length=0;rw[List.take_zero,qJ];rfl):P:=h
def zp6(h:P:=by have:=xI.2 (Qs r);omega):P:=h
def IB(h:P:=by exact(JX h).trans s1):P:=h
def om(h:P:=by obtain⟨vt,rfl,hr⟩:=h;exact⟨_,rfl,zt.app hg r vt hr⟩):P:=h
def RV(h:P:=by rw[hch];exact⟨rfl,HF.o⟩):P:=h
def oh(h:P:=by refine fR ?_ _;go_wp2;go_ret;rw[HF.o];exact⟨rfl,HD.o,HB.o⟩):P:=h
def ow(h:P:=by rw[hb.cell (Y w _ h2)];exact h2):P:=h
def p7(h:P:=by have:=(Yh 39).1;show(enc 39).length+4*i<=4*(i+2);omega):P:=h
def p8(h:P:=by have:=(Yh 39).1;show(enc 39).length+4*i<=4*(i+1);omega):P:=h
def p9(h:P:=by have:=Nv.o;simp[Fo.wf]at this;exact this.1):P:=h
def zp7(h:P:=by simp[qb]at e;have qV:=zl8.o;have:=HBq.o;omega):P:=h
def zp8(h:P:=by simp[qb]at e;have:=HBq.o;omega):P:=h
def RU(h:P:=by simp[yk,results93,go_sem]):P:=h
def py(h:P:=by unfold gp;rw[hPR,px];dsimp only;rw[c1]):P:=h
def pq(h:P:=by simp[zH,neq,nin,nne,U7,nis,nnot]):P:=h
def zp9(h:P:=by simp[qb]at e;have:=HQ.o;omega):P:=h
def IC(h:P:=by simp[xM]):P:=h
def IE(h:P:=by rw[IH.o];simp):P:=h
def pk(h:P:=by rw[Nu,E.xvq,zQ,qP];exact hc):P:=h
def zpz(h:P:=by rw[Pn]at this;simp at this;omega):P:=h
def pj(h:P:=by cases hg;exact yO _ (Dz.lt q)):P:=h
def pg(h:P:=by have:=xI.2 h1;simp;omega):P:=h
def pd(h:P:=by have:=hF g q;have:=(h.all g hg).2.1;omega):P:=h
def RQ(h:P:=by
 go_wp2;go_ret2
 exact⟨rfl,bj⟩):P:=h
def RJ(h:P:=by rw[uu,hl];rfl):P:=h
def JV(h:P:=by cases hm):P:=h
def zpy(h:P:=by
 intro L;refine wpAnyH_ready (rs:=[1,3,4]) yy (by simp) (uv rfl (λK hK=>?_) (uv rfl (λK hK=>?_) (uv rfl (λK hK=>?_) Ye)))
 .skip
  go_simp;refine(CV.o wD GQ HPD.o).mono ?_;rintro e Za ⟨hq,II⟩;obtain⟨q0,gC⟩:=zo (uE (t).tail);rw[gC]at hq
  cases q0 with
  |none =>
   obtain rfl:=hq;refine⟨rfl,?_,GQ.trans II⟩;exact Nz
  |some q0 =>
   obtain⟨mv,t3⟩:=q0;have HN:=Z gC;obtain⟨rfl,FC⟩:=hq;have Nq:=Z FC;have jl:=GQ.trans II;have Fq:=cQD.but II CU;clear gC;clear FC;refine hK.out _ _ Fq.c λ_=>?_;clear hK K;refine wpAnyH_ready (rs:=[3,4]) yy (by simp) (uv rfl (λK hK=>?_) (uv rfl (λK hK=>?_) Ye))
   .skip
    go_simp;have FA:∃N,N=Za.alloc (.cells #[(.int .i64 0)] 3)/\xj p Za N/\vd N (Za:Nat) (.int .i64 0):=⟨_,rfl,(xj.refl _ _).alloc _,vd.made _ _ _ zj⟩;obtain⟨bZ,hW,Z9,CY⟩:=FA;have Dv:∀o,o=qQ (Za,0)->o=o:=λ_ _=>rfl
    rw[<-hW];have Du:=Z (Nq.o.below (show yX Za Za bZ by rw[hW];exact(z8 _ _).alloc (X _) _));have kW:=jl.trans Z9;have Xr:=Fq.but Z9 CU;have fI:(w:Nat)<=(Za:Nat):=jl.size;have Xy:(Za:Nat)≠Q:=λe=>Iq
    clear hW Dv;obtain⟨k4,QS⟩:∃k,k=(Za:Nat):=⟨_,rfl⟩;rw[<-QS]at CY fI Xy|-
    have Xt:k4≠p:=J
    have HK4:=Z QS;clear QS;refine hK.out _ _ Xr.c λ_=>?_;clear hK K;refine bF 4 (λK hK=>?_);go_simp;have FA:∃N,N=bZ.alloc (.cells #[.nilFunc] 250)/\xj p bZ N/\vd N (bZ:Nat) .nilFunc:=⟨_,rfl,(xj.refl _ _).alloc _,vd.made _ _ _ zj⟩;obtain⟨Nk,hW,ft,Q7⟩:=FA;have Dv:∀o,o=qQ (bZ,0)->o=o:=λ_ _=>rfl
    rw[<-hW];have JU:=Z (Du.o.below (show yX bZ bZ Nk by rw[hW];exact(z8 _ _).alloc (X _) _));have fw:=kW.trans ft;have YG:=Xr.but ft CU;have fL:(w:Nat)<=(bZ:Nat):=kW.size;have Xx:(bZ:Nat)≠Q:=λe=>Ik
    clear hW Dv;have Xh:=CY.but ft Xt;have Dq:(bZ:Nat)≠k4:=λe=>oX
    obtain⟨k5,FE⟩:∃k,k=(bZ:Nat):=⟨_,rfl⟩;rw[<-FE]at Q7 fL Xx|-
    rw[<-FE]at Dq;have Xw:k5≠p:=J
    have HK5:=Z FE;clear FE;refine hK.out _ _ YG.c λ_=>?_;clear hK K;refine U8 (m:=#[true,true,true,true,true,false,false]) (by kernel_rfl) ?_;exact L Nk k4 k5 mv ⟨⟨t3,HN.o,JU.o⟩,fw,YG,Xh,Q7,fI,fL,J,Xt,Xw,Xy,Xx⟩
   .skip
    go_simp;have FA:∃N,N=Za.alloc (.cells #[.nilFunc] 250)/\xj p Za N/\vd N (Za:Nat) .nilFunc:=⟨_,rfl,(xj.refl _ _).alloc _,vd.made _ _ _ zj⟩;obtain⟨bZ,hW,Z9,CX⟩:=FA;have Dv:∀o,o=qQ (Za,0)->o=o:=λ_ _=>rfl
    rw[<-hW];have Du:=Z (Nq.o.below (show yX Za Za bZ by rw[hW];exact(z8 _ _).alloc (X _) _));have kW:=jl.trans Z9;have Xr:=Fq.but Z9 CU;have fL:(w:Nat)<=(Za:Nat):=jl.size;have Xx:(Za:Nat)≠Q:=λe=>Iq
    clear hW Dv;obtain⟨k5,FE⟩:∃k,k=(Za:Nat):=⟨_,rfl⟩;rw[<-FE]at CX fL Xx|-
    have Xw:k5≠p:=J
    have HK5:=Z FE;clear FE;refine hK.out _ _ Xr.c λ_=>?_;clear hK K;refine bF 3 (λK hK=>?_);go_simp;have FA:∃N,N=bZ.alloc (.cells #[(.int .i64 0)] 3)/\xj p bZ N/\vd N (bZ:Nat) (.int .i64 0):=⟨_,rfl,(xj.refl _ _).alloc _,vd.made _ _ _ zj⟩;obtain⟨Nk,hW,ft,Xh⟩:=FA;have Dv:∀o,o=qQ (bZ,0)->o=o:=λ_ _=>rfl
    rw[<-hW];have JU:=Z (Du.o.below (show yX bZ bZ Nk by rw[hW];exact(z8 _ _).alloc (X _) _));have fw:=kW.trans ft;have YG:=Xr.but ft CU;have fI:(w:Nat)<=(bZ:Nat):=kW.size;have Xy:(bZ:Nat)≠Q:=λe=>Ik
    clear hW Dv;have Q7:=CX.but ft Xw;have Dq:(bZ:Nat)≠k5:=λe=>oV
    obtain⟨k4,QS⟩:∃k,k=(bZ:Nat):=⟨_,rfl⟩;rw[<-QS]at Xh fI Xy|-
    rw[<-QS]at Dq;have Xt:k4≠p:=J
    have HK4:=Z QS;clear QS;refine hK.out _ _ YG.c λ_=>?_;clear hK K;refine U8 (m:=#[true,true,true,true,true,false,false]) (by kernel_rfl) ?_;exact L Nk k4 k5 mv ⟨⟨t3,HN.o,JU.o⟩,fw,YG,Xh,Q7,fI,fL,J,Xt,Xw,Xy,Xx⟩
 .skip
  go_simp;have FA:∃N,N=wD.alloc (.cells #[(.int .i64 0)] 3)/\xj p wD N/\vd N (wD:Nat) (.int .i64 0):=⟨_,rfl,(xj.refl _ _).alloc _,vd.made _ _ _ zj⟩;obtain⟨Za,hW,II,zjz⟩:=FA;have Dv:∀o,o=qQ (wD,0)->o=o:=λ_ _=>rfl
  rw[<-hW];have Nq:=Z (HPD.o.below (show yX wD wD Za by rw[hW];exact(z8 _ _).alloc (X _) _));have jl:=GQ.trans II;have Fq:=cQD.but II CU;have fI:(w:Nat)<=(wD:Nat):=GQ.size;have Xy:(wD:Nat)≠Q:=λe=>oC
  clear hW Dv;obtain⟨k4,QS⟩:∃k,k=(wD:Nat):=⟨_,rfl⟩;rw[<-QS]at zjz fI Xy|-
  have Xt:k4≠p:=J
  have HK4:=Z QS;clear QS;refine hK.out _ _ Fq.c λ_=>?_;clear hK K;refine wpAnyH_ready (rs:=[1,4]) yy (by simp) (uv rfl (λK hK=>?_) (uv rfl (λK hK=>?_) Ye))
  .skip
   go_simp;refine(CV.o Za jl Nq.o).mono ?_;rintro e bZ ⟨hq,Z9⟩;obtain⟨q0,gC⟩:=zo (uE (t).tail);rw[gC]at hq
   cases q0 with
   |none =>
    obtain rfl:=hq;refine⟨rfl,?_,jl.trans Z9⟩;exact Nz
   |some q0 =>
    obtain⟨mv,t3⟩:=q0;have HN:=Z gC;obtain⟨rfl,FC⟩:=hq;have Du:=Z FC;have kW:=jl.trans Z9;have Xr:=Fq.but Z9 CU;clear gC;have CY:=zjz.but Z9 Xt;clear FC;refine hK.out _ _ Xr.c λ_=>?_;clear hK K;refine bF 4 (λK hK=>?_);go_simp;have FA:∃N,N=bZ.alloc (.cells #[.nilFunc] 250)/\xj p bZ N/\vd N (bZ:Nat) .nilFunc:=⟨_,rfl,(xj.refl _ _).alloc _,vd.made _ _ _ zj⟩;obtain⟨Nk,hW,ft,Q7⟩:=FA;have Dv:∀o,o=qQ (bZ,0)->o=o:=λ_ _=>rfl
    rw[<-hW];have JU:=Z (Du.o.below (show yX bZ bZ Nk by rw[hW];exact(z8 _ _).alloc (X _) _));have fw:=kW.trans ft;have YG:=Xr.but ft CU;have fL:(w:Nat)<=(bZ:Nat):=kW.size;have Xx:(bZ:Nat)≠Q:=λe=>Ik
    clear hW Dv;have Xh:=CY.but ft Xt;have Dq:(bZ:Nat)≠k4:=λe=>oX
    obtain⟨k5,FE⟩:∃k,k=(bZ:Nat):=⟨_,rfl⟩;rw[<-FE]at Q7 fL Xx|-
    rw[<-FE]at Dq;have Xw:k5≠p:=J
    have HK5:=Z FE;clear FE;refine hK.out _ _ YG.c λ_=>?_;clear hK K;refine U8 (m:=#[true,true,true,true,true,false,false]) (by kernel_rfl) ?_;exact L Nk k4 k5 mv ⟨⟨t3,HN.o,JU.o⟩,fw,YG,Xh,Q7,fI,fL,J,Xt,Xw,Xy,Xx⟩
  .skip
   go_simp;have FA:∃N,N=Za.alloc (.cells #[.nilFunc] 250)/\xj p Za N/\vd N (Za:Nat) .nilFunc:=⟨_,rfl,(xj.refl _ _).alloc _,vd.made _ _ _ zj⟩;obtain⟨bZ,hW,Z9,CX⟩:=FA;have Dv:∀o,o=qQ (Za,0)->o=o:=λ_ _=>rfl
   rw[<-hW];have Du:=Z (Nq.o.below (show yX Za Za bZ by rw[hW];exact(z8 _ _).alloc (X _) _));have kW:=jl.trans Z9;have Xr:=Fq.but Z9 CU;have fL:(w:Nat)<=(Za:Nat):=jl.size;have Xx:(Za:Nat)≠Q:=λe=>Iq
   clear hW Dv;have CY:=zjz.but Z9 Xt;have Dq:(Za:Nat)≠k4:=λe=>by have:=zjz.lt;omega
   obtain⟨k5,FE⟩:∃k,k=(Za:Nat):=⟨_,rfl⟩;rw[<-FE]at CX fL Xx|-
   rw[<-FE]at Dq;have Xw:k5≠p:=J
   have HK5:=Z FE;clear FE;refine hK.out _ _ Xr.c λ_=>?_;clear hK K;refine bF 1 (λK hK=>?_);go_simp;refine(CV.o bZ kW Du.o).mono ?_;rintro e Nk ⟨hq,ft⟩;obtain⟨q0,gC⟩:=zo (uE (t).tail);rw[gC]at hq
   cases q0 with
   |none =>
    obtain rfl:=hq;refine⟨rfl,?_,kW.trans ft⟩;exact Nz
   |some q0 =>
    obtain⟨mv,t3⟩:=q0;have HN:=Z gC;obtain⟨rfl,FC⟩:=hq;have JU:=Z FC;have fw:=kW.trans ft;have YG:=Xr.but ft CU;clear gC;have Xh:=CY.but ft Xt;have Q7:=CX.but ft Xw;clear FC;refine hK.out _ _ YG.c λ_=>?_;clear hK K;refine U8 (m:=#[true,true,true,true,true,false,false]) (by kernel_rfl) ?_;exact L Nk k4 k5 mv ⟨⟨t3,HN.o,JU.o⟩,fw,YG,Xh,Q7,fI,fL,J,Xt,Xw,Xy,Xx⟩
 .skip
  go_simp;have FA:∃N,N=wD.alloc (.cells #[.nilFunc] 250)/\xj p wD N/\vd N (wD:Nat) .nilFunc:=⟨_,rfl,(xj.refl _ _).alloc _,vd.made _ _ _ zj⟩;obtain⟨Za,hW,II,zjy⟩:=FA;have Dv:∀o,o=qQ (wD,0)->o=o:=λ_ _=>rfl
  rw[<-hW];have Nq:=Z (HPD.o.below (show yX wD wD Za by rw[hW];exact(z8 _ _).alloc (X _) _));have jl:=GQ.trans II;have Fq:=cQD.but II CU;have fL:(w:Nat)<=(wD:Nat):=GQ.size;have Xx:(wD:Nat)≠Q:=λe=>oC
  clear hW Dv;obtain⟨k5,FE⟩:∃k,k=(wD:Nat):=⟨_,rfl⟩;rw[<-FE]at zjy fL Xx|-
  have Xw:k5≠p:=J
  have HK5:=Z FE;clear FE;refine hK.out _ _ Fq.c λ_=>?_;clear hK K;refine wpAnyH_ready (rs:=[1,3]) yy (by simp) (uv rfl (λK hK=>?_) (uv rfl (λK hK=>?_) Ye))
  .skip
   go_simp;refine(CV.o Za jl Nq.o).mono ?_;rintro e bZ ⟨hq,Z9⟩;obtain⟨q0,gC⟩:=zo (uE (t).tail);rw[gC]at hq
   cases q0 with
   |none =>
    obtain rfl:=hq;refine⟨rfl,?_,jl.trans Z9⟩;exact Nz
   |some q0 =>
    obtain⟨mv,t3⟩:=q0;have HN:=Z gC;obtain⟨rfl,FC⟩:=hq;have Du:=Z FC;have kW:=jl.trans Z9;have Xr:=Fq.but Z9 CU;clear gC;have CX:=zjy.but Z9 Xw;clear FC;refine hK.out _ _ Xr.c λ_=>?_;clear hK K;refine bF 3 (λK hK=>?_);go_simp;have FA:∃N,N=bZ.alloc (.cells #[(.int .i64 0)] 3)/\xj p bZ N/\vd N (bZ:Nat) (.int .i64 0):=⟨_,rfl,(xj.refl _ _).alloc _,vd.made _ _ _ zj⟩;obtain⟨Nk,hW,ft,Xh⟩:=FA;have Dv:∀o,o=qQ (bZ,0)->o=o:=λ_ _=>rfl
    rw[<-hW];have JU:=Z (Du.o.below (show yX bZ bZ Nk by rw[hW];exact(z8 _ _).alloc (X _) _));have fw:=kW.trans ft;have YG:=Xr.but ft CU;have fI:(w:Nat)<=(bZ:Nat):=kW.size;have Xy:(bZ:Nat)≠Q:=λe=>Ik
    clear hW Dv;have Q7:=CX.but ft Xw;have Dq:(bZ:Nat)≠k5:=λe=>oV
    obtain⟨k4,QS⟩:∃k,k=(bZ:Nat):=⟨_,rfl⟩;rw[<-QS]at Xh fI Xy|-
    rw[<-QS]at Dq;have Xt:k4≠p:=J
    have HK4:=Z QS;clear QS;refine hK.out _ _ YG.c λ_=>?_;clear hK K;refine U8 (m:=#[true,true,true,true,true,false,false]) (by kernel_rfl) ?_;exact L Nk k4 k5 mv ⟨⟨t3,HN.o,JU.o⟩,fw,YG,Xh,Q7,fI,fL,J,Xt,Xw,Xy,Xx⟩
  .skip
   go_simp;have FA:∃N,N=Za.alloc (.cells #[(.int .i64 0)] 3)/\xj p Za N/\vd N (Za:Nat) (.int .i64 0):=⟨_,rfl,(xj.refl _ _).alloc _,vd.made _ _ _ zj⟩;obtain⟨bZ,hW,Z9,CY⟩:=FA;have Dv:∀o,o=qQ (Za,0)->o=o:=λ_ _=>rfl
   rw[<-hW];have Du:=Z (Nq.o.below (show yX Za Za bZ by rw[hW];exact(z8 _ _).alloc (X _) _));have kW:=jl.trans Z9;have Xr:=Fq.but Z9 CU;have fI:(w:Nat)<=(Za:Nat):=jl.size;have Xy:(Za:Nat)≠Q:=λe=>Iq
   clear hW Dv;have CX:=zjy.but Z9 Xw;have Dq:(Za:Nat)≠k5:=λe=>by have:=zjy.lt;omega
   obtain⟨k4,QS⟩:∃k,k=(Za:Nat):=⟨_,rfl⟩;rw[<-QS]at CY fI Xy|-
   rw[<-QS]at Dq;have Xt:k4≠p:=J
   have HK4:=Z QS;clear QS;refine hK.out _ _ Xr.c λ_=>?_;clear hK K;refine bF 1 (λK hK=>?_);go_simp;refine(CV.o bZ kW Du.o).mono ?_;rintro e Nk ⟨hq,ft⟩;obtain⟨q0,gC⟩:=zo (uE (t).tail);rw[gC]at hq
   cases q0 with
   |none =>
    obtain rfl:=hq;refine⟨rfl,?_,kW.trans ft⟩;exact Nz
   |some q0 =>
    obtain⟨mv,t3⟩:=q0;have HN:=Z gC;obtain⟨rfl,FC⟩:=hq;have JU:=Z FC;have fw:=kW.trans ft;have YG:=Xr.but ft CU;clear gC;have Xh:=CY.but ft Xt;have Q7:=CX.but ft Xw;clear FC;refine hK.out _ _ YG.c λ_=>?_;clear hK K;refine U8 (m:=#[true,true,true,true,true,false,false]) (by kernel_rfl) ?_;exact L Nk k4 k5 mv ⟨⟨t3,HN.o,JU.o⟩,fw,YG,Xh,Q7,fI,fL,J,Xt,Xw,Xy,Xx⟩):P:=h
def pZ(h:P:=by
 simp only[Bool.not_true,yp9];go_wp2;go_loopw [13,15] (λv i wr=>zl9 wi a.data.toList false ps W1 v i wr) (λ_ i _=>ps.length - (intOf i).toNat)
 case atStart=>exact⟨0,false,zG _,rfl,zY,rfl,z8 _ _⟩
 case round =>
  obtain⟨k,b,hk,rfl,rfl,XR,hb⟩:=hrel;have HG:=Z XR;clear XR;by_cases ud:k<ps.length
  .obtain⟨u,hu,Zz⟩:=gi.o k ud;have hu2:zy wr g k u:=(hb.cell (Y _ _ hu)).trans hu;obtain⟨dw,Vf⟩:=pY.o _ (xd ud);obtain⟨p,hp⟩:=zo (ps[k]);rw[hp]at Zz dw Vf;have Dv:(w:Nat)<=(wr:Nat):=zZ hB.size hb.size;obtain⟨ad,cp,rfl,hl,hm,h0,hc⟩:=Zz;have Nx:=λ(q:¬p.length=1) (q3:¬p.length=3)=>(show vz p=none by
    match p,q,q3 with
    |[],_,_=>rfl
    |[_],q,_=>exact absurd rfl q
    |[_,_],_,_=>rfl
    |[_,_,_],_,q3=>exact absurd rfl q3
    |_::_::_::_::_,_,_=>rfl)
   by_cases l1:p.length=1
   .obtain⟨lo,rfl⟩:∃lo,p=[lo]:=PO.1 l1;obtain⟨y,rfl,aE⟩:=hc 0 zY;have RG:w.cell? y=some (zv lo):=by simpa[xM]using aE
    have xvk:wr.cell? y=some (zv lo):=((hB.trans (hb.mono hB.size)).cell (Y _ _ RG)).trans RG;have Cg:(⟨lo.toArray⟩:ByteArray).size<=1000000:=dw lo (by simp);obtain⟨hi,pX⟩:=zo lo;have I4:(⟨hi.toArray⟩:ByteArray).size<=1000000:=pX▸Cg;have HP:=Z (show(ps[k]=[lo,[46,46],hi])\/(ps[k]=[lo]/\lo=hi)from .inr ⟨hp,pX⟩);have HHI:=Z pX;clear hc aE RG dw hp Nx hu pX l1 Vf h0;go_wp2_with fail;go_still_tail 6,yy
    refine uI ?_;intro W0 PE;have aD:zJ wr W0:=mN
    clear PE;go_wp2_with fail;refine yh ?_;intro W hW;have UP:zJ wr W:=nK
    have H0:zy W (W0:Nat) 0 (zv lo):=gT
    have H1:zy W (W0:Nat) 1 (zv [46,46]):=gT
    have H2:zy W (W0:Nat) 2 (zv hi):=nX
    clear hW;have bj:=hB.trans ((hb.trans (UP.mono hb.size)).mono hB.size);have Dk:zJ W1 W:=hb.trans (UP.mono hb.size);have HRG:=Z (λq h=>Zc (lo:=lo) (hi:=hi) q h HP.o)
    cases Vz:vW lo
    .have vP:R=none:=WW
     have HN:=Z vP;have QP:=Z Vz;clear vP Vz;exact zkk
    cases Fx:vW hi
    .have vP:R=none:=WA
     have HN:=Z vP;have QP:=Z Vz;have ZT:=Z Fx;clear vP Vz Fx;exact zkq
    have QP:=Z Vz;have ZT:=Z Fx;obtain⟨L0,MN⟩:=zo (cmpL lo hi);have HL0:=Z MN;by_cases hp0:0<L0
    .have vP:R=none:=WT
     have HN:=Z vP;have RF:decide (0<L0)=true:=GU
     clear vP Vz Fx MN;exact zku
    obtain⟨L1,RD⟩:=zo (cmpL a.data.toList lo);obtain⟨L2,Nj⟩:=zo (cmpL a.data.toList hi);have gh:yN wi a.data.toList false ps false=yN wi a.data.toList false (ps.drop (k+1)) (b ||lf wi a.data.toList false lo hi):=Wa
    unfold lf at gh;rw[RD,Nj]at gh;have IL:=Z RD;have ld:=Z Nj;have HS:=Z gh;have RF:decide (0<L0)=false:=GU
    clear Vz Fx MN RD Nj gh;refine(vH ⟨lo.toArray⟩ _ Cg).mono ?_;rw[show vW (⟨lo.toArray⟩:ByteArray).data.toList=true from QP.o];rintro e w2 ⟨rfl,Yt⟩;have qX:zJ W w2:=WI
    have c2:=(qX.cell (Y _ _ H2)).trans H2;clear Yt;go_wp2_with fail;refine(vH ⟨hi.toArray⟩ _ I4).mono ?_;rw[show vW (⟨hi.toArray⟩:ByteArray).data.toList=true from ZT.o];rintro e w3 ⟨rfl,Ez⟩;have kL:zJ w2 w3:=WL
    have UF:=Dk.trans ((qX.trans (kL.mono qX.size)).mono Dk.size);clear Ez c2;go_wp2_with fail;refine(vV ⟨lo.toArray⟩ ⟨hi.toArray⟩ _ Cg I4).mono ?_;rw[show cmpL (⟨lo.toArray⟩:ByteArray).data.toList (⟨hi.toArray⟩:ByteArray).data.toList=L0 from HL0.o];rintro e w4 ⟨rfl,rfl⟩;go_wp2_with fail;refine(vV a ⟨lo.toArray⟩ _ ha Cg).mono ?_;rw[show cmpL a.data.toList (⟨lo.toArray⟩:ByteArray).data.toList=L1 from IL.o];rintro e w4 ⟨rfl,rfl⟩;go_wp2_with fail;refine(vV a ⟨hi.toArray⟩ _ ha I4).mono ?_;rw[show cmpL a.data.toList (⟨hi.toArray⟩:ByteArray).data.toList=L2 from ld.o];rintro e w4 ⟨rfl,rfl⟩;by_cases q1:0<=L1
    .have Dj:decide (0<=L1)=true:=by simpa using q1
     rcases Yi L2 0 with q2|q2|q2
     .have RB:decide (L2<0)=true:=by simpa using q2
      have HV:=Z (show(b ||(decide (0<=L1) && ((decide (L2<0) ||(decide (L2=0) && !false)) && (wi || !false))))=(b ||(wi || !false))by rw[Dj,RB];simp)
      cases wi <;>
      .go_wp2;go_roundw
       case rel=>exact⟨k+1,_,J,by go_num,rfl,HS.o.trans (by rw[HV.o];try(cases b<;>rfl)),UF⟩
       case measure=>simp[intOf];omega
     .subst q2;have HV:=Z (show(b ||(decide (0<=L1) && ((decide ((0:Int)<0) ||(decide ((0:Int)=0) && !false)) && (wi || !false))))=(b || !false)by rw[Dj];cases wi<;>simp)
      cases wi <;>
      .go_wp2;go_roundw
       case rel=>exact⟨k+1,_,J,by go_num,rfl,HS.o.trans (by rw[HV.o];try(cases b<;>rfl)),UF⟩
       case measure=>simp[intOf];omega
     .have RB:decide (L2<0)=false:=by simp;omega
      have zpx:(L2==0)=false:=zV
      have q3:¬L2<0:=J
      have q4:¬L2=0:=J
      have HV:=Z (show(b ||(decide (0<=L1) && ((decide (L2<0) ||(decide (L2=0) && !false)) && (wi || !false))))=b by rw[Dj,RB];simp[q4]);go_wp2;go_roundw
      case rel=>exact⟨k+1,_,J,by go_num,rfl,HS.o.trans (by rw[HV.o]),UF⟩
      case measure=>simp[intOf];omega
    .have Dj:decide (0<=L1)=false:=by simpa using q1
     have HV:=Z (show(b ||(decide (0<=L1) && ((decide (L2<0) ||(decide (L2=0) && !false)) && (wi || !false))))=b by rw[Dj];simp);go_wp2;go_roundw
     case rel=>exact⟨k+1,_,J,by go_num,rfl,HS.o.trans (by rw[HV.o]),UF⟩
     case measure=>simp[intOf];omega
   .by_cases l3:p.length=3
    .obtain⟨lo,d,hi,rfl⟩:∃lo d hi,p=[lo,d,hi]:=(by match p,l3 with |[lo,d,hi],_=>exact⟨lo,d,hi,rfl⟩);obtain⟨y,rfl,aE⟩:=hc 0 zY;obtain⟨y2,hy2,hcz⟩:=hc 1 (by simp);obtain⟨y3,hy3,hcx⟩:=hc 2 (by simp);obtain rfl:=zR hy2;obtain rfl:=zR hy3;have Cz:=hB.trans (hb.mono hB.size);have H0:wr.cell? y=some (zv lo):=(Cz.cell (Y _ _ (by simpa[xM]using aE))).trans (by simpa[xM]using aE);have H1:zy wr y.block (y.off+1) (zv d):=(Cz.cell (Y _ _ (by simpa[xM]using hcz))).trans (by simpa[xM]using hcz);have H2:zy wr y.block (y.off+2) (zv hi):=(Cz.cell (Y _ _ (by simpa[xM]using hcx))).trans (by simpa[xM]using hcx);have Cg:(⟨lo.toArray⟩:ByteArray).size<=1000000:=dw lo (by simp);have I4:(⟨hi.toArray⟩:ByteArray).size<=1000000:=dw hi (by simp);clear hc aE hcz hcx dw Nx hu l1 l3 Vf h0;by_cases hd:d=[46,46]
     .subst hd;have HP:=Z (show(ps[k]=[lo,[46,46],hi])\/(ps[k]=[lo]/\lo=hi)from .inl hp);clear hp;refine fP ?_;intro W hW;have UP:zJ wr W:=by rw[hW];exact z8 _ _
      subst hW;have bj:=hB.trans ((hb.trans (UP.mono hb.size)).mono hB.size);have Dk:zJ W1 W:=hb.trans (UP.mono hb.size);have HRG:=Z (λq h=>Zc (lo:=lo) (hi:=hi) q h HP.o)
      cases Vz:vW lo
      .have vP:R=none:=WW
       have HN:=Z vP;have QP:=Z Vz;clear vP Vz;go_wp2_with fail;exact zkk
      cases Fx:vW hi
      .have vP:R=none:=WA
       have HN:=Z vP;have QP:=Z Vz;have ZT:=Z Fx;clear vP Vz Fx;go_wp2_with fail;exact zkq
      have QP:=Z Vz;have ZT:=Z Fx;obtain⟨L0,MN⟩:=zo (cmpL lo hi);have HL0:=Z MN;by_cases hp0:0<L0
      .have vP:R=none:=WT
       have HN:=Z vP;have RF:decide (0<L0)=true:=GU
       clear vP Vz Fx MN;go_wp2_with fail;exact zku
      obtain⟨L1,RD⟩:=zo (cmpL a.data.toList lo);obtain⟨L2,Nj⟩:=zo (cmpL a.data.toList hi);have gh:yN wi a.data.toList false ps false=yN wi a.data.toList false (ps.drop (k+1)) (b ||lf wi a.data.toList false lo hi):=Wa
      unfold lf at gh;rw[RD,Nj]at gh;have IL:=Z RD;have ld:=Z Nj;have HS:=Z gh;have RF:decide (0<L0)=false:=GU
      clear Vz Fx MN RD Nj gh;go_wp2_with fail;refine(vH ⟨lo.toArray⟩ _ Cg).mono ?_;rw[show vW (⟨lo.toArray⟩:ByteArray).data.toList=true from QP.o];rintro e w2 ⟨rfl,Yt⟩;have qX:zJ W w2:=WI
      have c2:=(qX.cell (Y _ _ H2)).trans H2;clear Yt;go_wp2_with fail;refine(vH ⟨hi.toArray⟩ _ I4).mono ?_;rw[show vW (⟨hi.toArray⟩:ByteArray).data.toList=true from ZT.o];rintro e w3 ⟨rfl,Ez⟩;have kL:zJ w2 w3:=WL
      have UF:=Dk.trans ((qX.trans (kL.mono qX.size)).mono Dk.size);clear Ez c2;go_wp2_with fail;refine(vV ⟨lo.toArray⟩ ⟨hi.toArray⟩ _ Cg I4).mono ?_;rw[show cmpL (⟨lo.toArray⟩:ByteArray).data.toList (⟨hi.toArray⟩:ByteArray).data.toList=L0 from HL0.o];rintro e w4 ⟨rfl,rfl⟩;go_wp2_with fail;refine(vV a ⟨lo.toArray⟩ _ ha Cg).mono ?_;rw[show cmpL a.data.toList (⟨lo.toArray⟩:ByteArray).data.toList=L1 from IL.o];rintro e w4 ⟨rfl,rfl⟩;go_wp2_with fail;refine(vV a ⟨hi.toArray⟩ _ ha I4).mono ?_;rw[show cmpL a.data.toList (⟨hi.toArray⟩:ByteArray).data.toList=L2 from ld.o];rintro e w4 ⟨rfl,rfl⟩;by_cases q1:0<=L1
      .have Dj:decide (0<=L1)=true:=by simpa using q1
       rcases Yi L2 0 with q2|q2|q2
       .have RB:decide (L2<0)=true:=by simpa using q2
        have HV:=Z (show(b ||(decide (0<=L1) && ((decide (L2<0) ||(decide (L2=0) && !false)) && (wi || !false))))=(b ||(wi || !false))by rw[Dj,RB];simp)
        cases wi <;>
        .go_wp2;go_roundw
         case rel=>exact⟨k+1,_,J,by go_num,rfl,HS.o.trans (by rw[HV.o];try(cases b<;>rfl)),UF⟩
         case measure=>simp[intOf];omega
       .subst q2;have HV:=Z (show(b ||(decide (0<=L1) && ((decide ((0:Int)<0) ||(decide ((0:Int)=0) && !false)) && (wi || !false))))=(b || !false)by rw[Dj];cases wi<;>simp)
        cases wi <;>
        .go_wp2;go_roundw
         case rel=>exact⟨k+1,_,J,by go_num,rfl,HS.o.trans (by rw[HV.o];try(cases b<;>rfl)),UF⟩
         case measure=>simp[intOf];omega
       .have RB:decide (L2<0)=false:=by simp;omega
        have zpx:(L2==0)=false:=zV
        have q3:¬L2<0:=J
        have q4:¬L2=0:=J
        have HV:=Z (show(b ||(decide (0<=L1) && ((decide (L2<0) ||(decide (L2=0) && !false)) && (wi || !false))))=b by rw[Dj,RB];simp[q4]);go_wp2;go_roundw
        case rel=>exact⟨k+1,_,J,by go_num,rfl,HS.o.trans (by rw[HV.o]),UF⟩
        case measure=>simp[intOf];omega
      .have Dj:decide (0<=L1)=false:=by simpa using q1
       have HV:=Z (show(b ||(decide (0<=L1) && ((decide (L2<0) ||(decide (L2=0) && !false)) && (wi || !false))))=b by rw[Dj];simp);go_wp2;go_roundw
       case rel=>exact⟨k+1,_,J,by go_num,rfl,HS.o.trans (by rw[HV.o]),UF⟩
       case measure=>simp[intOf];omega
     .exact zi4
    .have vP:R=none:=mr
     have HN:=Z vP;have aH:((p.length:Int)==1)=false:=zV
     have MR:((p.length:Int)==3)=false:=zV
     clear hp vP Nx hc dw hu h0;generalize p.length=pl at *;exact ziu
  .obtain rfl:k=ps.length:=by omega
   have XR:=HG.o;rw[bu,yN,ZC.o]at XR;have HF:=Z XR;clear XR;go_wp2;go_ret2
   exact⟨uZ,hB.trans (hb.mono hB.size)⟩):P:=h
def pV(h:P:=by
 simp only[Bool.not_true,yp9];go_wp2;go_loopw [13,15] (λv i wr=>zl9 wi a.data.toList true ps W1 v i wr) (λ_ i _=>ps.length - (intOf i).toNat)
 case atStart=>exact⟨0,false,zG _,rfl,zY,rfl,z8 _ _⟩
 case round =>
  obtain⟨k,b,hk,rfl,rfl,XR,hb⟩:=hrel;have HG:=Z XR;clear XR;by_cases ud:k<ps.length
  .obtain⟨u,hu,Zz⟩:=gi.o k ud;have hu2:zy wr g k u:=(hb.cell (Y _ _ hu)).trans hu;obtain⟨dw,Vf⟩:=pY.o _ (xd ud);obtain⟨p,hp⟩:=zo (ps[k]);rw[hp]at Zz dw Vf;have Dv:(w:Nat)<=(wr:Nat):=zZ hB.size hb.size;obtain⟨ad,cp,rfl,hl,hm,h0,hc⟩:=Zz;have Nx:=λ(q:¬p.length=1) (q3:¬p.length=3)=>(show vz p=none by
    match p,q,q3 with
    |[],_,_=>rfl
    |[_],q,_=>exact absurd rfl q
    |[_,_],_,_=>rfl
    |[_,_,_],_,q3=>exact absurd rfl q3
    |_::_::_::_::_,_,_=>rfl)
   by_cases l1:p.length=1
   .obtain⟨lo,rfl⟩:∃lo,p=[lo]:=PO.1 l1;obtain⟨y,rfl,aE⟩:=hc 0 zY;have RG:w.cell? y=some (zv lo):=by simpa[xM]using aE
    have xvk:wr.cell? y=some (zv lo):=((hB.trans (hb.mono hB.size)).cell (Y _ _ RG)).trans RG;have Cg:(⟨lo.toArray⟩:ByteArray).size<=1000000:=dw lo (by simp);obtain⟨hi,pX⟩:=zo lo;have I4:(⟨hi.toArray⟩:ByteArray).size<=1000000:=pX▸Cg;have HP:=Z (show(ps[k]=[lo,[46,46],hi])\/(ps[k]=[lo]/\lo=hi)from .inr ⟨hp,pX⟩);have HHI:=Z pX;clear hc aE RG dw hp Nx hu pX l1 Vf h0;go_wp2_with fail;go_still_tail 6,yy
    refine uI ?_;intro W0 PE;have aD:zJ wr W0:=mN
    clear PE;go_wp2_with fail;refine yh ?_;intro W hW;have UP:zJ wr W:=nK
    have H0:zy W (W0:Nat) 0 (zv lo):=gT
    have H1:zy W (W0:Nat) 1 (zv [46,46]):=gT
    have H2:zy W (W0:Nat) 2 (zv hi):=nX
    clear hW;have bj:=hB.trans ((hb.trans (UP.mono hb.size)).mono hB.size);have Dk:zJ W1 W:=hb.trans (UP.mono hb.size);have HRG:=Z (λq h=>Zc (lo:=lo) (hi:=hi) q h HP.o)
    cases Vz:vW lo
    .have vP:R=none:=WW
     have HN:=Z vP;have QP:=Z Vz;clear vP Vz;exact zkk
    cases Fx:vW hi
    .have vP:R=none:=WA
     have HN:=Z vP;have QP:=Z Vz;have ZT:=Z Fx;clear vP Vz Fx;exact zkq
    have QP:=Z Vz;have ZT:=Z Fx;obtain⟨L0,MN⟩:=zo (cmpL lo hi);have HL0:=Z MN;by_cases hp0:0<L0
    .have vP:R=none:=WT
     have HN:=Z vP;have RF:decide (0<L0)=true:=GU
     clear vP Vz Fx MN;exact zku
    obtain⟨L1,RD⟩:=zo (cmpL a.data.toList lo);obtain⟨L2,Nj⟩:=zo (cmpL a.data.toList hi);have gh:yN wi a.data.toList true ps false=yN wi a.data.toList true (ps.drop (k+1)) (b ||lf wi a.data.toList true lo hi):=Wa
    unfold lf at gh;rw[RD,Nj]at gh;have IL:=Z RD;have ld:=Z Nj;have HS:=Z gh;have RF:decide (0<L0)=false:=GU
    clear Vz Fx MN RD Nj gh;refine(vH ⟨lo.toArray⟩ _ Cg).mono ?_;rw[show vW (⟨lo.toArray⟩:ByteArray).data.toList=true from QP.o];rintro e w2 ⟨rfl,Yt⟩;have qX:zJ W w2:=WI
    have c2:=(qX.cell (Y _ _ H2)).trans H2;clear Yt;go_wp2_with fail;refine(vH ⟨hi.toArray⟩ _ I4).mono ?_;rw[show vW (⟨hi.toArray⟩:ByteArray).data.toList=true from ZT.o];rintro e w3 ⟨rfl,Ez⟩;have kL:zJ w2 w3:=WL
    have UF:=Dk.trans ((qX.trans (kL.mono qX.size)).mono Dk.size);clear Ez c2;go_wp2_with fail;refine(vV ⟨lo.toArray⟩ ⟨hi.toArray⟩ _ Cg I4).mono ?_;rw[show cmpL (⟨lo.toArray⟩:ByteArray).data.toList (⟨hi.toArray⟩:ByteArray).data.toList=L0 from HL0.o];rintro e w4 ⟨rfl,rfl⟩;go_wp2_with fail;refine(vV a ⟨lo.toArray⟩ _ ha Cg).mono ?_;rw[show cmpL a.data.toList (⟨lo.toArray⟩:ByteArray).data.toList=L1 from IL.o];rintro e w4 ⟨rfl,rfl⟩;go_wp2_with fail;refine(vV a ⟨hi.toArray⟩ _ ha I4).mono ?_;rw[show cmpL a.data.toList (⟨hi.toArray⟩:ByteArray).data.toList=L2 from ld.o];rintro e w4 ⟨rfl,rfl⟩;by_cases q1:0<=L1
    .have Dj:decide (0<=L1)=true:=by simpa using q1
     rcases Yi L2 0 with q2|q2|q2
     .have RB:decide (L2<0)=true:=by simpa using q2
      have HV:=Z (show(b ||(decide (0<=L1) && ((decide (L2<0) ||(decide (L2=0) && !true)) && (wi || !true))))=(b ||(wi || !true))by rw[Dj,RB];simp)
      cases wi <;>
      .go_wp2;go_roundw
       case rel=>exact⟨k+1,_,J,by go_num,rfl,HS.o.trans (by rw[HV.o];try(cases b<;>rfl)),UF⟩
       case measure=>simp[intOf];omega
     .subst q2;have HV:=Z (show(b ||(decide (0<=L1) && ((decide ((0:Int)<0) ||(decide ((0:Int)=0) && !true)) && (wi || !true))))=(b || !true)by rw[Dj];cases wi<;>simp)
      cases wi <;>
      .go_wp2;go_roundw
       case rel=>exact⟨k+1,_,J,by go_num,rfl,HS.o.trans (by rw[HV.o];try(cases b<;>rfl)),UF⟩
       case measure=>simp[intOf];omega
     .have RB:decide (L2<0)=false:=by simp;omega
      have zpx:(L2==0)=false:=zV
      have q3:¬L2<0:=J
      have q4:¬L2=0:=J
      have HV:=Z (show(b ||(decide (0<=L1) && ((decide (L2<0) ||(decide (L2=0) && !true)) && (wi || !true))))=b by rw[Dj,RB];simp[q4]);go_wp2;go_roundw
      case rel=>exact⟨k+1,_,J,by go_num,rfl,HS.o.trans (by rw[HV.o]),UF⟩
      case measure=>simp[intOf];omega
    .have Dj:decide (0<=L1)=false:=by simpa using q1
     have HV:=Z (show(b ||(decide (0<=L1) && ((decide (L2<0) ||(decide (L2=0) && !true)) && (wi || !true))))=b by rw[Dj];simp);go_wp2;go_roundw
     case rel=>exact⟨k+1,_,J,by go_num,rfl,HS.o.trans (by rw[HV.o]),UF⟩
     case measure=>simp[intOf];omega
   .by_cases l3:p.length=3
    .obtain⟨lo,d,hi,rfl⟩:∃lo d hi,p=[lo,d,hi]:=(by match p,l3 with |[lo,d,hi],_=>exact⟨lo,d,hi,rfl⟩);obtain⟨y,rfl,aE⟩:=hc 0 zY;obtain⟨y2,hy2,hcz⟩:=hc 1 (by simp);obtain⟨y3,hy3,hcx⟩:=hc 2 (by simp);obtain rfl:=zR hy2;obtain rfl:=zR hy3;have Cz:=hB.trans (hb.mono hB.size);have H0:wr.cell? y=some (zv lo):=(Cz.cell (Y _ _ (by simpa[xM]using aE))).trans (by simpa[xM]using aE);have H1:zy wr y.block (y.off+1) (zv d):=(Cz.cell (Y _ _ (by simpa[xM]using hcz))).trans (by simpa[xM]using hcz);have H2:zy wr y.block (y.off+2) (zv hi):=(Cz.cell (Y _ _ (by simpa[xM]using hcx))).trans (by simpa[xM]using hcx);have Cg:(⟨lo.toArray⟩:ByteArray).size<=1000000:=dw lo (by simp);have I4:(⟨hi.toArray⟩:ByteArray).size<=1000000:=dw hi (by simp);clear hc aE hcz hcx dw Nx hu l1 l3 Vf h0;by_cases hd:d=[46,46]
     .subst hd;have HP:=Z (show(ps[k]=[lo,[46,46],hi])\/(ps[k]=[lo]/\lo=hi)from .inl hp);clear hp;refine fP ?_;intro W hW;have UP:zJ wr W:=by rw[hW];exact z8 _ _
      subst hW;have bj:=hB.trans ((hb.trans (UP.mono hb.size)).mono hB.size);have Dk:zJ W1 W:=hb.trans (UP.mono hb.size);have HRG:=Z (λq h=>Zc (lo:=lo) (hi:=hi) q h HP.o)
      cases Vz:vW lo
      .have vP:R=none:=WW
       have HN:=Z vP;have QP:=Z Vz;clear vP Vz;go_wp2_with fail;exact zkk
      cases Fx:vW hi
      .have vP:R=none:=WA
       have HN:=Z vP;have QP:=Z Vz;have ZT:=Z Fx;clear vP Vz Fx;go_wp2_with fail;exact zkq
      have QP:=Z Vz;have ZT:=Z Fx;obtain⟨L0,MN⟩:=zo (cmpL lo hi);have HL0:=Z MN;by_cases hp0:0<L0
      .have vP:R=none:=WT
       have HN:=Z vP;have RF:decide (0<L0)=true:=GU
       clear vP Vz Fx MN;go_wp2_with fail;exact zku
      obtain⟨L1,RD⟩:=zo (cmpL a.data.toList lo);obtain⟨L2,Nj⟩:=zo (cmpL a.data.toList hi);have gh:yN wi a.data.toList true ps false=yN wi a.data.toList true (ps.drop (k+1)) (b ||lf wi a.data.toList true lo hi):=Wa
      unfold lf at gh;rw[RD,Nj]at gh;have IL:=Z RD;have ld:=Z Nj;have HS:=Z gh;have RF:decide (0<L0)=false:=GU
      clear Vz Fx MN RD Nj gh;go_wp2_with fail;refine(vH ⟨lo.toArray⟩ _ Cg).mono ?_;rw[show vW (⟨lo.toArray⟩:ByteArray).data.toList=true from QP.o];rintro e w2 ⟨rfl,Yt⟩;have qX:zJ W w2:=WI
      have c2:=(qX.cell (Y _ _ H2)).trans H2;clear Yt;go_wp2_with fail;refine(vH ⟨hi.toArray⟩ _ I4).mono ?_;rw[show vW (⟨hi.toArray⟩:ByteArray).data.toList=true from ZT.o];rintro e w3 ⟨rfl,Ez⟩;have kL:zJ w2 w3:=WL
      have UF:=Dk.trans ((qX.trans (kL.mono qX.size)).mono Dk.size);clear Ez c2;go_wp2_with fail;refine(vV ⟨lo.toArray⟩ ⟨hi.toArray⟩ _ Cg I4).mono ?_;rw[show cmpL (⟨lo.toArray⟩:ByteArray).data.toList (⟨hi.toArray⟩:ByteArray).data.toList=L0 from HL0.o];rintro e w4 ⟨rfl,rfl⟩;go_wp2_with fail;refine(vV a ⟨lo.toArray⟩ _ ha Cg).mono ?_;rw[show cmpL a.data.toList (⟨lo.toArray⟩:ByteArray).data.toList=L1 from IL.o];rintro e w4 ⟨rfl,rfl⟩;go_wp2_with fail;refine(vV a ⟨hi.toArray⟩ _ ha I4).mono ?_;rw[show cmpL a.data.toList (⟨hi.toArray⟩:ByteArray).data.toList=L2 from ld.o];rintro e w4 ⟨rfl,rfl⟩;by_cases q1:0<=L1
      .have Dj:decide (0<=L1)=true:=by simpa using q1
       rcases Yi L2 0 with q2|q2|q2
       .have RB:decide (L2<0)=true:=by simpa using q2
        have HV:=Z (show(b ||(decide (0<=L1) && ((decide (L2<0) ||(decide (L2=0) && !true)) && (wi || !true))))=(b ||(wi || !true))by rw[Dj,RB];simp)
        cases wi <;>
        .go_wp2;go_roundw
         case rel=>exact⟨k+1,_,J,by go_num,rfl,HS.o.trans (by rw[HV.o];try(cases b<;>rfl)),UF⟩
         case measure=>simp[intOf];omega
       .subst q2;have HV:=Z (show(b ||(decide (0<=L1) && ((decide ((0:Int)<0) ||(decide ((0:Int)=0) && !true)) && (wi || !true))))=(b || !true)by rw[Dj];cases wi<;>simp)
        cases wi <;>
        .go_wp2;go_roundw
         case rel=>exact⟨k+1,_,J,by go_num,rfl,HS.o.trans (by rw[HV.o];try(cases b<;>rfl)),UF⟩
         case measure=>simp[intOf];omega
       .have RB:decide (L2<0)=false:=by simp;omega
        have zpx:(L2==0)=false:=zV
        have q3:¬L2<0:=J
        have q4:¬L2=0:=J
        have HV:=Z (show(b ||(decide (0<=L1) && ((decide (L2<0) ||(decide (L2=0) && !true)) && (wi || !true))))=b by rw[Dj,RB];simp[q4]);go_wp2;go_roundw
        case rel=>exact⟨k+1,_,J,by go_num,rfl,HS.o.trans (by rw[HV.o]),UF⟩
        case measure=>simp[intOf];omega
      .have Dj:decide (0<=L1)=false:=by simpa using q1
       have HV:=Z (show(b ||(decide (0<=L1) && ((decide (L2<0) ||(decide (L2=0) && !true)) && (wi || !true))))=b by rw[Dj];simp);go_wp2;go_roundw
       case rel=>exact⟨k+1,_,J,by go_num,rfl,HS.o.trans (by rw[HV.o]),UF⟩
       case measure=>simp[intOf];omega
     .exact zi4
    .have vP:R=none:=mr
     have HN:=Z vP;have aH:((p.length:Int)==1)=false:=zV
     have MR:((p.length:Int)==3)=false:=zV
     clear hp vP Nx hc dw hu h0;generalize p.length=pl at *;exact ziu
  .obtain rfl:k=ps.length:=by omega
   have XR:=HG.o;rw[bu,yN,ZC.o]at XR;have HF:=Z XR;clear XR;go_wp2;go_ret2
   exact⟨uZ,hB.trans (hb.mono hB.size)⟩):P:=h
def RE(h:P:=by
 have HL:=pU;have HS:=WH;have IM:=lb;clear pU WH lb;obtain⟨Jk,hJ⟩:=zo (yK rs j);rw[hJ]at HT;have HJ:=Z hJ;clear hJ;refine(jP p rs j d Xk HS.out).mono ?_;rintro e x1 ⟨rfl,ZE,Fh⟩;rw[HJ.o]at ZE;have qV:=IM.trans Fh;have UR:=Z ZE;have IL:=Z (HL.out.but Fh J);have g5:=ZE.at_;clear ZE Fh HJ HL HS IM;go_wp2_with fail;refine(Zy p rs Jk d 123 x1 UR.o (by decide)).mono ?_;rintro e x2 ⟨hq,gN⟩;have qX:=qV.trans gN;have ld:=Z (IL.o.but gN (by omega));clear g5;by_cases hw:zC rs Jk=123
 .rw[zl hw]at hq;obtain⟨rfl,ZW⟩:=hq;have Jx:=Z ZW;have g6:=ZW.deep;have Cd:=Z (show R=GK rs msg RH K i Jk (Jk+1)by rw[HT.o];unfold vR;rw[zl hw];rfl);clear ZW hw HT
  cases msg with
  |none =>
   exact yfj
  |some m =>
   have hd6:d≠6:=λe=>zp5
   have vv8:((d:Int)==6)=false:=zV
   have Df:=HMC.o m rfl RH (Jk+1) x2 Jx.o (aI.o.but qX);obtain⟨r,hr⟩:=zo (m RH (Jk+1));rw[hr]at Df;rw[Ng]at Df;have Dd:=Z Df;have HT3:=Z (show R=r.then λf q=>(vR rs 125 q).then λ_ z => .ok (.uB K i f .nil,yK rs z)by rw[Cd.o,<-hr];rfl);clear Df hr Cd;go_wp2_with fail;refine Dd.o.mono ?_;rintro e x3 ⟨hq,hx3⟩;have kL:=qX.trans hx3;have HL3:=Z (ld.o.but hx3 J)
   cases r with
   |error en =>
    exact yd4
   |ok fq =>
    obtain⟨f,q⟩:=fq;obtain⟨⟨ma,mc,rfl,vs,Y4,Nf⟩,aQ,Fy⟩:=hq;obtain⟨lg,gi,D3,GZ⟩:=hdd (show R=(vR rs 125 q).then λ_ z => .ok (.uB K i f .nil,yK rs z)from HT3.o) Y4 Nf Fy;have z2:=HL3.o.z 2;have q2:=HL3.o.c2;have WH:=Z (GZ.o.own (B:=B) J 2 (.slice ma f.len mc));have pU:=Z (HL3.o.pQ (u := .slice ma f.len mc));have lb:xj p w (x3.setCell (zX B 2) (.slice ma f.len mc)):=kL.own (by have:=HB.o;omega) 2 _;obtain⟨Yk,hY⟩:=zo (x3.setCell (zX B 2) (.slice ma f.len mc));rw[hY]at WH pU lb;have HY:=Z hY;clear Y4 Nf Fy HT3 Dd hY;go_wp2_with fail;rw[HY.o];refine(Zy p rs q d 125 Yk WH.o (by decide)).mono ?_;rintro e x4 ⟨hq,hx4⟩;have YZ:=lb.trans hx4;have HL4:=Z (pU.o.but hx4 (by omega));by_cases hw:zC rs q=125
    .rw[zl hw]at hq;obtain⟨rfl,dS⟩:=hq;have Vg:=Z dS;obtain⟨J2,hJ2⟩:=zo (yK rs (q+1));have HT5:=Z (show R = .ok (.uB K i f .nil,J2)by rw[lg.o,<-hJ2];show(vR rs 125 q).then _=_;unfold vR;rw[zl hw];rfl);have HJ2:=Z hJ2;clear dS hw hJ2 lg;go_wp2_with fail;refine(jP p rs (q+1) d x4 Vg.o).mono ?_;rintro e x5 ⟨rfl,hs5,hx5⟩;rw[HJ2.o]at hs5;have Xv:=YZ.trans hx5;have pK:=Z (HL4.o.but hx5 J);have HS5:=Z hs5;have k0:=pK.o.c0;have k1:=pK.o.c1;have k2:=pK.o.c2;have y0:=pK.o.z 0;have y1:=pK.o.z 1;have y2:=pK.o.z 2;clear hs5;have Qt:B<(x2:Nat):=Y _ _ ld.o.c0;have HKP:=Z (((((((vX (lo:=(x2:Nat)) (X (x3:Nat))).put Qt 2 (.slice ma f.len mc))).but (by rw[HY.o];exact hx4) (by omega)).but hx5 (by omega)).put Qt 0 (zv K)).put Qt 1 i |>.put Qt 2 (.slice ma f.len mc));have HBF:=Z (((Xv.own (B:=B) (by have:=HB.o;omega) 0 (zv K)).own (B:=B) (by have:=HB.o;omega) 1 i).own (B:=B) (by have:=HB.o;omega) 2 (.slice ma f.len mc));have HSF:=Z (((HS5.o.own hpB 0 (zv K)).own hpB 1 i).own hpB 2 (.slice ma f.len mc));go_wp2;rw[HT5.o];refine zU (v := .agg #[zv K,i,.slice ma f.len mc]) ?_ rfl ?_
     .exact zp0
     exact yd2
    .exact yfk
 .exact yfg):P:=h
def pJ(h:P:=by
 intro v5 w5 Ya VV _;have hBg:some B≠(yI (g2,0) (xv r).length IN).ownBlock:=λe=>zp8
 have hqg:some q≠(yI (g2,0) (xv r).length IN).ownBlock:=λe=>zp9
 have ydy:some (B+1)≠(yI (g2,0) (xv r).length IN).ownBlock:=λe=>zp7
 have aL:0<(xv r).length+x.2.length:=zp6
 obtain⟨g5,Qh,rfl,vvx,vvv,_⟩:=vK Ya aL;have b0:=VV.cell a0 hBg;have b1:=VV.cell a1 hBg;have b2:=VV.cell a2 hBg;have r0:=VV.cell p0 hqg;have r1:=VV.cell p1 hqg;have r2:=VV.cell p2 hqg;have hq4:q<(w4:Nat):=Y w4 _ p0;have f0:=(zb (a:=(q,0)) (VV.block q hq4 hqg)).trans x0;have f1:=(zb (a:=(q,1)) (VV.block q hq4 hqg)).trans x1;have f2:=(zb (a:=(q,2)) (VV.block q hq4 hqg)).trans x2;have hr5:=hr4.grown VV ydy;have ydv:zJ w w5:=Fm.grown VV Fm.size (λk hk=>zp3);have vvu:B+1<q:=by have:=zl8.o;have:=HBq.o;have:=HQ.o;omega
 have hBw:(w:Nat)<=B:=by have:=HBq.o;omega
 simp only[ZP,yb,xu,xq];refine hK.out _ _ ⟨b0,b1,b2⟩ λ_=>?_;clear hK K a0 a1 a2 p0 p1 p2 x0 x1 x2 hr4 Fm CZ hB4 VV hBg hqg ydy hi hz;refine Xo [7] 3 ⟨b0,b1,b2⟩ ?_;refine bF 8 (λK hK=>?_);go_simp;have vvq:¬q=B:=J
 refine hK.out _ _ ⟨by rw[yx (h:=by first|(simp;done)|(simp;omega))];exact b0,by rw[yx (h:=by first|(simp;done)|(simp;omega))];exact b1,by rw[yx (h:=by first|(simp;done)|(simp;omega))];exact b2⟩ λ_=>?_;clear hK K;have t0:zy (w5.setCell (zX q 1) (.slice (zX g5 0) ((xv r).length+x.2.length) Qh)) q 0 (.bool false):=by rw[yx (h:=zY)];exact r0
 have t1:zy (w5.setCell (zX q 1) (.slice (zX g5 0) ((xv r).length+x.2.length) Qh)) q 1 (.slice (zX g5 0) ((xv r).length+x.2.length) Qh):=by rw[uk (h:=r1)]
 have t2:zy (w5.setCell (zX q 1) (.slice (zX g5 0) ((xv r).length+x.2.length) Qh)) q 2 (.int .i64 0):=by rw[yx (h:=zY)];exact r2
 have u2:(w5.setCell (q,1) (.slice (g5,0) ((xv r).length+x.2.length) Qh)).frozen? (q,2)=false:=by simpa using f2
 have c0:zy (w5.setCell (zX q 1) (.slice (zX g5 0) ((xv r).length+x.2.length) Qh)) B 0 (.bool b):=by rw[yx (h:=WN)];exact b0
 have c1:zy (w5.setCell (zX q 1) (.slice (zX g5 0) ((xv r).length+x.2.length) Qh)) B 1 (.slice (zX g go) (x.1.length+x.2.length) cap):=by rw[yx (h:=WN)];exact b1
 have c2:zy (w5.setCell (zX q 1) (.slice (zX g5 0) ((xv r).length+x.2.length) Qh)) B 2 (.int .i64 x.2.length):=by rw[yx (h:=WN)];exact b2
 have EZ:=hr5.set (a:=(q,1)) oB (.slice (g5,0) ((xv r).length+x.2.length) Qh);have aZ:=ydv.setCell (p:=(q,1)) (show (w:Nat)<=q by omega) (.slice (g5,0) ((xv r).length+x.2.length) Qh);have ydu:g5≠q:=λe=>by
  subst e;exact IP Ya (Qs r) r0
 have aM:=gZ (p:=(zX q 1)) Ya (λe=>ydu (by simpa[qb,eq_comm]using e)) (.slice (zX g5 0) ((xv r).length+x.2.length) Qh);clear b0 b1 b2 r0 r1 r2 f0 f1 f2 hr5 ydv Ya;generalize w5.setCell (zX q 1) (.slice (zX g5 0) ((xv r).length+x.2.length) Qh)=w6 at *;refine Xo [9] 1 ⟨c0,c1,c2⟩ ?_;refine bF 10 (λK hK=>?_);go_simp;refine hK.out _ _ ⟨by rw[yx (h:=by first|(simp;done)|(simp;omega))];exact c0,by rw[yx (h:=by first|(simp;done)|(simp;omega))];exact c1,by rw[yx (h:=by first|(simp;done)|(simp;omega))];exact c2⟩ λ_=>?_;clear hK K;have d0:zy (w6.setCell (zX q 2) (.int .i64 x.2.length)) q 0 (.bool false):=by rw[yx (h:=zY)];exact t0
 have d1:zy (w6.setCell (zX q 2) (.int .i64 x.2.length)) q 1 (.slice (zX g5 0) ((xv r).length+x.2.length) Qh):=by rw[yx (h:=zY)];exact t1
 have d2:zy (w6.setCell (zX q 2) (.int .i64 x.2.length)) q 2 (.int .i64 x.2.length):=by rw[uk (h:=t2)]
 have Ws:=EZ.set (a:=(q,2)) oB (.int .i64 x.2.length);have zky:=aZ.setCell (p:=(q,2)) (show (w:Nat)<=q by omega) (.int .i64 x.2.length);have ho7:=gZ (p:=(q,2)) aM (λe=>ydu (by simpa[qb,eq_comm]using e)) (.int .i64 x.2.length);clear t0 t1 t2 u2 c0 c1 c2 EZ aZ aM;generalize w6.setCell (q,2) (.int .i64 x.2.length)=w7 at *;refine fR ?_ _;have e0:=Ws.c0;have e1:=Ws.c1;have e2:=Ws.c2;have z0:=Ws.z0;have z1:=Ws.z1;have z2:=Ws.z2;have HO7:=Z ho7;have HR7:=Z Ws;clear ho7 Ws;go_wp2;refine zU (v := .agg #[.bool false,.slice (g5,0) ((xv r).length+x.2.length) Qh,.int .i64 x.2.length]) ?_ rfl ?_
 .simp[yk,results125,go_sem,e0,e1,e2]
 rw[<-HR.o];refine JQ (w:=w) ?_ HR7.o J zky;have hdd:jO (xv r)++jO x.2=jO (xv r++x.2):=by simp[jO]
 have ho8:=HO7.o;rw[hdd]at ho8;have dw:=jF 9 r J;exact FH (w:=w) (x:=(xv r,x.2)) rfl (by simp) (Qw ho8 (by omega)) ⟨K0 r,HO.o.zpk,Qs r,by show(xv r).length<=100;omega,hl2⟩):P:=h
def zpj(h:P:=by
 rintro Nk k4 k5 mv ⟨⟨t3,gC,hp3⟩,fw,YG,Xh,Q7,fI,fL,zly,Xt,Xw,Xy,Xx⟩;have HN:=Z gC;have hmv:=(fS gC).1;have pG:=VU gC;have JU:=Z hp3;clear gC hp3;refine bF 5 (λK hK=>?_);have y4:=Xh.c;have y4z:=Xh.z;go_simp;refine hK.out _ _ (YG.other (j:=k4) Xy.symm _).c λ_=>?_;clear hK K y4 y4z;have c4S:=Xh.same mv;have c5S:=Q7.other (j:=k4) zly.symm mv;have cQS:=YG.other (j:=k4) Xy.symm mv;have zlx:=fw.put fI mv;have HPS:=Z (JU.o.put Xt Xh.n mv);generalize Nk.setCell (k4,0) mv=wS at c4S c5S cQS zlx HPS|-
 refine bF 6 (λK hK=>?_);have y5:=c5S.c;have y5z:=c5S.z;go_simp;refine hK.out _ _ (cQS.other (j:=k5) Xx.symm _).c λ_=>?_;clear hK K y5 y5z;have c4T:=c4S.other (j:=k5) zly (.func (.func kf) #[] QT);have c5T:=c5S.same (.func (.func kf) #[] QT);have cQT:=cQS.other (j:=k5) Xx.symm (.func (.func kf) #[] QT);have mS:=zlx.put fL (.func (.func kf) #[] QT);have HPT:=Z (HPS.o.put Xw c5S.n (.func (.func kf) #[] QT));generalize wS.setCell (k5,0) (.func (.func kf) #[] QT)=wT at c4T c5T cQT mS HPT|-
 refine fR ?_ _;have y4:=c4T.c;have yQ:=cQT.c;have yQz:=cQT.z;by_cases hm0:mv=0
 .exact zou
 .have hmz:((mv:Int)==0)=false:=by simp;omega
  have hre:bI (c::t)=match ya t3 with
    |none=>none
    |some ((i,nt),v)=>some ((λx=>i (RI F mv x) !=nt),v):=by
   rw[bI,HO.o];dsimp only;unfold Us;rw[HM.o,zl rfl,HN.o];simp only[zL hm0];rfl
  have HRE:=Z hre;have Dz:0<mv:=J
  clear hre hm0;have cU:=cQT.same (.func (.func 124) #[] #[(k5,0),(k4,0)]);have Nd:=mS.put (show (w:Nat)<=Q by have:=HQ.o;omega) (.func (.func 124) #[] #[(k5,0),(k4,0)]);have HPU:=Z (HPT.o.put CU cQT.n (.func (.func 124) #[] #[(k5,0),(k4,0)]));have c4U:=c4T.other (j:=Q) Xy (.func (.func 124) #[] #[(k5,0),(k4,0)]);have c5U:=c5T.other (j:=Q) Xx (.func (.func 124) #[] #[(k5,0),(k4,0)]);go_wp2_with fail;generalize wT.setCell (Q,0) (.func (.func 124) #[] #[(k5,0),(k4,0)])=wU at cU Nd HPU c4U c5U|-
  have hFU:OpR (w:Nat) (wU:Nat) wU (.func (.func 124) #[] #[(k5,0),(k4,0)]) (RI F mv) :=
   ⟨124,_,rfl,λargs w=>enters_of func124 yy rfl args w,λW hW nv x hx =>
    pF nv x k5 k4 _ mv F 0 0 W hx hmv Dz ((hW.cell (p:=(k5,0)) fL c5U.lt).trans c5U.c) ((hW.cell (p:=(k4,0)) fI c4U.lt).trans c4U.c) (HFV.o 0 0 W) (zG _)⟩
  have HFU:=Z hFU;have cQ:=cU;clear hFU y4 yQ yQz;have zpg:=Z (Nb p (t3) wU HPU.o (λx h=>HX.o x (yo _ (vB (pG.mem x h)))) (HT.o.but Nd) (by have N7:=pG.len;have Vk:(t).tail.length<=(t).length:=zY;omega));go_wp2_with fail;refine zpg.o.mono ?_;rintro e w7 ⟨hq,PF⟩;have UN:=Nd.trans PF;have aU:r=match ya (t3) with
    |none=>none
    |some ((i,nt),v)=>some ((λx=>i ((RI F mv) x) !=nt),v):=by
   rw[<-HR.o];exact HRE.o
  cases hn:ya (t3) with
  |none =>
   exact zl1
  |some q =>
   obtain⟨⟨Tm,nt⟩,t'⟩:=q;rw[hn]at hq aU;obtain⟨⟨v,rfl,htm⟩,hp7⟩:=hq;have ZC:=Z aU;have HTM:=Z htm;have HP7:=Z hp7;have cQ7:=cQ.but PF CU;have hQ7:=cQ7.lt;have HF7:=Z (OpR.keep (lo':=(w:Nat)) (hi':=(w7:Nat)) HFU.o (PF.keep ud (X _)) (X _) PF.size);obtain⟨kt,cpt,rfl,_⟩:=htm;clear aU hn hp7;go_wp2;go_ret;have hbA:=UN.alloc (.cells #[.func (.func kt) #[] cpt] 132);have hbB:=hbA.alloc (.cells #[.bool nt] 4);have hsA:(w7.alloc (.cells #[.func (.func kt) #[] cpt] 132)).heap.size=(w7:Nat)+1:=zY
   have hsB:((w7.alloc (.cells #[.func (.func kt) #[] cpt] 132)).alloc (.cells #[.bool nt] 4)).heap.size=(w7:Nat)+2:=zY
   have pD:yX w7 w7 ((w7.alloc (.cells #[.func (.func kt) #[] cpt] 132)).alloc (.cells #[.bool nt] 4)):=((z8 _ _).alloc (X _) _).alloc (by simp) _;refine⟨?_,hbB⟩;rw[ZC.o];have hQw:=HQ.o;have hw7:=UN.size;refine⟨⟨_,rfl,127,_,rfl,λargs w=>enters_of func127 (by kernel_rfl) rfl args w,λW hW nv x hx=>?_⟩,HP7.o.below pD⟩;rw[hsB]at hW;have Wt:xS w.heap.size (w7:Nat) w7 W:=hW.via (uO pD (X _) (X _)) (X _) J;refine NZ nv x _ _ _ _ _ nt Tm ((RI F mv)) w.heap.size (w7:Nat) W hx ((hW.cell ?_ ?_).trans ?_) ((Wt.cell ?_ hQ7).trans cQ7.c) ((hW.cell ?_ ?_).trans ?_) (HTM.o.keep (Wt.via (vX (X _)) (by have:=Nd.size;omega) (X _)) (by have:=Nd.size;omega) (X _)) (HF7.o.keep Wt (X _) (X _)) Wt.1;all_goals first|(show w.heap.size<=(w7:Nat);omega)|(show (w7:Nat)<(w7:Nat)+2;omega)|(show w.heap.size<=(w7:Nat)+1;omega)|(show (w7:Nat)+1<(w7:Nat)+2;omega)|(show w.heap.size<=Q;omega)|(go_simp;done)):P:=h
def pB(h:P:=by
 obtain⟨r,hr⟩:=zo (Xu rs msg NB j);rw[hr]at ht;obtain⟨Dd,Eb,HLT,YF,yb1⟩:=FD (λW hs hE=>(hr▸HBR.o NB j W hs hE:zE prog 135 #[(zX p 0),.bool NB] W (yb2 p rs d r W))) ht (λf q (e:r = .ok (f,q))=>Wh hu.o (hr.trans e)) (lx.o.but (xj.of (p:=p) qV) J) (aI.o.but IM);have hw1:=qV.size;have hN:=Z pC;clear ht hr pC;go_wp2_with fail;refine PG (λW':z7=>zy W' C 4 (.slice ga acc.len gc)) 13 [0,1,2,3,4,5,6,7] 6 lZ.o.c4 ?_;refine UG 8 (λK hK=>?_);go_simp;rw[xuv.o];refine(Dd.o w1.drew (UR.o.below (z8 _ _).drew) (yb1.o.but (xj.refl _ _).drew)).mono ?_;rintro e w2 ⟨hq,gN⟩;have gN:xj p w1 w2:=(xj.refl p w1).drew.trans gN;have Ut:=IM.trans gN
 cases r with
 |error en =>
  exact zoq
 |ok fq =>
  obtain⟨f,q⟩:=fq;obtain⟨⟨k,pl,m,ma,mc,hf,rfl,lY,vs,Y4,Nf⟩,ZW⟩:=hq;obtain⟨gi,D3,Jx,CQ,K1,Cd⟩:=l6 Y4 Nf ZW (lZ.o.but gN J) (YF.o.but gN (by omega)) (show R=(jX rs msg NB n' (acc.app f) q).then G from Eb.o);have hjq:=HLT.o f q rfl;have HF:=Z hf;have HMM:=Z lY;have yb3:=ZW.here;have hwx:=gN.size;have q4':=CQ.o.c4;clear Y4 Nf ZW gN hf HLT Eb lY Dd;refine hK.out _ _ CQ.o.c4 λ_=>?_;clear hK K;refine UG 9 (λK hK=>?_);go_simp;have q43:=(CQ.o.but (xj.of (p:=p) ((z8 (w2:Nat) w2).alloc (X _) (.cells #[zv k,pl,.slice ma m.len mc] 219))) (by omega)).c4;refine hK.out _ _ q43 λ_=>?_;clear q43;clear hK K;have kL:yX w2 w2 (w2.alloc (.cells #[zv k,pl,.slice ma m.len mc] 219)):=(z8 _ _).alloc (X _) _;have HC3:=Z (λi=>zg w2 #[zv k,pl,.slice ma m.len mc] 219 (0,0) i);obtain⟨w3,Ko⟩:=zo (w2.alloc (.cells #[zv k,pl,.slice ma m.len mc] 219));rw[Ko]at kL HC3|-
  have l9:=Z (CQ.o.but (xj.of (p:=p) kL) J);have GZ:=Z (Jx.o.below kL);have xuu:=Z (K1.o.but (xj.of (p:=p) kL) (by omega));have CK:=Ut.below kL;have zjk:=kL.size;have pE:acc.len<=2000000:=by
   have:=yb5.o;have:=HH.o.len;omega
  clear Ko;refine UG 10 (λK hK=>?_);rw[zl (by rfl)];refine zjj NY _ _ rfl (C+1) (w1:Nat) _ acc f ws rfl xuu.o ⟨(w2:Nat),0,none⟩ 1 1 [zv k,.int .i64 pl,.slice ma m.len mc] rfl rfl ?c1 ?c2 ?c3 J ?c4 (by rw[HF.o];rfl) (by omega) (by omega) ?c5
  case c1 =>
   intro jj u hu;rw[vA,HC3.o];simpa using hu
  case c2 =>
   intro u hu;simp at hu;rcases hu with rfl|rfl|rfl<;>rfl
  case c3 =>
   exact yd6
  case c4 =>
   intro kk NV;exact(YF.o.lt kk NV).2
  case c5 =>
   intro v' w4 Vy U2;have RL:=Z Vy;have aN:=Z (λkk NV=>(YF.o.lt kk NV).1);have Fs:=Z (l9.o.grown U2 (λe=>by have:=aN.o C e.symm;omega));have Vg:=Z (GZ.o.grown U2 (λq hq=>by have:=aN.o q hq;omega));have RM:=CK.grown U2 (λq hq=>by have:=aN.o q hq;omega);have vu2:=U2.size;obtain⟨ga',gc',hv',_⟩:=Vy.row;subst hv';clear Vy U2;refine hK.out _ _ Fs.o.c4 λ_=>?_;clear hK K;have q44:=Fs.o.c4;have z44:=Fs.o.z 4;refine qY [11,12] 1 rfl (by intro _ _ d _ _ h;cases d<;>exact h) yy (by kernel_rfl) Fs.o.c4 ?_;(iterate 2 ((first|refine ty ?_|refine tn ?_);try simp only[pl]))
   refine yA ?_;refine N3 13 (λK hK=>?_);go_simp;refine hK.out _ _ ?_;clear hK K;refine N4 ?_ _;go_wp2;go_roundw
   case rel =>
    refine⟨acc.app f,q,n',_,_,Vg.o.own hpC 4 _,RM.own hwC 4 _,Fs.o.zjg,RL.o.but (xj.set C _ 4 _) J,Fo.Zx _ _ HLG.o (by rw[HF.o];rfl),Cd.o,by have:=hN.o;omega,?_⟩;rw[Fo.jZ,show f.len=1 by rw[HF.o];rfl];have:=yb5.o;omega
   case measure =>
    rw[qc (Vg.o.own hpC 4 _),qc HSR.o];omega):P:=h
def pH(h:P:=by
 have mj:jh n (acc++[c::t.take m]) (t.drop m)=r:=yd0
 have zo3:=Z mj;have gN:u.extract (m+1) u.size=⟨(t.drop m).toArray⟩:=zog
 have Fh:u.extract 0 (m+1)=⟨(c::t.take m).toArray⟩:=zof
 have mg:=Z Fh;have lj:=Z gN;clear mj Fh gN;go_wp2_with (at_builtin;refine vY uN rfl _ _ rfl (w:Nat) _ _ _ rfl (HO.o.alloc _) ⟨(wr:Nat),0,none⟩ 1 1 [.string (u.extract 0 (m+1))] rfl rfl (by exact cells_one (zg _ _ _ _ _)) (by first|rfl|(intro x hx;simp at hx;subst hx;rfl)) J (by have:=hb.size;simp;omega) ?_);intro RN w5 Ya VV;have Xv:zJ w w5:=(hb.alloc hb.size _).grown VV (by have:=hb.size;simp;omega) (λq hq=>(HO.o.lt q hq).1);obtain⟨a5,c5,rfl⟩:=zD Ya;rw[mg.o]at Ya;have aO:=Z Ya;clear Ya VV;go_wp2;rw[lj.o];go_roundg n
 case measure=>omega
 case rel=>exact⟨acc++[c::t.take m],t.drop m,rfl,by simpa using aO.o,Xv,by simp at Vf|-;omega,yd1,zo3.o⟩):P:=h
def zpd(h:P:=by
 have QW:=aK.o;rw[hm]at QW;have HQ2:=Z QW;have HM:=Z hm;clear QW hm;have cQ:=cQ2;obtain⟨Q,hQ⟩:∃Q,Q=(w:Nat):=⟨_,rfl⟩;rw[<-hQ]at cQ cQ2 CU|-
 have HQ:=Z hQ;clear hQ;have zpg:=Z (Nb p (t) w2 HQ2.o (λx h=>HX.o x (by simp[h])) (HT.o.but NU) J);go_wp2_with fail;refine zpg.o.mono ?_;rintro e w7 ⟨hq,PF⟩;have UN:=NU.trans PF;have aU:r=match ya (t) with
   |none=>none
   |some ((i,nt),v)=>some ((λx=>i (F x) !=nt),v):=by
  rw[<-HR.o];rw[bI,HO.o];dsimp only;unfold Us;rw[HM.o];rfl
 cases hn:ya (t) with
 |none =>
  exact zl1
 |some q =>
  obtain⟨⟨Tm,nt⟩,t'⟩:=q;rw[hn]at hq aU;obtain⟨⟨v,rfl,htm⟩,hp7⟩:=hq;have ZC:=Z aU;have HTM:=Z htm;have HP7:=Z hp7;have cQ7:=cQ.but PF CU;have hQ7:=cQ7.lt;have HF7:=Z (OpR.keep (lo':=(w:Nat)) (hi':=(w7:Nat)) (HFV.o (w:Nat) (w2:Nat) w2) (PF.keep ud (X _)) (X _) PF.size);obtain⟨kt,cpt,rfl,_⟩:=htm;clear aU hn hp7;go_wp2;go_ret;have hbA:=UN.alloc (.cells #[.func (.func kt) #[] cpt] 132);have hbB:=hbA.alloc (.cells #[.bool nt] 4);have hsA:(w7.alloc (.cells #[.func (.func kt) #[] cpt] 132)).heap.size=(w7:Nat)+1:=zY
  have hsB:((w7.alloc (.cells #[.func (.func kt) #[] cpt] 132)).alloc (.cells #[.bool nt] 4)).heap.size=(w7:Nat)+2:=zY
  have pD:yX w7 w7 ((w7.alloc (.cells #[.func (.func kt) #[] cpt] 132)).alloc (.cells #[.bool nt] 4)):=((z8 _ _).alloc (X _) _).alloc (by simp) _;refine⟨?_,hbB⟩;rw[ZC.o];have hQw:=HQ.o;have hw7:=UN.size;refine⟨⟨_,rfl,127,_,rfl,λargs w=>enters_of func127 (by kernel_rfl) rfl args w,λW hW nv x hx=>?_⟩,HP7.o.below pD⟩;rw[hsB]at hW;have Wt:xS w.heap.size (w7:Nat) w7 W:=hW.via (uO pD (X _) (X _)) (X _) J;refine NZ nv x _ _ _ _ _ nt Tm (F) w.heap.size (w7:Nat) W hx ((hW.cell ?_ ?_).trans ?_) ((Wt.cell ?_ hQ7).trans cQ7.c) ((hW.cell ?_ ?_).trans ?_) (HTM.o.keep (Wt.via (vX (X _)) (by have:=NU.size;omega) (X _)) (by have:=NU.size;omega) (X _)) (HF7.o.keep Wt (X _) (X _)) Wt.1;all_goals first|(show w.heap.size<=(w7:Nat);omega)|(show (w7:Nat)<(w7:Nat)+2;omega)|(show w.heap.size<=(w7:Nat)+1;omega)|(show (w7:Nat)+1<(w7:Nat)+2;omega)|(show w.heap.size<=Q;omega)|(go_simp;done)):P:=h
def pI(h:P:=by
 have Vg:=Z (GZ.o.grown Q8 (λk hk=>mF));have RM:=CK.grown Q8 (λk hk=>by have:=uT k hk;omega);have PB4:=Q8.cell PB3 (λe=>by have:=uT B e.symm;omega);have RL:=Z Vy;obtain⟨ga',gc',rfl,_⟩:=Vy.row;clear Vy Q8 uT;go_wp2;go_roundw
 case rel=>exact⟨acc.app (.text t .nil),q,n',_,Vg.o,RM,PB4,RL.o,(Fo.kX _ _ HM.o rfl),Cd.o,by have:=HN.o;omega,by have:=HN.o;omega,by rw[Fo.jZ,(show Fo.len (.text t .nil)=1 from rfl)];omega,λs e=>by rw[gy _ zY acc]at e;cases e;omega⟩
 case measure =>
  exact Pp):P:=h
def JK(h:P:=by
 have Pn:((t[n].toNat:Int)==48)=true:=by rw[hc];rfl
 have RO:yE (t.extract 0 n).data.toList=yE fr.data.toList:=yfu
 have HF:=Z RO;clear hc RO;go_wp2;exact⟨⟨t.extract 0 n,rfl,zV,HF.o⟩,by show(t.extract 0 n).size<t.size;simp;omega⟩):P:=h
def pL(h:P:=by
 go_wp2_with fail;refine HTX.o.mono ?_;rintro e w2 ⟨rfl,ZW,gN⟩;have Ut:=CJ.trans gN;have EY:zy w2 B 0 (p,0):=gN.cell PB1 (by show B≠p;omega);have K1:=Z (YF.o.but gN J);have Jx:=Z ZW;have JJ:=gN.size;have hlc:zy w2 g (acc.len - 1) (.iface 166 (zv s)):=gN.cell zjd (by show g≠p;omega);have hzc:w2.frozen? (g,acc.len - 1)=false:=K1.o.1.frozenAt _;clear ZW gN;have HJ:=Z (K1.o.RP HM.o HL.o Kr hul t);go_wp2;have xug:acc.len - 1=us.length:=by omega
 rw[Kh,xug];have hj:=HJ.o;rw[HJ.o.2]at hj;have hS3:=Jx.o.own (B:=g) J us.length (.iface 166 (zv (s++t)));go_roundw
 case rel=>exact⟨acc.xV t,q,n',_,hS3,Ut.own J _ _,by rw[zN,zL (λe=>by have:=congrArg uh e;simp at this;omega)];exact EY,hj.1,(Ww HM.o HL.o t).1,Eb.o,by have:=HN.o;omega,by have:=HN.o;omega,by rw[HJ.o.2];omega,λx e=>by rw[(Ww HM.o HL.o t).2]at e;cases e;rw[zI];omega⟩
 case measure =>
  rw[qc hS3,qc HSR.o];omega):P:=h
def pM(h:P:=by
 have i2:decide ((65:Int)<=(c.toNat:Int))=true:=zV
 have n2:decide (65<=c.toNat)=true:=zV
 have i3:decide ((c.toNat:Int)<=90)=false:=zV
 have n3:decide (c.toNat<=90)=false:=zV
 have i4:((c.toNat:Int)==95)=false:=zV
 have i5:decide ((c.toNat:Int)<48)=false:=zV
 have n5:decide (c.toNat<48)=false:=zV
 have i6:decide ((57:Int)<(c.toNat:Int))=true:=zV
 have n6:decide (57<c.toNat)=true:=zV
 exact mq):P:=h
def xi(h:P:=by go_num):P:=h
def IW(h:P:=by
 go_enter func108,ntmps108;go_wp2_with fail;refine(IA s _ J).mono ?_;rw[HN.o];rintro e w1 ⟨rfl,rfl⟩;go_wp2_with fail;go_quiet (fail)
 go_wp2;go_ret2
 exact⟨uZ,nq,rfl⟩):P:=h
def pN(h:P:=by
 clear HG;go_wp2_with fail;refine bW (λW':z7=>zy W' p 0 (.string s)/\zy W' p 1 k) [0,1,2,3,4,5,6,7,8,9,10,11,12,13,14,15,16,17,18,19,20,21] 0 aJ ?_;refine fR ?_ _;obtain⟨w5,hw5⟩:∃Xk,w4.drew=Xk:=⟨_,rfl⟩;rw[hw5]at aG zj8 mP mR aJ;try rw[hw5]
 exact zov):P:=h
def Xq(h:P:=by exact cells_one (zg _ _ _ _ _)):P:=h
def Q9(h:P:=by rw[hn];rw[show(((n+1:Nat):Int) - 1)=(n:Int)by omega];exact C1 _ J):P:=h
def pO(h:P:=by
 clear bA Cy hck hwk hih hd0 hd1 Yt Ez hd4 hd5 EX EV k1' k2' k3' k4' k5' k6' k7' k8' Db;go_wp2_with fail;refine HBR.o.mono ?_;rintro e w2 ⟨rfl,L2,GJ,QW,V0⟩;have Cx:=Z GJ;have ZT:=Z V0;clear GJ V0 HBR;go_wp2;go_roundw
 case rel=>exact RR.o _ _ r _ L2 w2 rfl aF.o FI.o Cv.o lX.o.2.2.2.2.2.2.2 HWQ.o DZ.o (by have:=U5.o;simp at this;omega) Cx.o QW ZT.o Qm.o J
 case measure=>simp only[intOf];omega):P:=h
def RS(h:P:=by
 rw[hwb]at bd b0 b1 zkg;have hS2:zy wb.drew p 0 (.string s)/\zy wb.drew p 1 j:=⟨b0,b1⟩;clear Zz;go_wp2_with fail;try rw[hwb]
 exact yfx):P:=h
def JG(h:P:=by exact⟨.text x pre,by rw[h1];rfl,λm=>h2 m,λt=>by rw[Fo.xV,h3];rfl;simp⟩):P:=h
def pP(h:P:=by
 go_wp2_with fail;refine bW (λW':z7=>zy W' p 0 (.string s)/\zy W' p 1 k) [0,1,2,3,4,5,6,7,8,9,10,11,12,13,14,15,16,17,18,19,20,21,22,23,24,25,26,27,28,29,30,31,32,33,34,35,36,37,38,39,40,41,42,43,44,45,46,47,48,49,50,51,52,53,54,55,56,57] 0 jq ?_;refine fR ?_ _;go_wp2;refine zU (v := .tuple #[]) ?_ rfl ?_
 .simp[yk,results79,go_sem]
 exact zp4):P:=h
def DY(h:P:=by first|(have:=mf.o;simp at Vf;omega)|(simp at Vf|-;omega)|(simp at Vf|-;exact Vf)):P:=h
def pR(h:P:=by
 have hDs:D.size<=1000000:=by rw[hD];decide
 have HDD:=Z (show D.data.toList=NQ L by rw[hD,d0];rfl);have kL:zuz D.data.toList=false->uH ra rb mi po gr fi ne L=false:=λh=>absurd h (by rw[hD];decide)
 have YZ:¬(xn D.data.toList).1.length=10->uH ra rb mi po gr fi ne L=false:=λh=>absurd (by rw[hD];exact aP) h
 exact yf8):P:=h
def pS(h:P:=by
 have hDs:D.size<=1000000:=by rw[hD];exact hd
 have HDD:=Z (show D.data.toList=NQ L by rw[hD,HL.o];unfold NQ;rw[zL d0]);have kL:zuz D.data.toList=false->uH ra rb mi po gr fi ne L=false:=λh=>aR o7
 have YZ:¬(xn D.data.toList).1.length=10->uH ra rb mi po gr fi ne L=false:=λh=>aS d0 o7
 exact yf8):P:=h
def Ia(h:P:=by clear hn hf;go_enter func106,ntmps106;go_wp2;all_goals (first|(exfalso;omega)|(go_ret;exact⟨uZ,rfl⟩))):P:=h
def zr2(h:P:=by
 intro l;induction l with
 |nil=>intro v _;simp
 |cons c t ih =>
  intro v h;simp only[kP,zQ]at h;have hc:=(xe c).1 h.1;have:=ih (10*v+(c.toNat - 48)) h.2;rw[QA,zm];refine ze this ?_;have h3:10*v+(c.toNat - 48)+1<=(v+1)*10:=J
  exact zok):P:=h
def Ic(h:P:=by have:=congrArg uh e;simp at this;omega):P:=h
def RA(h:P:=by have:=HN.o;omega):P:=h
def pT(h:P:=by obtain⟨rfl,lV⟩:=hq;have CG:=Z (show R = .pan c s2 from MS.o);go_wp2;refine⟨rfl,?_⟩;rw[CG.o];exact⟨rfl,EU.o _ _ _ _ lV J⟩):P:=h
def pW(h:P:=by rw[zu,yw,endGo,zL (by show ¬d+1=0;omega)];show endGo _ (d+1) (i+1)=_;rw[vv,yw,ih,endGo,zL (by show ¬d+1 - 1=0;omega)];show endGo _ (d+1 - 1) _=_;rw[show d+1 - 1=d by omega,ih2];congr 1;simp only[zm,zI];omega):P:=h
def JF(h:P:=by have:=U5.o;simp at this;omega):P:=h
def DX(h:P:=by rw[zO];exact h.z j):P:=h
def pA(h:P:=by have CG:=Z (show R = .go false s2 from MS.o);go_wp2;go_ret;rw[CG.o];exact⟨rfl,EU.o _ _ _ _ HIX.o J⟩):P:=h
def Ie(h:P:=by rw[hW];exact((z8 _ _).alloc (X _) _).alloc zY _):P:=h
def VQ(h:P:=by go_wp2;go_ret;exact⟨uZ,rfl⟩):P:=h
def pa(h:P:=by
 refine⟨λr hr=>(by rw[qt]at hr;cases hr),by rw[qt];simp,by rw[qt,qJ];rfl,λi hi=>?_⟩;rw[qt]at hi;have:i=0:=by simpa using hi
 rw[List.take_nil,qJ,this];rfl):P:=h
def pn(h:P:=by intro l h' hh hg;refine⟨zZ hh (zZ hb.size jA.size),λk k1 k2=>?_⟩;rw[jA.block k (by have:=hb.size;omega) (λe=>by rcases hg k e.symm with q|q<;>omega)];exact hb.block k J):P:=h
def Ra(h:P:=by
 have I9:(s[k].toNat:Int)<128\/(191:Int)<s[k].toNat:=by
  have:=Zv s[k];exact zpz
 exact zoy):P:=h
def dz(h:P:=by simp[go_sem]):P:=h
def Ii(h:P:=by
 rw[e]at h3|-
 rw[el]at h2|-
 exact Il rs r _ Q i zV h2 h3):P:=h
def DV(h:P:=by rw[Fo.xV,kV r t gW];rfl):P:=h
def JD(h:P:=by simp[hL,zu]):P:=h
def Im(h:P:=by rw[beq_eq_false_iff_ne];rintro rfl;exact absurd hc.1 zj):P:=h
def ph(h:P:=by
 simp only[xY,uG]at hm;rcases hm with hm|rfl
 .have:=h m hm;exact⟨this.1,J⟩
 .exact⟨by show 116<256;decide,zY⟩):P:=h
def pw(h:P:=by exact bL (by rw[hD,zL (λq=>h ⟨q.1.2,q.2⟩)]) (by rw[hS,zL (λq=>h ⟨q.1,by have:=q.2.1;simp[least]at this;omega,q.2.2⟩)]) J):P:=h
def r7(h:P:=by
 go_wp2_with fail;refine(VK t.size _ J).mono ?_;rintro e w1 ⟨rfl,rfl⟩;go_wp2;go_ret3
 exact⟨by rw[HSH.o,yz];rfl,zkj⟩):P:=h
def r8(h:P:=by
 intro n;induction n with
 |zero =>
  intro l h;have:l=[]:=zF J;subst this;simp[yV]
 |succ n ih =>
  exact yfb):P:=h
def r9(h:P:=by
 go_wp2_with fail;refine(VK fr.size _ J).mono ?_;rintro e w1 ⟨rfl,rfl⟩;go_wp2;go_ret3
 exact⟨by rw[yz];rfl,zkj⟩):P:=h
def VJ(h:P:=by cases hg):P:=h
def DU(h:P:=by
 go_wp2;go_ret3
 exact⟨rfl,zkj⟩):P:=h
def rz(h:P:=by
 rw[ry.o,<-aB.o,zc J,dD,<-hj];match j,hj3 with
 | 0,_=>rfl
 | 1,_=>rfl
 | 2,_=>rfl):P:=h
def Rc(h:P:=by rw[hp];intro h;rcases h with h|h;exact Hle.o h;cases h):P:=h
def ru(h:P:=by
 go_wp2_with fail;refine(EK t _ ht).mono ?_;rintro e w1 ⟨rfl,rfl⟩;go_wp2;go_ret3
 exact⟨by rw[HSH.o];rfl,zkj⟩):P:=h
def rq(h:P:=by
 go_wp2;refine zU (v := .tuple #[]) ?_ rfl ?_
 .exact nH
 rw[HL.o,<-HQ.o.eq,HE.o];exact⟨rfl,aK.o,ybz.o⟩):P:=h
def zr3(h:P:=by refine yA ?_;refine bF 4 (λK hK=>?_);go_simp;refine(HD.o _).mono ?_;rintro e w' ⟨rfl,rfl⟩;exact ziv):P:=h
def DQ(h:P:=by show B≠p;omega):P:=h
def zr4(h:P:=by
 rw[zr gA,xY];rintro(q|q)
 .exact aW.o q
 .simp at q;exact hq q.symm):P:=h
def Re(h:P:=by rw[zh _ _ _ _ zY];exact h.hA):P:=h
def rj(h:P:=by simp only[Fo.qa]at m;simp only[Fo.wf,zQ]at w;exact⟨h.1.1,Fo.Ze r h.2 w.2 J o⟩):P:=h
def DK(h:P:=by exact JQ HNV.o hr J Cz):P:=h
def Ri(h:P:=by rw[<-hJ];exact yl rs _):P:=h
def rf(h:P:=by rw[yq J];exact⟨rfl,X _,λj h1 h2=>by simp[fM]at h2;omega⟩):P:=h
def DJ(h:P:=by have:=FL.size;omega):P:=h
def rZ(h:P:=by rw[hW];exact⟨zg _ _ _ _ _,zg _ _ _ _ _,zg _ _ _ _ _,λj=>qk⟩):P:=h
def JB(h:P:=by simpa using hl):P:=h
def rY(h:P:=by
 clear hf hc;go_wp2;all_goals (first|(exfalso;omega)|skip)
 go_ret;exact⟨uZ,bj⟩):P:=h
def rX(h:P:=by
 apply zi;intro hc;rw[Xe zV]at hj
 cases hj):P:=h
def Io(h:P:=by first|rfl|simp[go_sem]):P:=h
def Rl(h:P:=by have Hz3:=Z PD;clear PD hp;exact yff):P:=h
def JC(h:P:=by simp at h):P:=h
def rV(h:P:=by obtain⟨a,c,hv,-⟩:=bd.o;simp only[F4]at hv;exact hv.2.1.symm):P:=h
def rU(h:P:=by
 rintro e w3 ⟨rfl,kL⟩;have yd5:=zg0.trans (kL.mono zg0.size)
 exact zl4):P:=h
def rQ(h:P:=by
 rintro e w3 ⟨rfl,kL⟩;have yd5:=bj.trans (kL.mono bj.size)
 exact zl4):P:=h
def Rm(h:P:=by go_wp2;go_ret;exact⟨by rw[HE.o];rfl,rfl⟩):P:=h
def rK(h:P:=by show x.out.length+1<=1000000;have:=HOK.o.n;have:=Rn.o;omega):P:=h
def rJ(h:P:=by rw[za _ _ ⟨(w:Nat),0,none⟩ zV];simp):P:=h
def Ro(h:P:=by have:=aA.o;have:=HZ2.o;omega):P:=h
def rG(h:P:=by rintro e w' ⟨N,rfl,_,_,hb⟩;exact⟨⟨_,_,rfl,.inr ⟨_,rfl⟩⟩,hb⟩):P:=h
def rF(h:P:=by
 apply zi;intro hc;rw[jD J]at h2
 cases h2):P:=h
def rD(h:P:=by rw[XS (acc.len - 1) J,Kr,show acc.len - 1=us.length by omega];simp):P:=h
def rB(h:P:=by exact⟨rfl,((z8 _ _).alloc (X _) _).alloc zY _⟩):P:=h
def Ip(h:P:=by constructor<;>intro q<;>omega):P:=h
def Ir(h:P:=by simp[uE,hy,ud]):P:=h
def Is(h:P:=by simpa using NK):P:=h
def It(h:P:=by have:=h.lt;omega):P:=h
def Rp(h:P:=by go_wp2;go_ret;exact⟨uZ,bj⟩):P:=h
def Rr(h:P:=by have:=rC.size;omega):P:=h
def rE(h:P:=by rw[World.cell?_alloc_at _ _ _ _ zY];rfl):P:=h
def Rs(h:P:=by
 intro v6 W6 Cu hg6;have HF6:=Z Cu;have uT:∀k,(yI fa1 (s1).2.length fc1).ownBlock=some k->B+3<=k:=λk hk=>(HQ3.o.lt k hk).1
 have fH:∀k,k<B+3->(some k:Option Nat)≠(yI fa1 (s1).2.length fc1).ownBlock:=λk h1 h2=>R2
 have q7:=hg6.cell q5 (fH B J);have q8:W6.frozen? (zX B 0)=false:=(zb (a:=(zX B 0)) (hg6.block B (Y _ _ q5) (fH B J))).trans z5;have hI6:=Ih (room':=room) HI5.o hg6 uT Cu (by have:=Ij cl bs [] [];simp only[ur]at this;omega);obtain⟨fa6,fc6,rfl⟩:=zD Cu;refine hK.out _ _ q7 λ_=>?_;clear hK K;refine N3 4 (λK hK=>?_);go_simp;refine hK.out _ _ ?_;clear hK K;refine N4 ?_ _;rw[zI]at hI6;have HI6:=Z hI6;clear hI6;go_wp2;go_ret;have hch:YD s (.br n a fo of cl bs r) = .go true (s1.1,s1.2++FM cl [] [] bs):=by
  show Out.go true ((uL s n a (Zu (.br n a fo of cl bs r))).1,(uL s n a (Zu (.br n a fo of cl bs r))).2++FM cl [] [] bs)=_;rw[lU.o,bd.o]
 rw[hch];exact⟨rfl,HI6.o⟩):P:=h
def rH(h:P:=by
 rw[zg2];clear zg2 fe;refine HIM.o.mono ?_;rintro e w2 ⟨rfl,hp2,qX⟩;have NU:=NJ.trans qX;have CU:(w:Nat)≠p:=J
 have cQ2:=cQ1.but qX CU;have aK:=Z hp2;clear hp2 cQ1
 cases hm:Y5 (t.headD [])
 .exact zpd
 .have QW:=aK.o;rw[hm]at QW;have HQ2:=Z QW;have HM:=Z hm;clear QW hm;have cQ:=cQ2;obtain⟨Q,hQ⟩:∃Q,Q=(w:Nat):=⟨_,rfl⟩;rw[<-hQ]at cQ cQ2 CU|-
  have HQ:=Z hQ;clear hQ;have CV:=Z (λW (hb:xj p w W) (hp:fB W p t.tail)=>Zq p t.tail W hp (λx h=>HX.o x (yo _ (vB h))) (HT.o.but hb));have jq:zy w2.drew Q 0 (.func (.func kf) #[] QT):=cQ2.c;have GQ:=NU.drew;have HPD:=Z (show fB w2.drew p t.tail from HQ2.o.below (z8 _ w2).drew);have cQD:vd w2.drew Q (.func (.func kf) #[] QT):=⟨cQ2.c,cQ2.z,cQ2.n⟩;clear NJ;go_wp2_with fail;refine bW (λW':z7=>zy W' Q 0 (.func (.func kf) #[] QT)) [0,2] 5 jq ?_;generalize w2.drew=wD at GQ HPD cQD|-
  apply ybv (P:=λ(W:z7) (k4 k5 mv:Nat)=>(∃t3,uE (t).tail=some (mv,t3)/\fB W p t3)/\xj p w W/\vd W Q (.func (.func kf) #[] QT)/\vd W k4 (.int .i64 0)/\vd W k5 .nilFunc/\(w:Nat)<=k4/\(w:Nat)<=k5/\k4≠k5/\k4≠p/\k5≠p/\k4≠Q/\k5≠Q)
  case h2 =>
   exact zpy
  case h1 =>
   exact zpj):P:=h
def Rt(h:P:=by
 have i5:decide ((c.toNat:Int)<48)=false:=zV
 have n5:decide (c.toNat<48)=false:=zV
 have i6:decide ((57:Int)<(c.toNat:Int))=true:=zV
 have n6:decide (57<c.toNat)=true:=zV
 have HM:=Z (show Zj (n+1) (s.data.toList.drop (n+1))=R by rw[<-bd.o,zl (⟨h16,.inl PC⟩)]);clear bd PC Ey;go_wp2;go_roundw
 case rel=>exact⟨n+1,zY,J,(by first|rfl|trivial),HM.o⟩
 case measure=>simp only[intOf];omega):P:=h
def Rh(h:P:=by
 have Pn:=(Zv _).1 hc;have ZE:=aa s k Fv J;have rL:=Fe Zw hc;have hpv:=Rw (s.data.toList.tail.take (k - 1)) s[k] v;rw[<-ZE]at rL hpv;have ybu:=Z rL;have Hpv:=Z hpv;clear rL hpv ZE Zw hc;go_wp2;go_round
 case rel=>exact⟨k+1,J,J,by go_num,by rw[show k+1 - 1=k from rfl,Hpv.o];go_num,ybu.o⟩
 case measure=>simp[intOf];omega):P:=h
def rM(h:P:=by
 have MT:=lQ.o;rw[vG,rN]at MT;have MS:=Z MT.symm;rw[rN]at lK;clear rN MT lQ FN CF;go_wp2_with fail;refine lK.o.mono ?_;rintro e w2 hq
 cases o1 with
 |pan c s2 =>
  exact pT
 |go b s2 =>
  obtain⟨rfl,lV⟩:=hq;have HIX:=Z lV;clear lV
  cases b with
  |false =>
   exact pA
  |true =>
   have CG:=Z (show vG F r s2=R from MS.o.symm);go_wp2;go_roundw
   case rel=>exact⟨i+1,us++[y],_,r,s2,zY,J,FI.o,Cv.o,ae.o,by simp[nQ.o],by rw[aF.o,vv];rfl,by have:=DZ.o;omega,by have:=U5.o;omega,HIX.o,CG.o⟩
   case measure=>simp only[intOf];omega):P:=h
def rO(h:P:=by
 have FI:=Z bA;clear bA;have ae:=Z (show r.wf 2000000=true from ae.o);have Cv:=Z (show r.vS=true from Cv.o);have DZ:=Z (show i+(r.len+1)=L from Vf);have CG:=Z (show vG F r s1=R from lQ.o);have U5:=Z (show zW r<=zW f by have:=U5.o;simp at this;omega);go_wp2;go_roundw
 case rel=>exact⟨i+1,us++[y],_,r,s1,zY,J,FI.o,Cv.o,ae.o,by simp[nQ.o],by rw[aF.o,vv];rfl,by have:=DZ.o;omega,by have:=U5.o;omega,JE.o,CG.o⟩
 case measure=>simp only[intOf];omega):P:=h
def fy(h:P:=by intro _ _ d _ _ h;cases d<;>exact h):P:=h
def Iw(h:P:=by
 have ybq:(t.take (m+1)).all (λd=>yJ d==yJ c)=true:=yd3
 have xq9:=Z ybq;clear hq ybq;go_wp2;exact⟨⟨m+1,J,xi,xq9.o⟩,by simp[intOf];omega⟩):P:=h
def rP(h:P:=by
 go_wp2_with fail;refine HLV.o.mono ?_;rintro e w3 ⟨rfl,rR,A0⟩;have NG:=Z rR;have HF3:=Z A0;have xqz:=A0.cell hkc nW;clear rR A0 HLV;go_wp2;go_roundw
 case rel=>exact⟨j+1,s'.qh idx j,xi,J,HG.o.symm,NG.o,HF'.o.trans HF3.o,HI'.o.fr HF3.o,MkS.le_trans HLE.o (s'.U6 _ _),by rw[X3];exact U5.o,xqz⟩
 case measure=>simp only[intOf];omega):P:=h
def rS(h:P:=by
 have PC:YB c=false:=by unfold YB;simp;omega
 have Ey:Xp c=false:=UO
 have i0:decide ((97:Int)<=(c.toNat:Int))=false:=zV
 have n0:decide (97<=c.toNat)=false:=zV
 have i1:decide ((c.toNat:Int)<=122)=true:=zV
 have n1:decide (c.toNat<=122)=true:=zV
 exact pM):P:=h
def rT(h:P:=by have a1:=L8.o.c1;have az:=L8.o.z 1;rw[HYI.o]at a1;have Zz:=L8.o.Y0 j J;have bd:=Z Zz;have b0:=Zz.c0;have b1:=Zz.c1;dsimp only at b1;have zkg:bD p w (w2.setCell (zX p 1) j):=Xj ly.o;obtain⟨wb,hwb⟩:=zo (w2.setCell (zX p 1) j);exact RS):P:=h
def rW(h:P:=by
 have dy:=Qz (p:=λd=>yJ d==yJ c) hm Cb.o (λh=>absurd h Wm);have I7:=Z dy;have b2:¬((m:Int)+1<(u.size:Int)):=by have Wr:u.size=t.length+1:=U5.o;omega
 have b1:¬(m+1<u.size):=J
 have b3:m+1<=u.size:=R0
 clear dy Wm;exact pH):P:=h
def S0(h:P:=by
 go_wp2;go_round
 case rel=>exact⟨k+1,J,xi,HF.o⟩
 case measure=>simp[intOf];omega):P:=h
def rA(h:P:=by
 have hb:∀(l:Wd) (v:Nat),l.all yn=true->l.foldl (λv c=>10*v+(c.toNat - 48)) v<(v+1)*10 ^ l.length:=zr2
 have h1:=hb l 0 hd;have h2:10 ^ l.length<=10 ^ 9:=zux zj h;have h3:(10:Nat) ^ 9=1000000000:=zj
 unfold ZH;omega):P:=h
def Lz(h:P:=by rw[e];exact NF (n:=1) zj (by simp[zH]) zY (λx h=>by simp[h]) hr):P:=h
def re(h:P:=by
 have Ey:Xp c=false:=UO
 have HE:=Z (show n=Ly (s.data.toList.drop k)by rw[<-HG.o,hm,HDR.o];exact(JH (λe=>by rw[Ey]at e;exact absurd e.2.1 zY)).symm);exact pN):P:=h
def ri(h:P:=by obtain⟨k,hk,rfl⟩:=List.mem_iff_getElem.1 hr;simp only[xr,xz]at hk;have h1:=(hf k J).2;rw[A8 (EJ k J)]at h1;simpa using h1):P:=h
def rp(h:P:=by obtain⟨vt,b,e,l1,l2,c0,c1,hr⟩:=h;exact⟨vt,b,e,J,J,(hk.cell (p:=(b,0)) l1 l2).trans c0,(hk.cell (p:=(b,1)) l1 l2).trans c1,zt.keep hk h1 h2 r vt hr⟩):P:=h
def DG(h:P:=by first|exact Qm.o|simpa using Qm.o):P:=h
def rr(h:P:=by refine⟨J,rfl,?_,by simp[Fo.len];omega,by simp[Fo.cnt];omega⟩;simp only[Fo.wf,zQ,qP];exact⟨J,trivial⟩):P:=h
def rh(h:P:=by have dy:=Qz (p:=λd=>yJ d==yJ c) hm Cb.o (λh=>by simp[HK2.o,HK.o,hq]);have I7:=Z dy;clear dy hq;exact pH):P:=h
def s7(h:P:=by rw[zN,zL (λe=>neB (congrArg uh e).symm),zN,zL (λe=>neA (congrArg uh e).symm)];exact(hc 0)):P:=h
def s8(h:P:=by rw[zN,zL (λe=>neB (congrArg uh e).symm),zN,zL (λe=>neA (congrArg uh e).symm)];exact f1):P:=h
def Lx(h:P:=by simp[intOf];omega):P:=h
def sy(h:P:=by
 go_wp2;go_roundw
 case rel=>exact⟨j+1,s',xi,J,HG.o.symm,HM'.o,HF'.o,HI'.o,HLE.o,U5.o,hkc⟩
 case measure=>simp only[intOf];omega):P:=h
def sx(h:P:=by
 intro v4 w4 Vy Q8;have uT:∀k,(.slice (g,0) acc.len gc:zx).ownBlock=some k->B+1<=k:=λk hk=>(YF.o.lt k hk).1
 exact pI):P:=h
def su(h:P:=by
 intro v4 w4 Vy Q8;have uT:∀k,(.slice ga acc.len gc:zx).ownBlock=some k->B+1<=k:=λk hk=>(YF.o.lt k hk).1
 exact pI):P:=h
def S1(h:P:=by rw[zO];exact h6 j):P:=h
def sq(h:P:=by
 rw[<-jo]at ih;refine⟨ih.1,J,λj h1 h2=>?_⟩;by_cases hj:j=n
 .subst hj;rw[e];omega
 .exact ih.2.2 j J h2):P:=h
def sk(h:P:=by
 rw[<-Vh s k ud]at hts;go_wp2;go_round
 case rel=>exact⟨k+1,J,xi,hts⟩
 case measure=>simp[intOf];omega):P:=h
def sj(h:P:=by exact sg (by rw[hD,zl ⟨⟨zY,h.1⟩,h.2⟩]) (by rw[hS,zl ⟨h.1,by simp[least];omega,h.2.2⟩]) zj):P:=h
def Lv(h:P:=by rw[zN,zL zY];exact h.c1):P:=h
def Lu(h:P:=by exact ai (ND 0) (ND 1)):P:=h
def sf(h:P:=by rw[List.getElem_append_right J];simpa using hT.keep (A9 l0 h0 S2 hg0) (X _) (X _)):P:=h
def sb(h:P:=by
 clear hTx;go_wp2;go_roundw
 case rel=>exact⟨k+1,J,xi,HF.o,Cz⟩
 case measure=>simp[intOf];omega):P:=h
def Lq(h:P:=by rw[HN.o];exact X _):P:=h
def DD(h:P:=by rw[Fo.xV,h3];rfl):P:=h
def sZ(h:P:=by
 rw[e2]at h3|-
 have:=Il rs bs (P++[m]) (z::(zu rs r++Q)) i zV zV h3;simp at this|-
 omega):P:=h
def sY(h:P:=by
 rw[e3]at h3|-
 have:=Il rs r (P++m::(zu rs bs++[z])) Q i zV zV h3;simp at this|-
 omega):P:=h
def sX(h:P:=by have:=E.msg hS h2 O h3 (rs.length+1) .nil i h4 J;rw[zu,vu]at this;exact this):P:=h
def Xg(h:P:=by exact tb _ J J):P:=h
def sV(h:P:=by
 go_wp2;go_ret3
 rw[Hi.o,Vu,Vw,yq zY];exact⟨zY,0,rfl⟩):P:=h
def Lk(h:P:=by rw[HM.o,HA.o];exact HY.o):P:=h
def sU(h:P:=by go_wp2_with fail;refine(EK fr _ hf).mono ?_;rintro e w1 ⟨rfl,rfl⟩;exact DU):P:=h
def Lj(h:P:=by simpa[zu]using h2):P:=h
def sQ(h:P:=by rw[e];exact NF (n:=2) zj (by simp[zH]) zY (λx h=>by simp[h]) hr):P:=h
def Lg(h:P:=by have:=NC.size;omega):P:=h
def S3(h:P:=by exact⟨this.1,this.2.1,λ_=>this.2.2.1⟩):P:=h
def sK(h:P:=by have HF:=Z hf;clear hf;go_wp2;go_ret;exact⟨by rw[HF.o];rfl,bj⟩):P:=h
def Lf(h:P:=by have:=HB.o;omega):P:=h
def S4(h:P:=by rw[<-hs];exact vd.made _ _ _ zj):P:=h
def sJ(h:P:=by unfold maxLen;have:=jF 9 r J;omega):P:=h
def sG(h:P:=by cases hg;exact yO _ (NG.o.lt q)):P:=h
def S5(h:P:=by rw[heap_set h.hB];rfl):P:=h
def sF(h:P:=by clear RO hc;go_enter func8,ntmps8;exact VQ):P:=h
def S6(h:P:=by have:=qV.size;omega):P:=h
def sD(h:P:=by
 clear HG;go_wp2_with fail;refine bW (λW':z7=>zy W' p 0 (.string s)/\zy W' p 1 k) [0,1,2,3,4,5,6,7,8,9,10,11,12,13,14,15,16,17,18,19,20,21] 0 aJ ?_;refine fR ?_ _;obtain⟨w5,hw5⟩:∃Xk,w4.drew=Xk:=⟨_,rfl⟩;rw[hw5]at aG zj8 mP mR aJ;try rw[hw5]
 clear hw5;clear mP mR aJ;go_wp2;go_roundw
 case rel=>exact⟨n+1,zY,J,J,aG.o,zj8,HM.o⟩
 case measure=>simp only[intOf];omega):P:=h
def sB(h:P:=by
 rw[CD];have HS:=Z (sC.o.trans (zL hy));clear CD hy;refine hK.out _ _ ⟨f2,f3,f0,f1⟩ λ_=>?_;clear hK K;refine Xo [7] 0 ⟨f2,f3,f0,f1⟩ ?_;refine fR ?_ _;go_wp2;go_roundw
 case rel =>
  exact⟨i+1,(m1,m2),zY,J,J,by rw[Vs];exact HS.o,f0,f1,ybk.o,⟨_,_,g0,g1⟩,ybj.o,ybg⟩
 case measure=>simp only[intOf];omega):P:=h
def sH(h:P:=by
 go_enter func165,ntmps165;go_wp2_with fail;refine xb (λW':z7=>True) [0,1,2,3] 17 fy yy yy (show True from trivial) ?_;(iterate 4 ((first|refine ty ?_|refine tn ?_);try simp only[pl]))
 exact zr3):P:=h
def S7(h:P:=by rw[go_one (by rw[e];decide) (by rw[e];omega) zY,e];exact bl n _ _ 0 (by simp;omega) (λc t _ h=>J)):P:=h
def Qy(h:P:=by show p<p+1;omega):P:=h
def sI(h:P:=by rw[gR _ _ t zV,gR _ _ t zV,gR _ _ t zV,gR _ _ t (Ch htl)];exact hf0):P:=h
def DB(h:P:=by first|exact HD.o|(rw[<-MO.o];exact HD.o)):P:=h
def sL(h:P:=by rw[za _ _ t zV,za _ _ t zV,za _ _ t zV,za _ _ t htl];exact ht0):P:=h
def sM(h:P:=by rw[PH];exact(((((z8 _ _).alloc J _).alloc zV _).alloc (by simp;omega) _).alloc (by simp;omega) _).setCell zY _):P:=h
def sN(h:P:=by rw[zN,zL (λe=>neB (congrArg uh e).symm),zN,zL (λe=>neA (congrArg uh e).symm)];exact(hc 1)):P:=h
def JI(h:P:=by rw[hS,bM zY]):P:=h
def sO(h:P:=by rw[zN,zL (λe=>neB (congrArg uh e).symm),zN,zL (λe=>neA (congrArg uh e).symm)];exact f2):P:=h
def Ld(h:P:=by rw[zN,zL zY];exact h5):P:=h
def sP(h:P:=by
 have HF:=Z (show m.data.toList ∉ ws.take (k+1)from zr4)
 clear hq;exact S0):P:=h
def DC(h:P:=by simpa using aO.o):P:=h
def S8(h:P:=by rw[ry.o,vv];rfl):P:=h
def DE(h:P:=by simp<;>omega):P:=h
def S9(h:P:=by show (w:Nat)<_;omega):P:=h
def Lb(h:P:=by simpa using zlb.o):P:=h
def Sz(h:P:=by rw[zN,zl rfl,h.c0];rfl):P:=h
def JL(h:P:=by exactλk hk=>ze (YF.o.lt k hk).2 J):P:=h
def sR(h:P:=by
 have HF:=Z (LZ JE.o LY Vy (room':=room) Cq J);clear LY Vy;go_wp2;go_ret;have hch:YD s (.num n a r) = .go true ((λy=>if n=y then some kv else s.1 y,s.2):DH):=by show Out.go true (uL s n a 1)=_;rw[show(1:Nat)=kv from lU.o,bd.o]
 exact RV):P:=h
def DI(h:P:=by first|rfl|(intro x hx;simp at hx;subst hx;rfl)):P:=h
def Sy(h:P:=by have h:=Y _ _ HF.o.kc;have:=Fj.size;dsimp only at h;omega):P:=h
def JM(h:P:=by rw[zN,zL zY];exact h0):P:=h
def Qx(h:P:=by exact cells_one zY):P:=h
def sS(h:P:=by
 rename_i u heq
 cases heq;cases hs;rw[go_two (U9 zY) zj zY];exact bl n u _ 0 (by simp at hl;omega) (λc t _ h=>J)):P:=h
def JN(h:P:=by rw[zg4.o];simp[Fo.keys]):P:=h
def Qv(h:P:=by rw[MO.o];exact H2.o):P:=h
def Sx(h:P:=by rw[dB _ _ _ (by rw[hc];rfl)];exact hc):P:=h
def Sv(h:P:=by
 rcases Nat.lt_or_ge 0 (w:Nat)with h|h
 .exact h
 .exact zob):P:=h
def JO(h:P:=by rw[hD,zL zY]):P:=h
def Su(h:P:=by have:=EG hd;simpa using this):P:=h
def sT(h:P:=by rw[fD]at this;exact⟨this.1,λj hj=>this.2.2 j (zG _) hj⟩):P:=h
def LV(h:P:=by first|rfl|trivial):P:=h
def Sq(h:P:=by have:=aB.o;simp;omega):P:=h
def Sk(h:P:=by have:=UR.o.here;omega):P:=h
def Qu(h:P:=by have:=Sj.o;omega):P:=h
def Qq(h:P:=by rw[MO.o];exact ho):P:=h
def LU(h:P:=by rw[zN,zL zY];exact h2):P:=h
def Sg(h:P:=by rw[zO];exact h7):P:=h
def DL(h:P:=by simp[nQ.o];omega):P:=h
def sW(h:P:=by have:=e.2.1;rw[HBB.o]at this;cases this):P:=h
def LQ(h:P:=by first|exact h2|(rw[MO.o];exact h2)):P:=h
def JP(h:P:=by exact cells_one ND):P:=h
def Sf(h:P:=by rw[zO];exact h8):P:=h
def Sd(h:P:=by rw[zN,zL zY];exact h3):P:=h
def DM(h:P:=by rw[HWS.o];simp):P:=h
def DN(h:P:=by exact⟨_,rfl,rfl⟩):P:=h
def Sb(h:P:=by rw[zN,zL zY];exact h1):P:=h
def sA(h:P:=by rw[zN,zL (λe=>Ic)];exact h4 k hk):P:=h
end
def qU(l:List UInt8):Bool:=l.all yn && !l.isEmpty
def IA(s:ByteArray)(w:z7)(hs:s.size<=9223372036854775807) :
  zE prog 141 #[.string s] w λe w'=>e = .returned (.bool (qU s.data.toList))/\w=w':=by
 go_enter func141,ntmps141;go_wp2;go_loop [3] (λi=>∃k:Nat,k<=s.size/\i = .int .i64 k/\(s.data.toList.take k).all yn=true) (λi=>s.size - (intOf i).toNat)
 case atStart=>exact⟨0,J,rfl,zY⟩
 case round =>
  obtain⟨k,g,rfl,c⟩:=hrel;by_cases ud:k<s.size
  .by_cases hd:yn s[k]=true
   .have h2:=(xe _).1 hd;have hts:=Fe c hd;exact sk
   .have a:yn s[k]=false:=(by simpa using hd);have h2:=(Mr _).1 a;have b:qU s.data.toList=false:=(by simp[qU,Qa s k ud a]);go_wp2;all_goals (go_ret;exact⟨rfl,rfl⟩)
  .have d:k=s.size:=(by omega);subst d;have b:qU s.data.toList=decide (0<s.size):=by
    rw[Vu]at c;rw[qU,c,isEmpty_toList,ze8];by_cases f:s.size=0
    .simp[f]
    .simp[f];omega
   exact Jf
def DO(s:ByteArray)(w:z7)(hs:s.size<=9223372036854775807) :
  zE prog 142 #[.string s] w λe w'=>e = .returned (.bool (s.data.toList.all (· == 48)))/\w=w':=by
 go_enter func142,ntmps142;go_wp2;go_loop [3] (λi=>∃k:Nat,k<=s.size/\i = .int .i64 k/\(s.data.toList.take k).all (· == 48)=true) (λi=>s.size - (intOf i).toNat)
 case atStart=>exact⟨0,J,rfl,zY⟩
 case round =>
  obtain⟨k,f,rfl,b⟩:=hrel;by_cases ud:k<s.size
  .by_cases hd:s[k]=48
   .have h2:((s[k].toNat:Int) !=48)=false:=(by simp[hd]);have hts:=Fe (c:=s[k]) b (by simp[hd]);exact sk
   .have d:s.data.toList.all (· == 48)=false:=Qa s k ud (by simpa using hd);have h2:((s[k].toNat:Int) !=48)=true:=by
     rw[bne_iff_ne];intro h;exact hd (Ul.1 (by show s[k].toNat=48;omega))
    go_wp2;all_goals (go_ret;exact⟨rfl,rfl⟩)
  .have a:k=s.size:=(by omega);subst a;rw[Vu]at b;exact Jf
def idxOf_hit(s:ByteArray)(c:UInt8)(k:Nat)(b:k<s.size)(hd:s[k]=c)(h:k<=s.data.toList.idxOf c):s.data.toList.idxOf c=k:=by
 refine Nat.le_antisymm (Nat.le_of_not_lt λa=>?_) h;have:=List.not_of_lt_findIdx (p:=(· == c)) (xs:=s.data.toList) (i:=k) a;rw[getElem_toList s k b,hd]at this;simp at this
def idxOf_miss(s:ByteArray)(c:UInt8)(k:Nat)(hk:k<s.size)(hd:s[k]≠c)(h:k<=s.data.toList.idxOf c):k+1<=s.data.toList.idxOf c:=by
 refine Nat.succ_le_of_lt (Nat.lt_of_le_of_ne h λhe=>?_);have hl:s.data.toList.findIdx (· == c)<s.data.toList.length:=by rw[yz];show s.data.toList.idxOf c<s.size;omega
 have:=List.findIdx_getElem (xs:=s.data.toList) (p:=(· == c)) (w:=hl);apply hd;have e2:s.data.toList[s.data.toList.findIdx (· == c)]'hl=s[k]:=by
  rw[<-getElem_toList s k hk];congr 1;exact he.symm
 rw[e2]at this;simpa using this
def Az(s:ByteArray)(c:UInt8)(w:z7)(hs:s.size<=2000000000) :
  zE prog 78 #[.string s,.int .u8 c.toNat] w λe w' =>
   e = .returned (.tuple #[.string ⟨(s.data.toList.take (s.data.toList.idxOf c)).toArray⟩,.string ⟨(s.data.toList.drop (s.data.toList.idxOf c+1)).toArray⟩,.bool (decide (s.data.toList.idxOf c<s.size))])/\∃n,w'=w.drewN n:=by
 go_enter func78,ntmps78;go_wp2;go_loop [7] (λi=>∃k:Nat,k<=s.size/\i = .int .i64 k/\k<=s.data.toList.idxOf c) (λi=>s.size - (intOf i).toNat)
 case atStart=>exact⟨0,J,rfl,J⟩
 case round =>
  obtain⟨k,g,rfl,f⟩:=hrel;by_cases b:k<s.size
  .by_cases hd:s[k]=c
   .have h2:((s[k].toNat:Int)==(c.toNat:Int))=true:=(by rw[vZ,hd];simp);have hi:s.data.toList.idxOf c=k:=idxOf_hit s c k b hd f;have hr:(k+1:Nat)<=s.size:=b;have Hi:=Z hi;clear hi;go_wp2_with fail;go_quiet (fail)
    go_wp2;go_ret3
    rw[Hi.o,kT,ub];exact⟨by simp[b],nq,rfl⟩
   .have h2:((s[k].toNat:Int)==(c.toNat:Int))=false:=(by rw[vZ];simp[hd]);have hi:k+1<=s.data.toList.idxOf c:=idxOf_miss s c k b hd f;go_wp2;go_round
    case rel=>exact⟨k+1,J,xi,hi⟩
    case measure=>simp[intOf];omega
  .have d:k=s.size:=(by omega);subst d;have hi:s.data.toList.idxOf c=s.size:=(by have:=ypy (a:=c) (l:=s.data.toList);simp only[yz]at this;omega);have Hi:=Z hi;clear hi;exact sV
def VK(n:Nat):∀(w:z7),n<=9223372036854775807 ->
  zE prog 111 #[n] w λe w'=>e = .returned (.string ⟨(xv n).toArray⟩)/\w=w':=by
 induction n using Nat.strongRecOn with
 |_ n c =>
  intro w hn;by_cases a:n<10
  .have hd:=Vq (n % 10) J;have hx:xv n=[Yd (n % 10)]:=(by rw[qx a,uC a]);have b:=Z hx;clear hx c;go_enter func111,ntmps111;go_wp2;go_ret;rw[b.o];exact⟨dE (congrArg bJ hd),rfl⟩
  .have hd:=Vq (n % 10) J;have hx:=dR a;have b:=Z hx;have f:=ZS (n / 10);have d:=Z (c (n / 10) J w J);clear hx c;go_enter func111,ntmps111;go_wp2_with fail;rw[show((n:Int) / 10)=((n / 10:Nat):Int)from J];refine d.o.mono ?_;rintro e w' ⟨rfl,rfl⟩;go_wp2;go_ret;rw[b.o];exact⟨dE (congrArg bJ (Kh _ _)),rfl⟩
def se(s:ByteArray)(h:0<s.size):s.data.toList.headD 0=s[0]:=by
 rw[<-getElem_toList s 0 h,Mm,PR,zw Y3];rfl
variable{k:Nat}{w:z7}
def qG:bH prog 180 5 (.int .u8 0) 1 1 :=
 ⟨underlying180,info_parts yy,rfl,zj,zj⟩
def jO(l:List UInt8):List zx:=l.map λc => .int .u8 ((c.toNat:Int) - 48)
def NH(d:Int)(w:z7):zE prog 196 #[.int .u8 d] w λe w'=>e = .returned (.bool (d !=0))/\w=w':=by
 go_enter func196,ntmps196;exact Jf
def zr7{l:List Int}(h:k<l.length)(hn:(l[k] !=0)=true):l.any (· != 0)=true:=Mn.2 ⟨l[k],xd h,hn⟩
def si{l:List Int}(h:k<l.length)(a:(l.take k).any (· != 0)=false)(hn:(l[k] !=0)=false):(l.take (k+1)).any (· != 0)=false:=by
 rw[zr h,List.any_append,a];simpa using hn
def yc(w:z7)(a:Option yi)(l:List Int):Prop:=∀j (h:j<l.length),∃b,a=some b/\w.cell? (b.add j)=some (.int .u8 l[j])
def yc.alloc{a:Option yi}{l:List Int}(h:yc w a l)(o:Obj):yc (w.alloc o) a l:=λj c=>by
 obtain⟨b,hb,hc⟩:=h j c;refine⟨b,hb,?_⟩;exact Sx
def NI(l:List Int)(a:Option yi)(c:Nat)(w:z7)(q:l.length<=1000000)(hc:yc w a l) :
  zE prog 206 #[.slice a l.length c,.func (.func 196) #[] #[]] w λe w'=>(∃n:Int,e = .returned n/\decide (0<=n)=l.any (· != 0))/\w=w':=by
 go_enter func206,ntmps206;go_wp2;go_loop [8] (λi=>∃k:Nat,k<=l.length/\i = .int .i64 k/\(l.take k).any (· != 0)=false) (λi=>l.length - (intOf i).toNat)
 case atStart=>exact⟨0,J,rfl,zY⟩
 case round =>
  obtain⟨k,p,rfl,f⟩:=hrel;have g:=Z f;clear f;by_cases d:k<l.length
  .obtain⟨b,rfl,h⟩:=hc k d;go_wp2_with fail;refine(NH _ _).mono ?_;rintro e w' ⟨rfl,rfl⟩;by_cases hn:(l[k] !=0)=true
   .have HF:=Z (zr7 d hn);go_wp2;go_ret;exact⟨⟨_,rfl,by rw[HF.o];simp⟩,rfl⟩
   .have m:(l[k] !=0)=false:=(by simpa using hn);have HF:=Z (si d g.o m);clear hn;exact S0
  .have j:k=l.length:=(by omega);subst j;have f:=g.o;rw[kp]at f;have HF:=Z f;clear f g;go_wp2;go_ret;exact⟨⟨_,rfl,uZ⟩,rfl⟩
def DR(l:List Int)(a:Option yi)(c:Nat)(w:z7)(b:l.length<=1000000)(hc:yc w a l) :
  zE prog 195 #[.slice a l.length c,.func (.func 196) #[] #[]] w λe w'=>e = .returned (.bool (l.any (· != 0)))/\w=w':=by
 go_enter func195,ntmps195;go_wp2_with fail;refine(NI l a c w b hc).mono ?_;rintro e w' ⟨⟨n,rfl,hn⟩,rfl⟩;go_wp2;go_ret;exact⟨rfl,rfl⟩
def K4(c:UInt8):∀l:List UInt8,Lib.indexByte l c=if l.idxOf c<l.length then ((l.idxOf c:Nat):Int)else -1
 |[]=>rfl
 |b::l=>by
  have d:=K4 c l;rw[Lib.indexByte,d,List.idxOf_cons];by_cases h:b==c
  .simp[h]
  .simp only[h,cond_false,zm];by_cases h2:l.idxOf c<l.length
   .rw[zl h2,zl (show l.idxOf c+1<l.length+1 by omega)];have a:(((l.idxOf c:Nat):Int)==-1)=false:=(by rw[beq_eq_false_iff_ne];omega);rw[a];simp
   .rw[zL h2,zL (show ¬(l.idxOf c+1<l.length+1)by omega)];simp
def NL(s:ByteArray)(c:UInt8)(w:z7)(hs:s.size<=1000000) :
  zE prog 144 #[.string s,.string ⟨#[c]⟩] w λe w' =>
   e = .returned (.tuple #[.string ⟨(s.data.toList.take (s.data.toList.idxOf c)).toArray⟩,.string ⟨(s.data.toList.drop (s.data.toList.idxOf c+1)).toArray⟩,.bool (decide (s.data.toList.idxOf c<s.size))])/\∃n,w'=w.drewN n:=by
 have hx:=K4 c s.data.toList;rw[yz]at hx;have g:=Z hx;clear hx;go_enter func144,ntmps144;go_wp2_with fail;refine(Tryz.stringslite_Index_one s c _).mono ?_;rw[g.o];rintro e w' ⟨rfl,rfl⟩;by_cases b:s.data.toList.idxOf c<s.size
 .rw[zl b];generalize d:s.data.toList.idxOf c=k at b;have f:=Z d;clear d;have hr:(k+1:Nat)<=s.size:=b;go_wp2_with fail;go_quiet (fail)
  go_wp2;go_ret3
  rw[kT,ub,f.o];exact⟨by simp[b],nq,rfl⟩
 .rw[zL b];have hi:s.data.toList.idxOf c=s.size:=by have:=ypy (a:=c) (l:=s.data.toList);simp only[yz]at this;omega
  have Hi:=Z hi;clear hi b;exact sV

variable{l:List UInt8}{xs:List zx}{B cap n:Nat}{e:uP}{v:zx}{w':z7}
def Qw{base d size:Nat}(h:w.ownsRow base e size v n xs)(hb:d<=base):w.ownsRow d e size v n xs :=
 ⟨h.1,h.2.imp id λ⟨g,cap,cur,a,b,c⟩=>⟨g,cap,cur,a,zZ hb b,c⟩⟩
def vJ(l:List UInt8):List Int:=l.map λc=>(c.toNat:Int) - 48
def zero_eq(l:List UInt8):(!(vJ l).any (· != 0))=l.all (· == 48):=by
 induction l with
 |nil=>rfl
 |cons c l b =>
  have h:(((c.toNat:Int) - 48) !=0) = !(c==48):=by
   have h2:=vZ c 48;have d:((48:UInt8).toNat:Int)=48:=rfl;rw[d]at h2;by_cases a:c=48
   .subst a;rfl
   .have e:(c==48)=false:=(by simpa using a);rw[e,yp9,bne_iff_ne];intro g;have f:((c.toNat:Int)==48)=true:=(by rw[beq_iff_eq];omega);rw[f]at h2;simp[a]at h2
  simp only[vJ,ve,yk8,kP]at b|-;rw[h,<-b];simp
def GG{ad:Option yi}(h:w.ownsRow B 5 1 (.slice ad n cap) n (jO l))(hn:n=l.length):yc w ad (vJ l):=by
 subst hn;intro j c;have a:j<l.length:=by simpa[vJ]using c
 obtain⟨g,b,hv,_,_,hc⟩:=vK h J;cases hv;refine⟨⟨g,0,none⟩,rfl,?_⟩;have:=hc j J;rw[vA,this];simp[jO,vJ,a]
def yc.set{a:Option yi}{l:List Int}(h:yc w a l){p:yi}(hp:∀b,a=some b->b.block≠p.block)(u:zx):yc (w.setCell p u) a l:=λj c=>by
 obtain⟨b,hb,hc⟩:=h j c;refine⟨b,hb,?_⟩;rw[<-hc];exact yZ (zh _ _ _ _ (by rw[addr_add];exact hp b hb))
def gZ{base size:Nat}(h:w.ownsRow base e size v n xs){p:yi}(hp:some p.block≠v.ownBlock)(u:zx):(w.setCell p u).ownsRow base e size v n xs :=
 h.kept (row:=some p.block) ⟨rfl,rfl,rfl,zY,λi _ a=>zh _ _ _ _ (λhe=>a (by rw[he]))⟩ (.inr (λhe=>hp he.symm))
def bn{base size:Nat}(h:w.ownsRow base e size v n xs)(hb:zJ w w'):w'.ownsRow base e size v n xs :=
 h.kept (row:=none) ⟨hb.os,hb.tape,hb.output,hb.size,λi hi _=>hb.block i hi⟩ (by cases v.ownBlock<;>simp)
def ao(g o j:Nat):(⟨g,o,none⟩:yi).add j=⟨g,o+j,none⟩:=by
 unfold xM;split
 .simp_all
 .simp
def yc.take{a:Option yi}{l:List Int}(h:yc w a l)(m:Nat):yc w a (l.take m):=λj hj=>by
 have c:j<l.length:=Jb;obtain⟨b,hb,hc⟩:=h j c;exact⟨b,hb,by simpa using hc⟩
def yc.drop{g o:Nat}{l:List Int}(h:yc w (some ⟨g,o,none⟩) l)(k:Nat):yc w (some ⟨g,o+k,none⟩) (l.drop k):=λj hj=>by
 have a:k+j<l.length:=Jb;obtain⟨b,hb,hc⟩:=h (k+j) a;cases hb;refine⟨_,rfl,?_⟩;rw[ao]at hc|-;simpa[jo]using hc
def xU(c:UInt8):Nat:=if 97<=c.toNat/\c.toNat<=122 then 1 else if 48<=c.toNat/\c.toNat<=57 then 2 else if c.toNat=32 then 3 else 0
def sr(c:UInt8)(w:z7):zE prog 106 #[.int .u8 c.toNat] w λe w'=>e = .returned (.int .i64 (xU c))/\w=w':=by
 have b:=c.toNat_lt;obtain⟨n,hn⟩:∃n,n=c.toNat:=⟨_,rfl⟩;have d:=Z hn;rw[<-hn]at b|-;by_cases h1:97<=n/\n<=122
 .have hf:xU c=1:=by unfold xU;rw[<-hn,zl h1]
  have HF:=Z hf;have a1:decide ((97:Int)<=(n:Int))=true:=zV;have a2:decide ((n:Int)<=(122:Int))=true:=zV;exact Ia
 .by_cases h2:48<=n/\n<=57
  .have hf:xU c=2:=(by unfold xU;rw[<-hn,zL h1,zl h2]);have HF:=Z hf;exact Ia
  .by_cases a:n=32
   .have hf:xU c=3:=(by unfold xU;rw[<-hn,zL h1,zL h2,zl a]);have HF:=Z hf;subst a;exact Ia
   .have hf:xU c=0:=(by unfold xU;rw[<-hn,zL h1,zL h2,zL a]);have HF:=Z hf;have a3:((n:Int)==32)=false:=zV;exact Ia
def vW(l:List UInt8):Bool:=qU l && (decide (l.length<=9) && (decide (l.length=1) ||decide (l.headD 0≠48)))
def xG(l:List UInt8):Nat:=l.foldl (λv c=>10*v+(c.toNat - 48)) 0
def JR(l:List UInt8)(c:UInt8):xG (l++[c])=10*xG l+(c.toNat - 48):=by simp[xG]
def Uz:∀(l:List UInt8),l.all yn=true->xG l<10 ^ l.length:=by
 intro l;induction hn:l.length generalizing l with
 |zero=>intro _;have:=zF hn;subst this;simp[xG]
 |succ n d =>
  intro h;have a:l≠[]:=λq=>by rw[q]at hn;cases hn
  obtain⟨t,c,rfl⟩:∃t c,l=t++[c]:=⟨l.dropLast,l.getLast a,Rx⟩;rw[ie,zQ]at h;have hc:yn c=true:=by simpa using h.2
  have hd:=(xe c).1 hc;have b:t.length=n:=by simpa using hn
  have:=d t b h.1;rw[JR,Nat.pow_succ];omega
def yM(w:z7)(v:zx)(ws:List (List UInt8)):Prop:=∃a cap,v = .slice a ws.length cap/\ws.length<=cap/\cap<=maxLen/\(a=none->cap=0)/\∀j (h:j<ws.length),∃b,a=some b/\w.cell? (b.add j)=some (zv ws[j])
def yM.below{ws:List (List UInt8)}(h:yM w v ws)(hb:zJ w w'):yM w' v ws:=by
 obtain⟨a,cap,hv,d,hm,c,hc⟩:=h;refine⟨a,cap,hv,d,hm,c,λj hj=>?_⟩;exact nR
def yM.bY{base:Nat}{ws:List (List UInt8)}(h:w.ownsRow base e 1 v n (ws.map zv)):yM w v ws:=by
 have a:ws.length=n:=by have:=h.1;simpa using this
 rcases h.2 with⟨hv,b⟩|⟨g,cap,cur,hv,_,d,h1,h2,_,f⟩
 .subst b;have:ws=[]:=zF a;subst this;exact⟨none,0,hv,X _,zG _,λ_=>rfl,λj h=>absurd h (uf j)⟩
 .refine⟨some ⟨g,0,none⟩,cap,by rw[hv,a],J,h2,(λh=>xp),λj c=>⟨_,rfl,?_⟩⟩;subst hv;rw[vA,h.cellAt j J];simp[c]
def zg6{base:Nat}{g:Nat}(h:w.ownsRow base e 1 (.slice (g,0) n cap) n xs)(j:Nat)(i:j<n)(u:zx) :
  (w.setCell (g,j) u).ownsRow base e 1 (.slice (g,0) n cap) n (xs.set j u):=by
 have hx:xs.length=n:=by have:=h.1;simpa using this
 refine⟨by simp[hx],?_⟩;rcases h.2 with⟨hv,_⟩|⟨g2,a,cur,hv,c,d,h1,h2,b,f⟩
 .cases hv
 .simp only[F4,vw,Addr.mk.injEq]at hv;obtain⟨⟨rfl,-⟩,-,rfl⟩:=hv;refine .inr ⟨g,cap,cur.setIfInBounds j u,rfl,c,?_,h1,h2,by simpa using b,?_⟩
  .simp[xW,Zt,d]
  .rw[Array.toList_setIfInBounds,<-f,List.take_set]
variable{s:ByteArray}
def zg7(s:ByteArray)(a:0<s.size):vW s.data.toList=(qU s.data.toList && (decide (s.size<=9) && (decide (s.size=1) ||decide (s[0]≠48)))):=by
 unfold vW;rw[yz];have:s.data.toList.headD 0=s[0]:=by
  have b:0<s.data.toList.length:=by simpa using a
  rw[<-getElem_toList s 0 a,Mm,PR,zw b];rfl
 rw[this]
def vH(s:ByteArray)(w:z7)(hs:s.size<=1000000):zE prog 108 #[.string s] w λe w'=>e = .returned (.tuple #[.string s,.bool (vW s.data.toList)])/\∃n,w'=w.drewN n:=by
 cases hn:qU s.data.toList
 .have hf:vW s.data.toList=false:=by unfold vW;rw[hn];rfl
  have HF:=Z hf;have HN:=Z hn;clear hf hn;exact IW
 .have g:0<s.size:=by
   simp only[qU,zQ]at hn;have:=hn.2;rw[isEmpty_toList]at this;rcases Nat.eq_zero_or_pos s.size with h|h
   .rw[h]at this;cases this
   .exact h
  have hf:=zg7 s g;rw[hn]at hf;by_cases d:s.size<=9
  .have f:decide ((s.size:Int)<=9)=true:=(by simp;omega);by_cases h1:s.size=1
   .have a:vW s.data.toList=true:=(by rw[hf];simp[d,h1]);have HF:=Z a;have HN:=Z hn;have c:((s.size:Int)==1)=true:=zV;clear hf a hn h1;exact IW
   .have c:((s.size:Int)==1)=false:=(by simp;omega);have b:((s[0].toNat:Int) !=48)=decide (s[0]≠48):=by
     have:=vZ s[0] 48;rw[bne,show((48:Int))=(((48:UInt8).toNat:Nat):Int)from rfl,this];simp
    have a:vW s.data.toList=decide (s[0]≠48):=(by rw[hf];simp[d,h1]);rw[<-b]at a;have HF:=Z a;have HN:=Z hn;clear hf a hn h1 b;exact IW
  .have f:decide ((s.size:Int)<=9)=false:=(by simp;omega);have a:vW s.data.toList=false:=(by rw[hf];simp[d]);have HF:=Z a;have HN:=Z hn;clear hf a hn;exact IW
def DS(h:s.data.toList.all yn=true)(k:Nat)(a:k<s.size):yn s[k]=true:=by
 rw[<-getElem_toList s k a];exact Yl.1 h _ (xd _)
def LK(h:l.all yn=true)(k:Nat):(l.take k).all yn=true:=by
 rw[Yl]at h|-;exactλc hc=>h c (List.mem_of_mem_take hc)
def SZ(l:List UInt8)(k:Nat)(h:l.all yn=true)(a:l.length<=9):xG (l.take k)<1000000000:=by
 have h1:=Uz (l.take k) (LK h k);have h2:(l.take k).length<=9:=zV;have:10 ^ (l.take k).length<=10 ^ 9:=zux zj h2;omega
def ar(s:ByteArray)(w:z7)(hs:s.size<=9)(hd:s.data.toList.all yn=true):zE prog 109 #[.string s] w λe w'=>e = .returned (.int .i64 (xG s.data.toList))/\w=w':=by
 have d:=Z (λk=>SZ s.data.toList k hd (by rw[yz];exact hs));go_enter func109,ntmps109;go_wp2;go_loop [3,4] (λv i=>∃k:Nat,k<=s.size/\i = .int .i64 k/\v = .int .i64 (xG (s.data.toList.take k))) (λ_ i=>s.size - (intOf i).toNat)
 case atStart=>exact⟨0,J,rfl,rfl⟩
 case round =>
  obtain⟨k,f,rfl,rfl⟩:=hrel;have hv:=d.o k;by_cases a:k<s.size
  .have hc:=(xe _).1 (DS hd k a);have b:xG (s.data.toList.take (k+1))=10*xG (s.data.toList.take k)+(s[k].toNat - 48):=(by rw[Vh s k a,JR]);have c:=Z b;clear b;obtain⟨x,hx⟩:∃x,x=xG (s.data.toList.take k):=⟨_,rfl⟩;rw[<-hx]at hv c|-;clear hx;go_wp2;go_round
   case rel=>exact⟨k+1,J,xi,by rw[c.o];go_num⟩
   case measure=>simp[intOf];omega
  .exact oY
variable{v':zx}{w1:z7}
def GF(out:List (List UInt8))(c:UInt8):List (List UInt8):=out.set (out.length - 1) (out.getD (out.length - 1) []++[c])
def xL:List UInt8->List (List UInt8)->Nat->Option (List (List UInt8))
 |[],out,_=>some out
 |c::t,out,last =>
  if xU c=3 then xL t out 3
  else if 0<xU c/\xU c=last then xL t (GF out c) (xU c)
  else if 0<xU c\/c=61\/c=44\/c=37 then xL t (out++[[c]]) (xU c)
  else match t with
   |[]=>none
   |d::t2=>if (c=33/\d=61)\/(c=46/\d=46)then xL t2 (out++[[c,d]]) 0 else none
def Y6(l:List UInt8):Option (List (List UInt8)):=xL (l.take (l.idxOf 64)) [] 3
def K5(c:UInt8):xU c<=3:=by
 unfold xU;split
 .decide
 split
 .decide
 split<;>decide
def ah(r:Option (List (List UInt8)))(w:z7)(e:gG)(w':z7):Prop :=
 (match r with|some ws=>∃v,e = .returned (.tuple #[v,.bool true])/\w'.ownsRow (w:Nat) 9 1 v ws.length (ws.map zv)|none=>e = .returned (.tuple #[.slice none 0 0,.bool false]))/\zJ w w'
def K6(t:ByteArray)(r:Option (List (List UInt8)))(w:z7)(v lst i:zx)(wr:z7):Prop :=
 ∃(k last:Nat) (acc:List (List UInt8)),k<=t.size/\i = .int .i64 k/\lst = .int .i64 last/\wr.ownsRow (w:Nat) 9 1 v acc.length (acc.map zv)/\zJ w wr /\
  acc.length<=k/\(∀x∈acc,x.length<=k)/\last<=3/\(last=1\/last=2->acc≠[])/\xL (t.data.toList.drop k) acc last=r
def drop_cons(t:ByteArray)(k:Nat)(h:k<t.size):t.data.toList.drop k=t[k]::t.data.toList.drop (k+1):=by
 rw[yH Y3,getElem_toList t k h]
def go_blank{c:UInt8}{t out last}(h:xU c=3):xL (c::t) out last=xL t out 3:=by rw[xL.eq_def];dsimp only;rw[zl h]
def go_join{c:UInt8}{t out last}(a:xU c≠3)(h:0<xU c/\xU c=last):xL (c::t) out last=xL t (GF out c) (xU c):=by rw[xL.eq_def];dsimp only;rw[zL a,zl h]
def go_one{c:UInt8}{t out last}(a:xU c≠3)(h:¬(0<xU c/\xU c=last))(h1:0<xU c\/c=61\/c=44\/c=37):xL (c::t) out last=xL t (out++[[c]]) (xU c):=by
 rw[xL.eq_def];dsimp only;rw[zL a,zL h,zl h1]
def go_two{c d:UInt8}{t out last}(a:xU c=0)(h1:¬(c=61\/c=44\/c=37))(h2:(c=33/\d=61)\/(c=46/\d=46)):xL (c::d::t) out last=xL t (out++[[c,d]]) 0:=by
 have q0:¬(0<xU c\/c=61\/c=44\/c=37):=λq=>q.elim J h1
 rw[xL.eq_def];dsimp only;rw[zL J,zL J,zL q0,zl h2]
def go_bad{c d:UInt8}{t out last}(a:xU c=0)(h1:¬(c=61\/c=44\/c=37))(h2:¬((c=33/\d=61)\/(c=46/\d=46))):xL (c::d::t) out last=none:=by
 have q0:¬(0<xU c\/c=61\/c=44\/c=37):=λq=>q.elim J h1
 rw[xL.eq_def];dsimp only;rw[zL J,zL J,zL q0,zL h2]
def go_bad1{c:UInt8}{out last}(a:xU c=0)(h1:¬(c=61\/c=44\/c=37)):xL [c] out last=none:=by
 have q0:¬(0<xU c\/c=61\/c=44\/c=37):=λq=>q.elim J h1
 rw[xL.eq_def];dsimp only;rw[zL J,zL J,zL q0]
def Ay(t:ByteArray)(k:Nat)(h:k<t.size):t.extract k (k+1)=⟨[t[k]].toArray⟩:=by
 rw[extract_eq,drop_cons t k h,dD];rfl
def FO(t:ByteArray)(k:Nat)(h:k+1<t.size):t.extract k (k+2)=⟨[t[k],t[k+1]].toArray⟩:=by
 rw[extract_eq,drop_cons t k J,drop_cons t (k+1) h,dD];rfl
def sw{t:ByteArray}{r:Option (List (List UInt8))}{wr:z7}{c m g:Nat}{acc:List (List UInt8)}{h:List UInt8}(l:k<t.size)(b:xU t[k]=c)(n:¬c=3)(v:¬c=0)(d:c<=3)
  (hm:acc.length=m+1) (s:m+1<=k) (e:h=acc.getD m []) (hx:∀x∈acc,x.length<=k) (u:wr.ownsRow (w:Nat) 9 1 (.slice (g,0) acc.length cap) acc.length (acc.map zv)) (i:(w:Nat)<=g)
  (hb:zJ w wr) (o:xL (t[k]::t.data.toList.drop (k+1)) acc c=r) :
  K6 t r w (.slice (g,0) (m+1) cap) c (.int .i64 ((k:Int)+1)) (wr.setCell (g,m) (.string (⟨h.toArray⟩++t.extract k (k+1)))).drew:=by
 have j:GF acc t[k]=acc.set m (h++[t[k]]):=by
  unfold GF;rw[hm,Vs,<-e]
 have a:(GF acc t[k]).length=m+1:=by rw[j,List.length_set,hm]
 refine⟨k+1,c,GF acc t[k],J,xi,rfl,?_,?_,J,?_,d,λ_ q=>?_,?_⟩
 .rw[a,j,List.map_set,Ay t k l,Kh];have:=zg6 u m J (zv (h++[t[k]]));rw[hm]at this;exact this
 .exact(hb.setCell (p:=(g,m)) i _).drew
 .intro x f;rw[j]at f;rcases List.mem_or_eq_of_mem_set f with q|q
  .have:=hx x q;omega
  .rw[q,e];have:(acc.getD m []).length<=k:=by
    refine hx _ ?_;exact nO
   simp only[zI,zm,ur];omega
 .rw[q]at a;cases a
 .rw[<-o,go_join (by rw[b];exact n) ⟨by rw[b];omega,b⟩,b]
def FR{t:ByteArray}{r:Option (List (List UInt8))}{b last:Nat}{acc:List (List UInt8)}(d:k<t.size)(a:xU t[k]=b)(f:¬b=3)(hn:¬(0<b/\b=last))(c:b<=3)
  (h1:0<b\/t[k]=61\/t[k]=44\/t[k]=37) (h:acc.length<=k) (hx:∀x∈acc,x.length<=k) (e:w1.ownsRow (w:Nat) 9 1 v' (acc.length+1) (acc.map zv++[.string (t.extract k (k+1))]))
  (hb:zJ w w1) (g:xL (t[k]::t.data.toList.drop (k+1)) acc last=r) :
  K6 t r w v' b (.int .i64 ((k:Int)+1)) w1:=by
 rw[Ay t k d]at e;refine⟨k+1,b,acc++[[t[k]]],J,xi,rfl,by simpa using e,hb,zV,?_,c,λ_ q=>by simp at q,?_⟩
 .exact nw
 .rw[<-g,go_one (by rw[a];exact f) (by rw[a];exact hn) (by rw[a];exact h1),a]
def Ax{t:ByteArray}{r:Option (List (List UInt8))}{last:Nat}{acc:List (List UInt8)}(a:k+1<t.size)(b:xU t[k]=0)
  (h1:¬(t[k]=61\/t[k]=44\/t[k]=37)) (h2:(t[k]=33/\t[k+1]=61)\/(t[k]=46/\t[k+1]=46)) (e:acc.length<=k) (hx:∀x∈acc,x.length<=k) (c:w1.ownsRow (w:Nat) 9 1 v' (acc.length+1) (acc.map zv++[.string (t.extract k (k+2))]))
  (hb:zJ w w1) (d:xL (t[k]::t.data.toList.drop (k+1)) acc last=r) :
  K6 t r w v' (.int .i64 (0:Nat)) (.int .i64 ((k:Int)+1+1)) w1:=by
 rw[FO t k a]at c;refine⟨k+2,0,acc++[[t[k],t[k+1]]],J,xi,rfl,by simpa using c,hb,zV,?_,zj,λq=>J,?_⟩
 .exact nw
 .rw[<-d,drop_cons t (k+1) a,go_two b h1 h2]
def EF(s:ByteArray)(w:z7)(hs:s.size<=1000000):zE prog 75 #[.string s] w (ah (Y6 s.data.toList) w):=by
 obtain⟨r,hr⟩:=zo (Y6 s.data.toList);rw[hr];obtain⟨t,N⟩:∃t:ByteArray,t=⟨(s.data.toList.take (s.data.toList.idxOf 64)).toArray⟩:=⟨_,rfl⟩;have hts:t.size<=1000000:=by rw[N,size_mk];simp;omega
 have L:xL t.data.toList [] 3=r:=by rw[<-hr,N,toList_mk];rfl
 have HT:=Z N;have HR:=Z L;clear N hr L;go_enter func75,ntmps75;go_wp2_with fail;refine(Az s 64 _ J).mono ?_;rw[<-HT.o];rintro e w1 ⟨rfl,nd,rfl⟩;go_wp2_with fail;go_loopw [4,5,6] (λv lst i wr=>K6 t r w v lst i wr) (λ_ _ i _=>t.size - (intOf i).toNat)
 case atStart=>exact⟨0,3,[],J,rfl,rfl,yr _ _ _ _,below_drewN (z8 _ _) nd,zY,zY,zj,zY,by rw[qH];exact HR.o⟩
 case round =>
  obtain⟨k,last,acc,hk,rfl,rfl,c,hb,D,H,xn1,I,f⟩:=hrel;by_cases d:k<t.size
  .rw[drop_cons t k d]at f;have HG:=Z f;have y:=Z H;have T:=Z I;clear f H I;have B:=K5 t[k];obtain⟨A,C⟩:∃n,xU t[k]=n:=⟨_,rfl⟩;have HK:=Z C;rw[C]at B;clear C;go_wp2_with fail;refine(sr t[k] _).mono ?_;rw[HK.o];rintro e w2 ⟨rfl,rfl⟩;by_cases k3:A=3
   .subst k3;go_wp2;go_roundw
    case rel=>exact⟨k+1,3,acc,J,by go_num,rfl,c,hb,J,λx hx=>by have:=y.o x hx;omega,J,λh=>J,by rw[<-HG.o,go_blank HK.o]⟩
    case measure=>simp[intOf];omega
   .have k3':((A:Int)==3)=false:=(by simp;omega);by_cases k0:A=0
    .subst k0;have l:=Z c;have kz:decide ((0:Int)<((0:Nat):Int))=false:=(by decide);by_cases F:t[k]=61
     .have q0:((t[k].toNat:Int)==61)=true:=(by rw[F];rfl);have E0:=Z F;clear F;go_wp2_with (at_builtin;refine vY uN rfl _ _ rfl (w:Nat) _ _ _ rfl (c.alloc _) ⟨(wr:Nat),0,none⟩ 1 1 [.string (t.extract k (k+1))] rfl rfl Qx jr J j7 ?_);intro v' w1 b a;go_wp2;go_roundw
      case rel=>exact FR d HK.o zj (λq=>absurd q.1 zj) zj (.inr (.inl E0.o)) D y.o b ((hb.alloc hb.size _).grown a j7 (λq j=>(l.o.lt q j).1)) HG.o
      case measure=>simp[intOf];omega
     have q0:((t[k].toNat:Int)==61)=false:=(by rw[show((61:Int))=(((61:UInt8).toNat:Nat):Int)from rfl,vZ];simpa using F);by_cases e1:t[k]=44
     .have q1:((t[k].toNat:Int)==44)=true:=(by rw[e1];rfl);have E1:=Z e1;clear e1;go_wp2_with (at_builtin;refine vY uN rfl _ _ rfl (w:Nat) _ _ _ rfl (c.alloc _) ⟨(wr:Nat),0,none⟩ 1 1 [.string (t.extract k (k+1))] rfl rfl Qx jr J j7 ?_);intro v' w1 b a;go_wp2;go_roundw
      case rel=>exact FR d HK.o zj (λq=>absurd q.1 zj) zj (.inr (.inr (.inl E1.o))) D y.o b ((hb.alloc hb.size _).grown a j7 (λq j=>(l.o.lt q j).1)) HG.o
      case measure=>simp[intOf];omega
     have q1:((t[k].toNat:Int)==44)=false:=(by rw[show((44:Int))=(((44:UInt8).toNat:Nat):Int)from rfl,vZ];simpa using e1);by_cases e2:t[k]=37
     .have q2:((t[k].toNat:Int)==37)=true:=(by rw[e2];rfl);have E2:=Z e2;clear e2;go_wp2_with (at_builtin;refine vY uN rfl _ _ rfl (w:Nat) _ _ _ rfl (c.alloc _) ⟨(wr:Nat),0,none⟩ 1 1 [.string (t.extract k (k+1))] rfl rfl Qx jr J j7 ?_);intro v' w1 b a;go_wp2;go_roundw
      case rel=>exact FR d HK.o zj (λq=>absurd q.1 zj) zj (.inr (.inr (.inr E2.o))) D y.o b ((hb.alloc hb.size _).grown a j7 (λq j=>(l.o.lt q j).1)) HG.o
      case measure=>simp[intOf];omega
     have q2:((t[k].toNat:Int)==37)=false:=(by rw[show((37:Int))=(((37:UInt8).toNat:Nat):Int)from rfl,vZ];simpa using e2);have K:¬(t[k]=61\/t[k]=44\/t[k]=37):=(by rintro(q|q|q)<;>contradiction);have MO:=Z K;clear F e1 e2 K;by_cases Fv:k+1<t.size
     .by_cases p:t[k]=33/\t[k+1]=61
      .have x2:t.extract k (k+2)=⟨#[33,61]⟩:=(by rw[FO t k Fv,p.1,p.2]);have P:=Z p;have U:=Z x2;clear p;go_wp2_with (at_builtin;refine vY uN rfl _ _ rfl (w:Nat) _ _ _ rfl (c.alloc _) ⟨(wr:Nat),0,none⟩ 1 1 [.string ⟨#[33,61]⟩] rfl rfl Qx jr J j7 ?_);intro v' w1 b a;go_wp2;go_roundw
       case rel=>exact Ax Fv HK.o MO.o (.inl P.o) D y.o (by rw[U.o];exact b) ((hb.alloc hb.size _).grown a j7 (λq j=>(l.o.lt q j).1)) HG.o
       case measure=>simp[intOf];omega
      by_cases p2:t[k]=46/\t[k+1]=46
      .have x2:t.extract k (k+2)=⟨#[46,46]⟩:=(by rw[FO t k Fv,p2.1,p2.2]);have P:=Z p2;have U:=Z x2;clear p2;go_wp2_with (at_builtin;refine vY uN rfl _ _ rfl (w:Nat) _ _ _ rfl (c.alloc _) ⟨(wr:Nat),0,none⟩ 1 1 [.string ⟨#[46,46]⟩] rfl rfl Qx jr J j7 ?_);intro v' w1 b a;go_wp2;go_roundw
       case rel=>exact Ax Fv HK.o MO.o (.inr P.o) D y.o (by rw[U.o];exact b) ((hb.alloc hb.size _).grown a j7 (λq j=>(l.o.lt q j).1)) HG.o
       case measure=>simp[intOf];omega
      have HP:=Z p;have aK:=Z p2;have x2:=FO t k Fv;by_cases M:t[k]=33
      .have s2:¬t[k+1]=61:=λq=>p ⟨M,q⟩
       have s3:(t[k+1]==61)=false:=(by simpa using s2);rw[M]at x2;clear p p2 M;exact mD
      by_cases Q:t[k]=46
      .have s2:¬t[k+1]=46:=λq=>p2 ⟨Q,q⟩
       have s3:(t[k+1]==46)=false:=(by simpa using s2);rw[Q]at x2;clear p p2 M Q;exact mD
      have s5:(t[k]==33)=false:=(by simpa using M);have s6:(t[k]==46)=false:=(by simpa using Q);clear p p2;exact mD
     .have G:k+1=t.size:=(by omega);have vu8:decide ((k:Int)+1<(t.size:Int))=false:=zV;have R:=Z G;clear G;go_wp2;go_ret2
      have hz:t.data.toList.drop (k+1)=[]:=yq (by rw[yz];have:=R.o;omega);refine⟨?_,hb⟩;rw[<-HG.o,hz,go_bad1 HK.o MO.o];exact rfl
    .have k0':decide ((0:Int)<(A:Int))=true:=(by simp;omega);by_cases O:A=last
     .have kl':((A:Int)==(last:Int))=true:=(by simp[O]);have z:0<acc.length:=xI.2 (T.o J);obtain⟨m,hm⟩:∃m,acc.length=m+1:=⟨acc.length - 1,J⟩;obtain⟨g,cap,rfl,W,hg1,hc⟩:=vK c z;have V:zy wr g m (zv (acc.getD m [])):=by
       rw[hc m J];simp[zM,zw (show m<acc.length by omega)]
      have hfx:wr.frozen? (g,m)=false:=by
       rcases c.2 with⟨hv,_⟩|⟨g2,IN,cur,hv,_,hh,_⟩
       .cases hv
       .cases hv;exact yj hh m
      have hxl:(acc.getD m []).length<=k:=by
       refine y.o _ ?_;exact nO
      obtain⟨lw,E⟩:∃x,x=acc.getD m []:=⟨_,rfl⟩;rw[<-E]at V hxl;have S:=Z E;have l:=Z c;have HM:=Z hm;subst O;have Av:m+1<=k:=J;rw[hm];clear E c hm hc D z;go_wp2_with fail;have b1:yU.wrap (m:Int)=(m:Int):=C1 _ J;have b6:m<m+1:=J;have b8:(k:Int)+1<=(t.size:Int):=J;have b9:(k:Int)<=(k:Int)+1:=J;have b10:(0:Int)<=(k:Int)+1:=J;have b11:k+1<=t.size:=J;have b12:(0:Int)<=(k:Int):=J;have b13:(9223372036854775807<lw.length+1)=False:=eq_false J;have b7:(m:Int)<(m:Int)+1:=J;have b2:(0:Int)<=(m:Int):=J;have b3:((m:Int)).toNat=m:=J;have b4:yU.wrap ((k:Int)+1)=(k:Int)+1:=C1 _ J;have b5:((k:Int)+1).toNat=k+1:=J;go_still_tail 17,yy
      go_wp2;exact⟨sw d HK.o k3 k0 B HM.o Av S.o y.o l.o W hb HG.o,Lx⟩
     .have kl':((A:Int)==(last:Int))=false:=(by simp;omega);have KL:=Z O;have l:=Z c;have k0i:(0:Int)<(A:Int):=J;clear O;go_wp2_with (at_builtin;refine vY uN rfl _ _ rfl (w:Nat) _ _ _ rfl (c.alloc _) ⟨(wr:Nat),0,none⟩ 1 1 [.string (t.extract k (k+1))] rfl rfl Qx jr J j7 ?_);intro v' w1 b a;go_wp2;go_roundw
      case rel=>exact FR d HK.o k3 (λq=>KL.o q.2) B (.inl J) D y.o b ((hb.alloc hb.size _).grown a j7 (λq j=>(l.o.lt q j).1)) HG.o
      case measure=>simp[intOf];omega
  .go_wp2;go_ret2
   have hz:t.data.toList.drop k=[]:=yq zV;rw[hz]at f;refine⟨?_,hb⟩;rw[<-f];exact⟨_,rfl,c⟩
variable{vs:List zx}{u:zx}
def uu(s:ByteArray):s.toList=s.data.toList:=by
 exact dP s
def xR(m:List UInt8):List (List UInt8)->List (List UInt8)->List (List (List UInt8))
 |cur,[]=>[cur]
 |cur,x::t=>if x=m then cur::xR m [] t else xR m (cur++[x]) t
def yY(m:List UInt8)(l:List (List UInt8)):List (List (List UInt8)):=xR m [] l
def Uy:bH prog 198 22 (.slice none 0 0) 1 24 :=
 ⟨underlying198,info_parts yy,rfl,zj,zj⟩
def fx(w0 w:z7)(base:Nat)(v:zx)(ps:List (List (List UInt8))):Prop :=
 ∃vs:List zx,w.ownsRow base 22 1 v ps.length vs/\∀j (h:j<ps.length),∃u,vs[j]? = some u/\yM w0 u ps[j]
def add_add(a:yi)(i j:Nat):(a.add i).add j=a.add (i+j):=by
 unfold xM;by_cases hi:i=0
 .subst hi;simp
 .by_cases b:j=0
  .subst b;simp
  .simp[hi,b,jo]
def yM.piece{a:yi}{ws:List (List UInt8)}(hn:ws.length=n)(hc:n<=cap)(hm:cap<=maxLen)(b:∀j (h:j<ws.length),w.cell? (a.add j)=some (zv ws[j]))(f i:Nat)(hf:f<=i)(hi:i<=n) :
  yM w (.slice (some (a.add f)) (i - f) (cap - f)) ((ws.take i).drop f):=by
 have c:((ws.take i).drop f).length=i - f:=zV;refine⟨some (a.add f),cap - f,by rw[c],J,J,(λh=>by cases h),λj d=>⟨_,rfl,?_⟩⟩;rw[c]at d;rw[add_add,b (f+j) J];simp
def K7(m:List UInt8)(n:Nat)(ws:List (List UInt8))(w:z7)(v f i:zx)(wr:z7):Prop :=
 ∃(k fr:Nat) (acc:List (List (List UInt8))),k<=n+1/\fr<=k/\i = .int .i64 k/\f = .int .i64 fr/\fx w wr (w:Nat) v acc/\zJ w wr/\acc.length<=k /\
  yY m ws=(if k<=n then acc++xR m ((ws.take k).drop fr) (ws.drop k)else acc)
def fx.more{wr:z7}{base:Nat}{acc:List (List (List UInt8))}{p:List (List UInt8)}(b:vs.length=acc.length)
  (hp:∀j (h:j<acc.length),∃u,vs[j]? = some u/\yM w u acc[j]) (ho:w1.ownsRow base 22 1 v' (acc.length+1) (vs++[u])) (c:yM w u p):fx w w1 base v' (acc++[p]):=by
 refine⟨vs++[u],IQ,λj h=>?_⟩;by_cases a:j<acc.length
 .obtain⟨x,hx,hs⟩:=hp j a;exact⟨x,by rw[qM J];exact hx,by rw[lH a];exact hs⟩
 .have e:j=acc.length:=by simp at h;omega
  subst e;refine⟨u,by rw[zc J,b];simp,?_⟩;rw[List.getElem_append_right J];simpa using c
def zg9{m:List UInt8}{fr:Nat}{ws:List (List UInt8)}{acc:List (List (List UInt8))}(hn:n=ws.length)(c:k<n)(hf:fr<=k)(f:ws[k]=m)(b:vs.length=acc.length)(i:acc.length<=k)
  (hp:∀j (h:j<acc.length),∃u,vs[j]? = some u/\yM w u acc[j]) (d:w1.ownsRow (w:Nat) 22 1 v' (acc.length+1) (vs++[u])) (g:yM w u ((ws.take k).drop fr))
  (hb:zJ w w1) (a:yY m ws=(if k<=n then acc++xR m ((ws.take k).drop fr) (ws.drop k)else acc)) :
  K7 m n ws w v' (.int .i64 ((k:Int)+1)) (.int .i64 ((k:Int)+1)) w1:=by
 refine⟨k+1,k+1,acc++[(ws.take k).drop fr],J,J,by go_num,by go_num,fx.more (wr:=w) b hp d g,hb,zV,?_⟩;rw[zl J]at a;rw[zl J,a,yH (by omega:k<ws.length)];have e:((ws.take (k+1)).drop (k+1))=[]:=yq (by simp;omega);rw[e,xR,zl f];simp
def zr8{m:List UInt8}{fr:Nat}{ws:List (List UInt8)}{acc:List (List (List UInt8))}(hn:n=ws.length)(b:k<n)(hf:fr<=k)(c:¬ws[k]=m)(d:acc.length<=k)
  (hp:fx w w1 (w:Nat) v acc) (hb:zJ w w1) (a:yY m ws=(if k<=n then acc++xR m ((ws.take k).drop fr) (ws.drop k)else acc)) :
  K7 m n ws w v fr (.int .i64 ((k:Int)+1)) w1:=by
 refine⟨k+1,fr,acc,J,J,by go_num,rfl,hp,hb,J,?_⟩;rw[zl J]at a;have e:(ws.take (k+1)).drop fr=(ws.take k).drop fr++[ws[k]]:=by
  rw[zr J,List.drop_append_of_le_length zV]
 rw[zl J,a,yH (by omega:k<ws.length),xR,zL c,e]
def Au{m:List UInt8}{fr:Nat}{ws:List (List UInt8)}{acc:List (List (List UInt8))}(hn:n=ws.length)(b:k=n)(c:vs.length=acc.length)(f:acc.length<=k)
  (hp:∀j (h:j<acc.length),∃u,vs[j]? = some u/\yM w u acc[j]) (d:w1.ownsRow (w:Nat) 22 1 v' (acc.length+1) (vs++[u])) (e:yM w u ((ws.take k).drop fr))
  (hb:zJ w w1) (a:yY m ws=(if k<=n then acc++xR m ((ws.take k).drop fr) (ws.drop k)else acc)) :
  K7 m n ws w v' (.int .i64 ((k:Int)+1)) (.int .i64 ((k:Int)+1)) w1:=by
 refine⟨k+1,k+1,acc++[(ws.take k).drop fr],J,J,by go_num,by go_num,fx.more (wr:=w) c hp d e,hb,zV,?_⟩;rw[zl J]at a;rw[zL J,a,yq (by omega:ws.length<=k),xR]
def SY(m:ByteArray)(a:yi)(cap:Nat)(ws:List (List UInt8))(w:z7)(hc:ws.length<=cap)(hm:cap<=maxLen)(hw:ws.length<=1000000)(XS:∀j (h:j<ws.length),w.cell? (a.add j)=some (zv ws[j])) :
  zE prog 76 #[.slice (some a) ws.length cap,.string m] w λe w'=>(∃v,e = .returned v/\fx w w' w.heap.size v (yY m.data.toList ws))/\yX w.heap.size w w':=by
 have HC:=Z XS;clear XS;obtain⟨n,hn⟩:∃n,n=ws.length:=⟨_,rfl⟩;rw[<-hn]at hc hw|-
 have HN:=Z hn;clear hn;go_enter func76,ntmps76;go_wp2;go_loopw [5,6,7] (λv f i wr=>K7 m.data.toList n ws w v f i wr) (λ_ _ i _=>n+1 - (intOf i).toNat)
 case atStart=>exact⟨0,0,[],by omega,by omega,rfl,rfl,⟨[],yr _ _ _ _,λj h=>absurd h (uf j)⟩,z8 _ _,by simp,by rw[if_pos (zG _)];simp[yY]⟩
 case round =>
  obtain⟨k,fr,acc,hk,hf,rfl,rfl,hp,hb,hl,XR⟩:=hrel;have HG:=Z XR;have HP:=Z hp;clear XR hp;by_cases ud:k<n
  .have hx:=HC.out k (by rw[<-HN.out];exact ud);have gN:wr.cell? (a.add k)=some (zv ws[k]):=by rw[hb.cell (Y w _ hx)];exact hx
   have fH:((k:Int)==(n:Int))=false:=by simp;omega
   clear hx;have hu:=yM.piece (f:=fr) (i:=k) HN.out.symm hc hm HC.out hf (by omega);have HU:=Z hu;clear hu;by_cases hq:ws[k]=m.data.toList
   .have hq':(ws[k]==m.toList)=true:=by rw[uu,hq];simp
    obtain⟨vs,uT,FC⟩:=HP.out;have HQ:=Z hq;have HO:=Z uT;have HPC:=Z FC;clear hq FC;go_wp2_with (at_builtin;refine vY Uy rfl _ _ rfl w.heap.size _ _ _ rfl (uT.alloc _) ⟨wr.heap.size,0,none⟩ 1 1 [.slice (some (a.add fr)) (k - fr) (cap - fr)] rfl rfl ?c1 ?c2 ?c3 ?c4 ?_)
    case c1=>exact cells_one (zg _ _ _ _ _)
    case c2=>intro u hu;simp at hu;subst hu;rfl
    case c3=>omega
    case c4=>have:=hb.size;simp;omega
    intro v' w1 NM jA;go_wp2;go_roundw
    case rel=>exact zg9 HN.out ud hf HQ.out (by have:=HO.out.1;omega) hl HPC.out NM HU.out ((hb.alloc hb.size _).grown jA (by have:=hb.size;simp;omega) (λq hq=>(HO.out.lt q hq).1)) HG.out
    case measure=>simp[intOf];omega
   .have hq':(ws[k]==m.toList)=false:=by rw[uu];simpa using hq
    have HQ:=Z hq;clear hq;go_wp2;go_roundw
    case rel=>exact zr8 HN.out ud hf HQ.out hl HP.out hb HG.out
    case measure=>simp[intOf];omega
  .by_cases Qn:k=n
   .have fH:((k:Int)==(n:Int))=true:=by simp[Qn]
    have hle:decide ((k:Int)<=(n:Int))=true:=by simp[Qn]
    have vuy:k<=n:=by omega
    have hu:=yM.piece (f:=fr) (i:=k) HN.out.symm hc hm HC.out hf (by omega);have HU:=Z hu;obtain⟨vs,uT,FC⟩:=HP.out;have IH:=Z Qn;have HO:=Z uT;have HPC:=Z FC;by_cases hfc:cap=fr
    .have hkf:k=fr:=by omega
     have hu2:yM w (.slice (some a) 0 0) ((ws.take k).drop fr):=by
      have e:(ws.take k).drop fr=[]:=yq (by simp;omega);rw[e];exact⟨some a,0,rfl,X _,zG _,λ_=>rfl,λj h=>absurd h (uf j)⟩
     have HU2:=Z hu2;have hcc:cap=k:=by omega
     clear Qn FC hu hu2;subst hfc;subst hkf;go_wp2_with (at_builtin;refine vY Uy rfl _ _ rfl w.heap.size _ _ _ rfl (uT.alloc _) ⟨wr.heap.size,0,none⟩ 1 1 [(.slice (some a) 0 0)] rfl rfl ?d1 ?d2 ?d3 ?d4 ?_)
     case d2=>rfl
     case d3=>omega
     case d4=>have:=hb.size;simp;omega
     intro v' w1 NM jA;go_wp2;go_roundw
     case rel=>exact Au HN.out IH.out (by have:=HO.out.1;omega) hl HPC.out NM HU2.out ((hb.alloc hb.size _).grown jA (by have:=hb.size;simp;omega) (λq hq=>(HO.out.lt q hq).1)) HG.out
     case measure=>simp[intOf];omega
    .clear Qn FC hu;have vuv:¬(cap:Int)=(fr:Int):=by omega
     have vuu:¬fr=cap:=λq=>hfc q.symm
     go_wp2_with (at_builtin;refine vY Uy rfl _ _ rfl w.heap.size _ _ _ rfl (uT.alloc _) ⟨wr.heap.size,0,none⟩ 1 1 [(.slice (some (a.add fr)) (k - fr) (cap - fr))] rfl rfl ?e1 ?e2 ?e3 ?e4 ?_)
     case e1=>exact cells_one (zg _ _ _ _ _)
     case e2=>intro u hu;simp at hu;subst hu;rfl
     case e3=>omega
     case e4=>have:=hb.size;simp;omega
     intro v' w1 NM jA;go_wp2;go_roundw
     case rel=>exact Au HN.out IH.out (by have:=HO.out.1;omega) hl HPC.out NM HU.out ((hb.alloc hb.size _).grown jA (by have:=hb.size;simp;omega) (λq hq=>(HO.out.lt q hq).1)) HG.out
     case measure=>simp[intOf];omega
   .have hgt:¬k<=n:=by omega
    have hle:decide ((k:Int)<=(n:Int))=false:=by simp;omega
    have XR:=HG.out;rw[if_neg hgt]at XR;have Qm:=Z XR;clear XR;go_wp2;go_ret;exact⟨⟨_,rfl,by rw[Qm.out];exact HP.out⟩,hb⟩
def aw(m:ByteArray)(w:z7) :
  zE prog 76 #[.slice none 0 0,.string m] w λe w'=>(∃v,e = .returned v/\fx w w' (w:Nat) v (yY m.data.toList []))/\zJ w w':=by
 go_enter func76,ntmps76;go_wp2;refine wp_loop_rounds 2 ?_;rw[rounds_succ];go_wp2_with (at_builtin;refine vY Uy rfl _ _ rfl (w:Nat) _ _ _ rfl (World.ownsRow_nil _ _ _ _) ⟨(w:Nat),0,none⟩ 1 1 [.slice none 0 0] rfl rfl Xq jr zj zY ?_);intro v' w1 b a;have hb:zJ w w1:=((Below.refl _ _).alloc (Nat.le_refl _) _).grown a zY (λq c=>by cases c);clear a;go_wp2;rw[rounds_succ];go_wp2;go_ret;refine⟨⟨_,rfl,[.slice none 0 0],b,λj h=>?_⟩,hb⟩;have e:j=0:=by simp[yY,xR]at h;omega
 subst e;exact⟨_,rfl,none,0,rfl,X _,zG _,λ_=>rfl,λj h=>absurd h (uf j)⟩
def YC(m:ByteArray)(v:zx)(ws:List (List UInt8))(w:z7)(h:yM w v ws)(hw:ws.length<=1000000) :
  zE prog 76 #[v,.string m] w λe w'=>(∃v,e = .returned v/\fx w w' (w:Nat) v (yY m.data.toList ws))/\zJ w w':=by
 obtain⟨a,cap,rfl,i,hm,f,hc⟩:=h;cases a with
 |none =>
  have k:=f rfl;subst k;have:ws=[]:=zF J;subst this;exact aw m w
 |some a =>
  refine SY m a cap ws w i hm hw (λj g=>?_);obtain⟨b,c,d⟩:=hc j g;cases c;exact d
def cmpL(a b:List UInt8):Int:=if a.length<b.length\/(a.length=b.length/\gV a b=true)then -1 else if a=b then 0 else 1
def vV(a b:ByteArray)(w:z7)(ha:a.size<=1000000)(hb:b.size<=1000000) :
  zE prog 143 #[.string a,.string b] w λe w'=>e = .returned (.int .i64 (cmpL a.data.toList b.data.toList))/\w=w':=by
 have hA:=uu a;have hB:=uu b;obtain⟨r,hr⟩:=zo (cmpL a.data.toList b.data.toList);rw[hr];have HR:=Z hr;unfold cmpL at hr;rw[yz,yz]at hr;by_cases h1:a.size<b.size
 .rw[zl (.inl h1)]at hr;have h1':decide ((a.size:Int)<(b.size:Int))=true:=by simp;omega
  have HF:=Z hr;clear hr hA hB;go_enter func143,ntmps143;go_wp2;all_goals (first|(exfalso;omega)|(go_ret;exact⟨by rw[<-HF.o];rfl,rfl⟩))
 .have h1':decide ((a.size:Int)<(b.size:Int))=false:=by simp;omega
  by_cases h2:a.size=b.size
  .have h2':((a.size:Int)==(b.size:Int))=true:=by simp;omega
   cases h3:gV a.data.toList b.data.toList
   .rw[zL (λq=>q.elim h1 (λq=>by rw[h3]at q;cases q.2))]at hr
    rw[<-hA,<-hB]at h3;by_cases h4:a.data.toList=b.data.toList
    .rw[zl h4]at hr;have h4':(a.toList==b.toList)=true:=by rw[hA,hB,h4];simp
     have HF:=Z hr;clear hr hA hB h4 h2;go_enter func143,ntmps143;go_wp2;all_goals (first|(exfalso;omega)|(go_ret;exact⟨by rw[<-HF.o];rfl,rfl⟩))
    .rw[zL h4]at hr;have h4':(a.toList==b.toList)=false:=by rw[hA,hB];simpa using h4
     have HF:=Z hr;clear hr hA hB h4 h2;go_enter func143,ntmps143;go_wp2;all_goals (first|(exfalso;omega)|(go_ret;exact⟨by rw[<-HF.o];rfl,rfl⟩))
   .rw[zl (.inr ⟨h2,h3⟩)]at hr;rw[<-hA,<-hB]at h3;have HF:=Z hr;clear hr hA hB h2;go_enter func143,ntmps143;go_wp2;all_goals (first|(exfalso;omega)|(go_ret;exact⟨by rw[<-HF.o];rfl,rfl⟩))
  .have h2':((a.size:Int)==(b.size:Int))=false:=by simp;omega
   have h4:¬a.data.toList=b.data.toList:=λq=>h2 (by have:=congrArg qj q;simpa using this)
   rw[zL (λq=>q.elim h1 (λq=>h2 q.1)),zL h4]at hr
   have h4':(a.toList==b.toList)=false:=by rw[hA,hB];simpa using h4
   have HF:=Z hr;clear hr hA hB h4;go_enter func143,ntmps143;go_wp2;all_goals (first|(exfalso;omega)|(go_ret;exact⟨by rw[<-HF.o];rfl,rfl⟩))
def j9(l:List UInt8)(m:Nat):Nat:=l.foldl (λr c=>(10*r+(c.toNat - 48)) % m) 0
def Qk(l:List UInt8)(c:UInt8)(m:Nat):j9 (l++[c]) m=(10*j9 l m+(c.toNat - 48)) % m:=by simp[j9]
def DT(l:List UInt8)(m:Nat)(hm:0<m):j9 l m<m:=by
 by_cases h:l=[]
 .subst h;exact hm
 .obtain⟨t,c,rfl⟩:∃t c,l=t++[c]:=⟨l.dropLast,l.getLast h,Rx⟩;rw[Qk];exact Nat.mod_lt _ hm
def tz(x y m:Nat)(h:y<=x)(hy:y % m=0):(x - y) % m=x % m:=by
 obtain⟨k,rfl⟩:∃k,x=y+k:=⟨x - y,J⟩;rw[dD,Nat.add_mod,hy,V9,Nat.mod_mod]
def tx(s:ByteArray)(m:Nat)(w:z7)(hs:s.size<=1000000)(hd:s.data.toList.all yn=true)(t:0<m)(hm:m<=1000000000) :
  zE prog 110 #[.string s,m] w λe w'=>e = .returned (.int .i64 (j9 s.data.toList m))/\w=w':=by
 go_enter func110,ntmps110;go_wp2;go_loop [5,6,7] (λr i _=>∃k:Nat,k<=s.size/\i = .int .i64 k/\r = .int .i64 (j9 (s.data.toList.take k) m)) (λ_ i _=>s.size - (intOf i).toNat)
 case atStart=>exact⟨0,J,rfl,rfl⟩
 case round =>
  obtain⟨k,D,rfl,rfl⟩:=hrel;have hv:=DT (s.data.toList.take k) m t;by_cases f:k<s.size
  .have hc:=(xe _).1 (DS hd k f);have g:j9 (s.data.toList.take (k+1)) m=(10*j9 (s.data.toList.take k) m+(s[k].toNat - 48)) % m:=(by rw[Vh s k f,Qk]);have l:=Z g;clear g;obtain⟨x,hx⟩:∃x,x=j9 (s.data.toList.take k) m:=⟨_,rfl⟩;rw[<-hx]at hv l|-;clear hx;obtain⟨R,hR⟩:∃R:Nat,(x:Int)*10+((s[k].toNat:Int) - 48)=(R:Int):=⟨x*10+(s[k].toNat - 48),J⟩;have d:R=10*x+(s[k].toNat - 48):=J;rw[<-d]at l;have B:R<10000000010:=J;have A:=Z hR;clear d;go_wp2;go_loop [5,7] (λr _=>∃y:Nat,r = .int .i64 y/\y<=R/\y % m=R % m) (λr _=>(intOf r).toNat)
   case atStart=>exact⟨R,by first|rfl|(congr 1;done)|(congr 1;have:=A.o;omega),X _,rfl⟩
   case round =>
    obtain⟨y,rfl,hy,h⟩:=hrel;have b:=Z h;clear h;by_cases p:m<=y
    .go_wp2;go_loop [7] (λq=>∃z:Nat,q = .int .i64 z/\m<=z/\z<=y/\z % m=0) (λq=>y - (intOf q).toNat)
     case atStart=>exact⟨m,rfl,X _,p,Nat.mod_self m⟩
     case round =>
      obtain⟨z,rfl,C,u,j⟩:=hrel;have c:=Z j;clear j;by_cases h2:z*2<=y
      .have n:(z:Int)*2<=(y:Int):=(by omega);go_wp2;go_round
       case rel=>exact⟨z*2,xi,J,h2,by rw[Nat.mul_mod,c.o];simp⟩
       case measure=>simp[intOf];omega
      .have n:¬(z:Int)*2<=(y:Int):=(by omega);go_wp2;go_round
       case rel=>exact⟨y - z,by(congr 1;omega),J,by rw[tz y z m u c.o,b.o]⟩
       case measure=>simp[intOf];omega
    .have a:j9 (s.data.toList.take (k+1)) m=y:=(by rw[l.o,<-b.o];exact uC J);have v:=Z a;clear a;go_wp2;go_round
     case rel=>exact⟨k+1,J,xi,by rw[v.o]⟩
     case measure=>simp[intOf];omega
  .exact oY
def stripL:List UInt8->List UInt8
 |c::d::t=>if c=48 then stripL (d::t)else c::d::t
 |l=>l
def uY(l:List UInt8):List UInt8:=if l=[]then [48]else stripL l
def DW{c:UInt8}(h:l≠[])(hc:c=48):stripL (c::l)=stripL l:=by
 cases l with
 |nil=>exact absurd rfl h
 |cons d t=>rw[stripL,zl hc]
def DA{c:UInt8}(hc:¬c=48):stripL (c::l)=c::l:=by
 cases l with
 |nil=>rfl
 |cons d t=>rw[stripL,zL hc]
def EK(s:ByteArray)(w:z7)(hs:s.size<=1000000):zE prog 140 #[.string s] w λe w'=>e = .returned (zv (uY s.data.toList))/\w=w':=by
 obtain⟨r,hr⟩:=zo (uY s.data.toList);rw[hr];have k:=Z hr;clear hr;go_enter func140,ntmps140;go_wp2;go_loop [0] (λv=>∃t:ByteArray,v = .string t/\t.size<=1000000/\uY t.data.toList=r) (λv=>match v with |.string t=>t.size|_=>0)
 case atStart=>exact⟨s,rfl,hs,k.o⟩
 case round =>
  obtain⟨t,rfl,l,hp⟩:=hrel;have f:=Z hp;clear hp;by_cases h1:1<t.size
  .have h0:0<t.size:=(by omega);have hl:t.data.toList=t[0]::t.data.toList.drop 1:=(by have:=drop_cons t 0 h0;rwa [qH]at this);have d:=Z hl;clear hl;by_cases hc:t[0]=48
   .have h:((t[0].toNat:Int)==48)=true:=(by rw[hc];rfl);have j:=Z hc;clear hc;have hx:(t.extract 1 t.size).size=t.size - 1:=zY;have b:t.data.toList.drop 1≠[]:=(by intro q;have:=congrArg qj q;simp at this;omega);have a:uY (t.extract 1 t.size).data.toList=r:=by
     have e:stripL t.data.toList=stripL (t.data.toList.drop 1):=(congrArg stripL d.o).trans (DW b j.o);rw[ub,toList_mk,<-f.o];unfold uY;rw[zL b,zL (by rw[d.o];simp),e]
    have HF:=Z a;have i:=Z hx;clear a hx b;go_wp2;exact⟨⟨_,rfl,by rw[i.o];omega,HF.o⟩,by show(t.extract 1 t.size).size<t.size;rw[i.o];omega⟩
   .have h:((t[0].toNat:Int)==48)=false:=(by rw[show((48:Int))=(((48:UInt8).toNat:Nat):Int)from rfl,vZ];simpa using hc);have b:(!t.toList.isEmpty)=true:=(by rw[uu,d.o];rfl);have c:t.toList.isEmpty=false:=(by rw[uu,d.o];rfl);have a:zv r = .string t:=by
     rw[<-f.o];unfold uY;rw[zL (by rw[d.o];simp),d.o,DA hc,<-d.o]
    have HF:=Z a;clear hc a;exact VQ
  .by_cases h0:t.size=0
   .have hl:t.data.toList=[]:=zF Uh;have b:(!t.toList.isEmpty)=false:=(by rw[uu,hl];rfl);have c:t.toList.isEmpty=true:=RJ;have a:r=[48]:=(by rw[<-f.o,hl];rfl);have HF:=Z a;clear hl a;exact VQ
   .have g:0<t.size:=(by omega);have hl:t.data.toList=[t[0]]:=by
     have:=drop_cons t 0 g;rw[qH]at this;rw[this,yq Jd]
    have b:(!t.toList.isEmpty)=true:=RJ;have c:t.toList.isEmpty=false:=RJ;have a:zv r = .string t:=by
     rw[<-f.o,<-show jW t.data.toList.toArray=t from Vw t,toList_mk];rw[hl];rfl
    have HF:=Z a;clear hl a;exact VQ
def yE(l:List UInt8):List UInt8:=(l.reverse.dropWhile (· == 48)).reverse
def short_zero(l:List UInt8):yE (l++[48])=yE l:=by simp[yE]
def D0(l:List UInt8)(c:UInt8)(h:¬c=48):yE (l++[c])=l++[c]:=by
 have:(c==48)=false:=Y3;simp[yE,this]
def uX(wh fr c:List UInt8):Option (List UInt8×List UInt8) :=
 if c=[110]then some (wh,fr)else if c=[105]then some (wh,[])else if c=[118]then some (xv fr.length,[])else if c=[119]then some (xv (yE fr).length,[])
 else if c=[102]then some (uY fr,[])else if c=[116]then some (uY (yE fr),[])else none
def NN(r:Option (List UInt8×List UInt8))(w:z7)(e:gG)(w':z7):Prop :=
 (match r with|some (a,b)=>e = .returned (.tuple #[zv a,zv b,.bool true])|none=>e = .returned (.tuple #[zv [],zv [],.bool false]))/\zJ w w'
def c8(b:Bool)(wh fr:ByteArray)(w:z7)(hf:fr.size<=1000000) :
  zE prog 107 #[.agg #[.bool b,.string wh,.string fr],.string ⟨#[110]⟩] w λe w'=>e = .returned (.tuple #[.string wh,.string fr,.bool true])/\zJ w w':=by
 go_enter func107,ntmps107;go_wp2;go_loop [7] (λv=>∃t:ByteArray,v = .string t/\t.size<=1000000/\yE t.data.toList=yE fr.data.toList) (λv=>match v with |.string t=>t.size|_=>0)
 case atStart=>exact⟨fr,rfl,hf,rfl⟩
 case round =>
  obtain⟨t,rfl,h,hp⟩:=hrel;have HP:=Z hp;clear hp;by_cases h0:t.size=0
  .have c:t.data.toList=[]:=zF Uh;have a:yE fr.data.toList=t.data.toList:=(by rw[<-HP.o,c];rfl);have d:=Z a;have f:¬0<t.size:=J;clear c a h0;go_wp2_with fail;go_quiet (fail)
   exact DU
  .obtain⟨n,hn⟩:∃n,t.size=n+1:=⟨t.size - 1,J⟩;have ud:n<t.size:=(by omega);have c:t.data.toList=t.data.toList.take n++[t[n]]:=Ed;have HL:=Z c;have b1:yU.wrap ((t.size:Int) - 1)=(n:Int):=Q9;have b2:((t.size:Int) - 1)=(n:Int):=J;have f:0<t.size:=J;have g:=Z hn;clear c hn h0;by_cases hc:t[n]=48
   .exact JK
   .have Pn:((t[n].toNat:Int)==48)=false:=(by rw[show((48:Int))=(((48:UInt8).toNat:Nat):Int)from rfl,vZ];simpa using hc);have a:yE fr.data.toList=t.data.toList:=Eu;have d:=Z a;clear hc a b2;go_wp2_with fail;go_quiet (fail)
    exact DU
def cz(b:Bool)(wh fr:ByteArray)(w:z7)(hf:fr.size<=1000000) :
  zE prog 107 #[.agg #[.bool b,.string wh,.string fr],.string ⟨#[105]⟩] w λe w'=>e = .returned (.tuple #[.string wh,zv [],.bool true])/\zJ w w':=by
 go_enter func107,ntmps107;go_wp2;go_loop [7] (λv=>∃t:ByteArray,v = .string t/\t.size<=1000000/\yE t.data.toList=yE fr.data.toList) (λv=>match v with |.string t=>t.size|_=>0)
 case atStart=>exact⟨fr,rfl,hf,rfl⟩
 case round =>
  obtain⟨t,rfl,h,hp⟩:=hrel;have HP:=Z hp;clear hp;by_cases h0:t.size=0
  .have c:t.data.toList=[]:=zF Uh;have a:yE fr.data.toList=t.data.toList:=(by rw[<-HP.o,c];rfl);have d:=Z a;have f:¬0<t.size:=J;clear c a h0;exact DU
  .obtain⟨n,hn⟩:∃n,t.size=n+1:=⟨t.size - 1,J⟩;have ud:n<t.size:=(by omega);have c:t.data.toList=t.data.toList.take n++[t[n]]:=Ed;have HL:=Z c;have b1:yU.wrap ((t.size:Int) - 1)=(n:Int):=Q9;have b2:((t.size:Int) - 1)=(n:Int):=J;have f:0<t.size:=J;have g:=Z hn;clear c hn h0;by_cases hc:t[n]=48
   .exact JK
   .have Pn:((t[n].toNat:Int)==48)=false:=(by rw[show((48:Int))=(((48:UInt8).toNat:Nat):Int)from rfl,vZ];simpa using hc);have a:yE fr.data.toList=t.data.toList:=Eu;have d:=Z a;clear hc a b2;exact DU
def cy(b:Bool)(wh fr:ByteArray)(w:z7)(hf:fr.size<=1000000) :
  zE prog 107 #[.agg #[.bool b,.string wh,.string fr],.string ⟨#[118]⟩] w λe w'=>e = .returned (.tuple #[zv (xv fr.data.toList.length),zv [],.bool true])/\zJ w w':=by
 go_enter func107,ntmps107;go_wp2;go_loop [7] (λv=>∃t:ByteArray,v = .string t/\t.size<=1000000/\yE t.data.toList=yE fr.data.toList) (λv=>match v with |.string t=>t.size|_=>0)
 case atStart=>exact⟨fr,rfl,hf,rfl⟩
 case round =>
  obtain⟨t,rfl,h,hp⟩:=hrel;have HP:=Z hp;clear hp;by_cases h0:t.size=0
  .have c:t.data.toList=[]:=zF Uh;have a:yE fr.data.toList=t.data.toList:=(by rw[<-HP.o,c];rfl);have d:=Z a;have f:¬0<t.size:=J;clear c a h0;exact r9
  .obtain⟨n,hn⟩:∃n,t.size=n+1:=⟨t.size - 1,J⟩;have ud:n<t.size:=(by omega);have c:t.data.toList=t.data.toList.take n++[t[n]]:=Ed;have HL:=Z c;have b1:yU.wrap ((t.size:Int) - 1)=(n:Int):=Q9;have b2:((t.size:Int) - 1)=(n:Int):=J;have f:0<t.size:=J;have g:=Z hn;clear c hn h0;by_cases hc:t[n]=48
   .exact JK
   .have Pn:((t[n].toNat:Int)==48)=false:=(by rw[show((48:Int))=(((48:UInt8).toNat:Nat):Int)from rfl,vZ];simpa using hc);have a:yE fr.data.toList=t.data.toList:=Eu;have d:=Z a;clear hc a b2;exact r9
def cu(b:Bool)(wh fr:ByteArray)(w:z7)(hf:fr.size<=1000000) :
  zE prog 107 #[.agg #[.bool b,.string wh,.string fr],.string ⟨#[119]⟩] w λe w'=>e = .returned (.tuple #[zv (xv (yE fr.data.toList).length),zv [],.bool true])/\zJ w w':=by
 go_enter func107,ntmps107;go_wp2;go_loop [7] (λv=>∃t:ByteArray,v = .string t/\t.size<=1000000/\yE t.data.toList=yE fr.data.toList) (λv=>match v with |.string t=>t.size|_=>0)
 case atStart=>exact⟨fr,rfl,hf,rfl⟩
 case round =>
  obtain⟨t,rfl,g,hp⟩:=hrel;have HP:=Z hp;clear hp;by_cases h0:t.size=0
  .have c:t.data.toList=[]:=zF Uh;have a:yE fr.data.toList=t.data.toList:=(by rw[<-HP.o,c];rfl);have HSH:=Z a;have d:¬0<t.size:=J;clear c a h0;exact r7
  .obtain⟨n,hn⟩:∃n,t.size=n+1:=⟨t.size - 1,J⟩;have ud:n<t.size:=(by omega);have c:t.data.toList=t.data.toList.take n++[t[n]]:=Ed;have HL:=Z c;have b1:yU.wrap ((t.size:Int) - 1)=(n:Int):=Q9;have b2:((t.size:Int) - 1)=(n:Int):=J;have d:0<t.size:=J;have f:=Z hn;clear c hn h0;by_cases hc:t[n]=48
   .exact JK
   .have Pn:((t[n].toNat:Int)==48)=false:=(by rw[show((48:Int))=(((48:UInt8).toNat:Nat):Int)from rfl,vZ];simpa using hc);have a:yE fr.data.toList=t.data.toList:=Eu;have HSH:=Z a;clear hc a b2;exact r7
def cq(b:Bool)(wh fr:ByteArray)(w:z7)(hf:fr.size<=1000000) :
  zE prog 107 #[.agg #[.bool b,.string wh,.string fr],.string ⟨#[102]⟩] w λe w'=>e = .returned (.tuple #[zv (uY fr.data.toList),zv [],.bool true])/\zJ w w':=by
 go_enter func107,ntmps107;go_wp2;go_loop [7] (λv=>∃t:ByteArray,v = .string t/\t.size<=1000000/\yE t.data.toList=yE fr.data.toList) (λv=>match v with |.string t=>t.size|_=>0)
 case atStart=>exact⟨fr,rfl,hf,rfl⟩
 case round =>
  obtain⟨t,rfl,h,hp⟩:=hrel;have HP:=Z hp;clear hp;by_cases h0:t.size=0
  .have c:t.data.toList=[]:=zF Uh;have a:yE fr.data.toList=t.data.toList:=(by rw[<-HP.o,c];rfl);have d:=Z a;have f:¬0<t.size:=J;clear c a h0;exact sU
  .obtain⟨n,hn⟩:∃n,t.size=n+1:=⟨t.size - 1,J⟩;have ud:n<t.size:=(by omega);have c:t.data.toList=t.data.toList.take n++[t[n]]:=Ed;have HL:=Z c;have b1:yU.wrap ((t.size:Int) - 1)=(n:Int):=Q9;have b2:((t.size:Int) - 1)=(n:Int):=J;have f:0<t.size:=J;have g:=Z hn;clear c hn h0;by_cases hc:t[n]=48
   .exact JK
   .have Pn:((t[n].toNat:Int)==48)=false:=(by rw[show((48:Int))=(((48:UInt8).toNat:Nat):Int)from rfl,vZ];simpa using hc);have a:yE fr.data.toList=t.data.toList:=Eu;have d:=Z a;clear hc a b2;exact sU
def ck(b:Bool)(wh fr:ByteArray)(w:z7)(hf:fr.size<=1000000) :
  zE prog 107 #[.agg #[.bool b,.string wh,.string fr],.string ⟨#[116]⟩] w λe w'=>e = .returned (.tuple #[zv (uY (yE fr.data.toList)),zv [],.bool true])/\zJ w w':=by
 go_enter func107,ntmps107;go_wp2;go_loop [7] (λv=>∃t:ByteArray,v = .string t/\t.size<=1000000/\yE t.data.toList=yE fr.data.toList) (λv=>match v with |.string t=>t.size|_=>0)
 case atStart=>exact⟨fr,rfl,hf,rfl⟩
 case round =>
  obtain⟨t,rfl,ht,hp⟩:=hrel;have HP:=Z hp;clear hp;by_cases h0:t.size=0
  .have c:t.data.toList=[]:=zF Uh;have a:yE fr.data.toList=t.data.toList:=(by rw[<-HP.o,c];rfl);have HSH:=Z a;have d:¬0<t.size:=J;clear c a h0;exact ru
  .obtain⟨n,hn⟩:∃n,t.size=n+1:=⟨t.size - 1,J⟩;have ud:n<t.size:=(by omega);have c:t.data.toList=t.data.toList.take n++[t[n]]:=Ed;have HL:=Z c;have b1:yU.wrap ((t.size:Int) - 1)=(n:Int):=Q9;have b2:((t.size:Int) - 1)=(n:Int):=J;have d:0<t.size:=J;have f:=Z hn;clear c hn h0;by_cases hc:t[n]=48
   .exact JK
   .have Pn:((t[n].toNat:Int)==48)=false:=(by rw[show((48:Int))=(((48:UInt8).toNat:Nat):Int)from rfl,vZ];simpa using hc);have a:yE fr.data.toList=t.data.toList:=Eu;have HSH:=Z a;clear hc a b2;exact ru
def LJ(b:Bool)(wh fr c:ByteArray)(w:z7)(hf:fr.size<=1000000)(h1:¬c.data.toList=[110])(h2:¬c.data.toList=[105])(g:¬c.data.toList=[118])(h:¬c.data.toList=[119])(i:¬c.data.toList=[102])(j:¬c.data.toList=[116]) :
  zE prog 107 #[.agg #[.bool b,.string wh,.string fr],.string c] w λe w'=>e = .returned (.tuple #[zv [],zv [],.bool false])/\zJ w w':=by
 have q1:(c.toList==[110])=false:=by rw[uu];simpa using h1
 have q2:(c.toList==[105])=false:=by rw[uu];simpa using h2
 have m:(c.toList==[118])=false:=by rw[uu];simpa using g
 have o:(c.toList==[119])=false:=by rw[uu];simpa using h
 have p:(c.toList==[102])=false:=by rw[uu];simpa using i
 have q:(c.toList==[116])=false:=by rw[uu];simpa using j
 clear h1 h2 g h i j;go_enter func107,ntmps107;go_wp2;go_loop [7] (λv=>∃t:ByteArray,v = .string t/\t.size<=1000000) (λv=>match v with |.string t=>t.size|_=>0)
 case atStart=>exact⟨fr,rfl,hf⟩
 case round =>
  obtain⟨t,rfl,l⟩:=hrel;by_cases f:t.size=0
  .have a:¬0<t.size:=(by omega);clear f;exact oM
  .obtain⟨n,hn⟩:∃n,t.size=n+1:=⟨t.size - 1,J⟩;have k:n<t.size:=(by omega);have b1:yU.wrap ((t.size:Int) - 1)=(n:Int):=Q9;have b2:((t.size:Int) - 1)=(n:Int):=J;have a:0<t.size:=J;clear hn f;by_cases hc:t[n]=48
   .have d:((t[n].toNat:Int)==48)=true:=(by rw[hc];rfl);clear hc;go_wp2;exact⟨⟨t.extract 0 n,rfl,zV⟩,by show(t.extract 0 n).size<t.size;simp;omega⟩
   .have d:((t[n].toNat:Int)==48)=false:=(by rw[show((48:Int))=(((48:UInt8).toNat:Nat):Int)from rfl,vZ];simpa using hc);clear hc b2;exact oM
def JS{c:ByteArray}(h:c.data.toList=l):c=⟨l.toArray⟩:=by rw[<-h,Vw]
def Zi(b:Bool)(wh fr c:ByteArray)(w:z7)(hf:fr.size<=1000000) :
  zE prog 107 #[.agg #[.bool b,.string wh,.string fr],.string c] w (NN (uX wh.data.toList fr.data.toList c.data.toList) w):=by
 have sv:∀s:ByteArray,zv s.data.toList = .string s:=λs=>congrArg bJ (Vw s)
 by_cases h1:c.data.toList=[110]
 .rw[JS h1];refine(c8 b wh fr w hf).mono ?_;rintro e w1 ⟨rfl,hb⟩;refine⟨?_,hb⟩;show _=UK (.tuple #[zv wh.data.toList,zv fr.data.toList,.bool true]);rw[sv,sv]
 by_cases h2:c.data.toList=[105]
 .rw[JS h2];refine(cz b wh fr w hf).mono ?_;rintro e w1 ⟨rfl,hb⟩;refine⟨?_,hb⟩;show _=UK (.tuple #[zv wh.data.toList,zv [],.bool true]);rw[sv]
 by_cases a:c.data.toList=[118]
 .rw[JS a];exact(cy b wh fr w hf).mono λe w1 h=>⟨h.1,h.2⟩
 by_cases d:c.data.toList=[119]
 .rw[JS d];exact(cu b wh fr w hf).mono λe w1 h=>⟨h.1,h.2⟩
 by_cases f:c.data.toList=[102]
 .rw[JS f];exact(cq b wh fr w hf).mono λe w1 h=>⟨h.1,h.2⟩
 by_cases g:c.data.toList=[116]
 .rw[JS g];exact(ck b wh fr w hf).mono λe w1 h=>⟨h.1,h.2⟩
 refine(LJ b wh fr c w hf h1 h2 a d f g).mono ?_;rintro e w1 ⟨rfl,hb⟩;refine⟨?_,hb⟩;unfold uX;rw[zL h1,zL h2,zL a,zL d,zL f,zL g]
def zH(a b:List UInt8):Bool×Bool×Bool×Nat :=
 if a=[61]\/a=[105,110]then (false,false,false,1)else if a=[33,61]then (true,false,false,1)else if a=[119,105,116,104,105,110]then (false,true,false,1)
 else if a=[105,115]/\b=[110,111,116]then (true,false,true,2)else if a=[105,115]then (false,false,true,1)
 else if a=[110,111,116]/\b=[105,110]then (true,false,false,2)else if a=[110,111,116]/\b=[119,105,116,104,105,110]then (true,true,false,2)else (false,false,false,0)
def K8(x:yi)(n cap:Nat)(b:List UInt8)(w:z7)(hn:2<=n)(a:n<=1000000)(c:w.cell? x=some (zv [61]))(h1:zy w x.block (x.off+1) (zv b)) :
  zE prog 112 #[.slice (some x) n cap] w λe w'=>e = .returned (.tuple #[.bool (zH [61] b).1,.bool (zH [61] b).2.1,.bool (zH [61] b).2.2.1,.int .i64 (zH [61] b).2.2.2])/\w=w':=by
 have hf:zH [61] b=(false,false,false,1):=YU;have d:decide ((1:Int)<(n:Int))=true:=zV;have p1:(0:Int)<(n:Int):=J;have p2:(1:Int)<(n:Int):=J;have HF:=Z hf;clear hf;go_enter func112,ntmps112;go_wp2;refine zU (v := .tuple #[.bool false,.bool false,.bool false,.int .i64 1]) ?_ rfl ⟨uZ,rfl⟩;simp[yk,results112,go_sem]
def K9(x:yi)(n cap:Nat)(b:List UInt8)(w:z7)(hn:2<=n)(a:n<=1000000)(c:w.cell? x=some (zv [105,110]))(h1:zy w x.block (x.off+1) (zv b)) :
  zE prog 112 #[.slice (some x) n cap] w λe w'=>e = .returned (.tuple #[.bool (zH [105,110] b).1,.bool (zH [105,110] b).2.1,.bool (zH [105,110] b).2.2.1,.int .i64 (zH [105,110] b).2.2.2])/\w=w':=by
 have hf:zH [105,110] b=(false,false,false,1):=YU;have d:decide ((1:Int)<(n:Int))=true:=zV;have p1:(0:Int)<(n:Int):=J;have p2:(1:Int)<(n:Int):=J;have HF:=Z hf;clear hf;go_enter func112,ntmps112;go_wp2;refine zU (v := .tuple #[.bool false,.bool false,.bool false,.int .i64 1]) ?_ rfl ⟨uZ,rfl⟩;simp[yk,results112,go_sem]
def Kz(x:yi)(n cap:Nat)(b:List UInt8)(w:z7)(hn:2<=n)(a:n<=1000000)(c:w.cell? x=some (zv [33,61]))(h1:zy w x.block (x.off+1) (zv b)) :
  zE prog 112 #[.slice (some x) n cap] w λe w'=>e = .returned (.tuple #[.bool (zH [33,61] b).1,.bool (zH [33,61] b).2.1,.bool (zH [33,61] b).2.2.1,.int .i64 (zH [33,61] b).2.2.2])/\w=w':=by
 have hf:zH [33,61] b=(true,false,false,1):=YU;have d:decide ((1:Int)<(n:Int))=true:=zV;have p1:(0:Int)<(n:Int):=J;have p2:(1:Int)<(n:Int):=J;have HF:=Z hf;clear hf;go_enter func112,ntmps112;go_wp2;refine zU (v := .tuple #[.bool true,.bool false,.bool false,.int .i64 1]) ?_ rfl ⟨uZ,rfl⟩;simp[yk,results112,go_sem]
def V1(x:yi)(n cap:Nat)(b:List UInt8)(w:z7)(hn:2<=n)(a:n<=1000000)(c:w.cell? x=some (zv [119,105,116,104,105,110]))(h1:zy w x.block (x.off+1) (zv b)) :
  zE prog 112 #[.slice (some x) n cap] w λe w'=>e = .returned (.tuple #[.bool (zH [119,105,116,104,105,110] b).1,.bool (zH [119,105,116,104,105,110] b).2.1,.bool (zH [119,105,116,104,105,110] b).2.2.1,.int .i64 (zH [119,105,116,104,105,110] b).2.2.2])/\w=w':=by
 have hf:zH [119,105,116,104,105,110] b=(false,true,false,1):=YU;have d:decide ((1:Int)<(n:Int))=true:=zV;have p1:(0:Int)<(n:Int):=J;have p2:(1:Int)<(n:Int):=J;have HF:=Z hf;clear hf;go_enter func112,ntmps112;go_wp2;refine zU (v := .tuple #[.bool false,.bool true,.bool false,.int .i64 1]) ?_ rfl ⟨uZ,rfl⟩;simp[yk,results112,go_sem]
def Ky(x:yi)(n cap:Nat)(w:z7)(hn:2<=n)(a:n<=1000000)(b:w.cell? x=some (zv [105,115]))(h1:zy w x.block (x.off+1) (zv [110,111,116])) :
  zE prog 112 #[.slice (some x) n cap] w λe w'=>e = .returned (.tuple #[.bool (zH [105,115] [110,111,116]).1,.bool (zH [105,115] [110,111,116]).2.1,.bool (zH [105,115] [110,111,116]).2.2.1,.int .i64 (zH [105,115] [110,111,116]).2.2.2])/\w=w':=by
 have hf:zH [105,115] [110,111,116]=(true,false,true,2):=YU;have c:decide ((1:Int)<(n:Int))=true:=zV;have p1:(0:Int)<(n:Int):=J;have p2:(1:Int)<(n:Int):=J;have HF:=Z hf;clear hf;go_enter func112,ntmps112;go_wp2;refine zU (v := .tuple #[.bool true,.bool false,.bool true,.int .i64 2]) ?_ rfl ⟨uZ,rfl⟩;simp[yk,results112,go_sem]
def Qj(x:yi)(n cap:Nat)(b:List UInt8)(w:z7)(hn:2<=n)(d:n<=1000000)(f:w.cell? x=some (zv [105,115]))(h1:zy w x.block (x.off+1) (zv b))(a:¬b=[110,111,116]) :
  zE prog 112 #[.slice (some x) n cap] w λe w'=>e = .returned (.tuple #[.bool (zH [105,115] b).1,.bool (zH [105,115] b).2.1,.bool (zH [105,115] b).2.2.1,.int .i64 (zH [105,115] b).2.2.2])/\w=w':=by
 have hf:zH [105,115] b=(false,false,true,1):=by simp[zH,a]
 have c:(b==[110,111,116])=false:=by simpa using a
 clear a;have g:decide ((1:Int)<(n:Int))=true:=zV;have p1:(0:Int)<(n:Int):=J;have p2:(1:Int)<(n:Int):=J;have HF:=Z hf;clear hf;go_enter func112,ntmps112;go_wp2;refine zU (v := .tuple #[.bool false,.bool false,.bool true,.int .i64 1]) ?_ rfl ⟨uZ,rfl⟩;simp[yk,results112,go_sem]
def Kv(x:yi)(n cap:Nat)(w:z7)(hn:2<=n)(a:n<=1000000)(b:w.cell? x=some (zv [110,111,116]))(h1:zy w x.block (x.off+1) (zv [105,110])) :
  zE prog 112 #[.slice (some x) n cap] w λe w'=>e = .returned (.tuple #[.bool (zH [110,111,116] [105,110]).1,.bool (zH [110,111,116] [105,110]).2.1,.bool (zH [110,111,116] [105,110]).2.2.1,.int .i64 (zH [110,111,116] [105,110]).2.2.2])/\w=w':=by
 have hf:zH [110,111,116] [105,110]=(true,false,false,2):=YU;have c:decide ((1:Int)<(n:Int))=true:=zV;have p1:(0:Int)<(n:Int):=J;have p2:(1:Int)<(n:Int):=J;have HF:=Z hf;clear hf;go_enter func112,ntmps112;go_wp2;refine zU (v := .tuple #[.bool true,.bool false,.bool false,.int .i64 2]) ?_ rfl ⟨uZ,rfl⟩;simp[yk,results112,go_sem]
def V2(x:yi)(n cap:Nat)(w:z7)(hn:2<=n)(a:n<=1000000)(b:w.cell? x=some (zv [110,111,116]))(h1:zy w x.block (x.off+1) (zv [119,105,116,104,105,110])) :
  zE prog 112 #[.slice (some x) n cap] w λe w'=>e = .returned (.tuple #[.bool (zH [110,111,116] [119,105,116,104,105,110]).1,.bool (zH [110,111,116] [119,105,116,104,105,110]).2.1,.bool (zH [110,111,116] [119,105,116,104,105,110]).2.2.1,.int .i64 (zH [110,111,116] [119,105,116,104,105,110]).2.2.2])/\w=w':=by
 have hf:zH [110,111,116] [119,105,116,104,105,110]=(true,true,false,2):=YU;have c:decide ((1:Int)<(n:Int))=true:=zV;have p1:(0:Int)<(n:Int):=J;have p2:(1:Int)<(n:Int):=J;have HF:=Z hf;clear hf;go_enter func112,ntmps112;go_wp2;refine zU (v := .tuple #[.bool true,.bool true,.bool false,.int .i64 2]) ?_ rfl ⟨uZ,rfl⟩;simp[yk,results112,go_sem]
def UD(x:yi)(n cap:Nat)(b:List UInt8)(w:z7)(hn:2<=n)(f:n<=1000000)(h:w.cell? x=some (zv [110,111,116]))(h1:zy w x.block (x.off+1) (zv b))(c:¬b=[105,110])(a:¬b=[119,105,116,104,105,110]) :
  zE prog 112 #[.slice (some x) n cap] w λe w'=>e = .returned (.tuple #[.bool (zH [110,111,116] b).1,.bool (zH [110,111,116] b).2.1,.bool (zH [110,111,116] b).2.2.1,.int .i64 (zH [110,111,116] b).2.2.2])/\w=w':=by
 have hf:zH [110,111,116] b=(false,false,false,0):=by simp[zH,c,a]
 have g:(b==[105,110])=false:=by simpa using c
 have d:(b==[119,105,116,104,105,110])=false:=by simpa using a
 clear c a;have i:decide ((1:Int)<(n:Int))=true:=zV;have p1:(0:Int)<(n:Int):=J;have p2:(1:Int)<(n:Int):=J;have HF:=Z hf;clear hf;go_enter func112,ntmps112;go_wp2;refine zU (v := .tuple #[.bool false,.bool false,.bool false,.int .i64 0]) ?_ rfl ⟨uZ,rfl⟩;simp[yk,results112,go_sem]
def VG(x:yi)(n cap:Nat)(a:List UInt8)(b:List UInt8)(w:z7)(hn:2<=n)(f:n<=1000000)(k:w.cell? x=some (zv a))(h1:zy w x.block (x.off+1) (zv b))(neq:¬a=[61])(nin:¬a=[105,110])(nne:¬a=[33,61])(U7:¬a=[119,105,116,104,105,110])(nis:¬a=[105,115])(nnot:¬a=[110,111,116]) :
  zE prog 112 #[.slice (some x) n cap] w λe w'=>e = .returned (.tuple #[.bool (zH a b).1,.bool (zH a b).2.1,.bool (zH a b).2.2.1,.int .i64 (zH a b).2.2.2])/\w=w':=by
 have hf:zH a b=(false,false,false,0):=pq;have g:(a==[61])=false:=by simpa using neq
 have h:(a==[105,110])=false:=by simpa using nin
 have j:(a==[33,61])=false:=by simpa using nne
 have c:(a==[119,105,116,104,105,110])=false:=by simpa using U7
 have i:(a==[105,115])=false:=by simpa using nis
 have d:(a==[110,111,116])=false:=by simpa using nnot
 clear neq nin nne U7 nis nnot;have l:decide ((1:Int)<(n:Int))=true:=zV;have p1:(0:Int)<(n:Int):=J;have p2:(1:Int)<(n:Int):=J;have HF:=Z hf;clear hf;go_enter func112,ntmps112;go_wp2;refine zU (v := .tuple #[.bool false,.bool false,.bool false,.int .i64 0]) ?_ rfl ⟨uZ,rfl⟩;simp[yk,results112,go_sem]
def Ku(x:yi)(n cap:Nat)(w:z7)(hn:n=1)(a:w.cell? x=some (zv [61])) :
  zE prog 112 #[.slice (some x) n cap] w λe w'=>e = .returned (.tuple #[.bool (zH [61] []).1,.bool (zH [61] []).2.1,.bool (zH [61] []).2.2.1,.int .i64 (zH [61] []).2.2.2])/\w=w':=by
 have hf:zH [61] []=(false,false,false,1):=YU;subst hn;have HF:=Z hf;clear hf;go_enter func112,ntmps112;go_wp2;refine zU (v := .tuple #[.bool false,.bool false,.bool false,.int .i64 1]) ?_ rfl ⟨uZ,rfl⟩;simp[yk,results112,go_sem]
def Kq(x:yi)(n cap:Nat)(w:z7)(hn:n=1)(a:w.cell? x=some (zv [105,110])) :
  zE prog 112 #[.slice (some x) n cap] w λe w'=>e = .returned (.tuple #[.bool (zH [105,110] []).1,.bool (zH [105,110] []).2.1,.bool (zH [105,110] []).2.2.1,.int .i64 (zH [105,110] []).2.2.2])/\w=w':=by
 have hf:zH [105,110] []=(false,false,false,1):=YU;subst hn;have HF:=Z hf;clear hf;go_enter func112,ntmps112;go_wp2;refine zU (v := .tuple #[.bool false,.bool false,.bool false,.int .i64 1]) ?_ rfl ⟨uZ,rfl⟩;simp[yk,results112,go_sem]
def Kk(x:yi)(n cap:Nat)(w:z7)(hn:n=1)(a:w.cell? x=some (zv [33,61])) :
  zE prog 112 #[.slice (some x) n cap] w λe w'=>e = .returned (.tuple #[.bool (zH [33,61] []).1,.bool (zH [33,61] []).2.1,.bool (zH [33,61] []).2.2.1,.int .i64 (zH [33,61] []).2.2.2])/\w=w':=by
 have hf:zH [33,61] []=(true,false,false,1):=YU;subst hn;have HF:=Z hf;clear hf;go_enter func112,ntmps112;go_wp2;refine zU (v := .tuple #[.bool true,.bool false,.bool false,.int .i64 1]) ?_ rfl ⟨uZ,rfl⟩;simp[yk,results112,go_sem]
def V3(x:yi)(n cap:Nat)(w:z7)(hn:n=1)(a:w.cell? x=some (zv [119,105,116,104,105,110])) :
  zE prog 112 #[.slice (some x) n cap] w λe w'=>e = .returned (.tuple #[.bool (zH [119,105,116,104,105,110] []).1,.bool (zH [119,105,116,104,105,110] []).2.1,.bool (zH [119,105,116,104,105,110] []).2.2.1,.int .i64 (zH [119,105,116,104,105,110] []).2.2.2])/\w=w':=by
 have hf:zH [119,105,116,104,105,110] []=(false,true,false,1):=YU;subst hn;have HF:=Z hf;clear hf;go_enter func112,ntmps112;go_wp2;refine zU (v := .tuple #[.bool false,.bool true,.bool false,.int .i64 1]) ?_ rfl ⟨uZ,rfl⟩;simp[yk,results112,go_sem]
def Qg(x:yi)(n cap:Nat)(w:z7)(hn:n=1)(a:w.cell? x=some (zv [105,115])) :
  zE prog 112 #[.slice (some x) n cap] w λe w'=>e = .returned (.tuple #[.bool (zH [105,115] []).1,.bool (zH [105,115] []).2.1,.bool (zH [105,115] []).2.2.1,.int .i64 (zH [105,115] []).2.2.2])/\w=w':=by
 have hf:zH [105,115] []=(false,false,true,1):=YU;subst hn;have HF:=Z hf;clear hf;go_enter func112,ntmps112;go_wp2;refine zU (v := .tuple #[.bool false,.bool false,.bool true,.int .i64 1]) ?_ rfl ⟨uZ,rfl⟩;simp[yk,results112,go_sem]
def UB(x:yi)(n cap:Nat)(w:z7)(hn:n=1)(a:w.cell? x=some (zv [110,111,116])) :
  zE prog 112 #[.slice (some x) n cap] w λe w'=>e = .returned (.tuple #[.bool (zH [110,111,116] []).1,.bool (zH [110,111,116] []).2.1,.bool (zH [110,111,116] []).2.2.1,.int .i64 (zH [110,111,116] []).2.2.2])/\w=w':=by
 have hf:zH [110,111,116] []=(false,false,false,0):=YU;subst hn;have HF:=Z hf;clear hf;go_enter func112,ntmps112;go_wp2;refine zU (v := .tuple #[.bool false,.bool false,.bool false,.int .i64 0]) ?_ rfl ⟨uZ,rfl⟩;simp[yk,results112,go_sem]
def VF(x:yi)(n cap:Nat)(a:List UInt8)(w:z7)(hn:n=1)(i:w.cell? x=some (zv a))(neq:¬a=[61])(nin:¬a=[105,110])(nne:¬a=[33,61])(U7:¬a=[119,105,116,104,105,110])(nis:¬a=[105,115])(nnot:¬a=[110,111,116]) :
  zE prog 112 #[.slice (some x) n cap] w λe w'=>e = .returned (.tuple #[.bool (zH a []).1,.bool (zH a []).2.1,.bool (zH a []).2.2.1,.int .i64 (zH a []).2.2.2])/\w=w':=by
 have hf:zH a []=(false,false,false,0):=pq;have d:(a==[61])=false:=by simpa using neq
 have f:(a==[105,110])=false:=by simpa using nin
 have h:(a==[33,61])=false:=by simpa using nne
 have b:(a==[119,105,116,104,105,110])=false:=by simpa using U7
 have g:(a==[105,115])=false:=by simpa using nis
 have c:(a==[110,111,116])=false:=by simpa using nnot
 clear neq nin nne U7 nis nnot;subst hn;have HF:=Z hf;clear hf;go_enter func112,ntmps112;go_wp2;refine zU (v := .tuple #[.bool false,.bool false,.bool false,.int .i64 0]) ?_ rfl ⟨uZ,rfl⟩;simp[yk,results112,go_sem]
def Da(v:zx)(ws:List (List UInt8))(w:z7)(h:yM w v ws)(hw:ws.length<=1000000)(j:ws≠[]) :
  zE prog 112 #[v] w λe w' =>
   e = .returned (.tuple #[.bool (zH (ws.getD 0 []) (ws.getD 1 [])).1,.bool (zH (ws.getD 0 []) (ws.getD 1 [])).2.1,.bool (zH (ws.getD 0 []) (ws.getD 1 [])).2.2.1,.int .i64 (zH (ws.getD 0 []) (ws.getD 1 [])).2.2.2])/\w=w':=by
 obtain⟨a,cap,rfl,i,hm,m,hc⟩:=h;match ws,j,hw,i,hc with
 |[x],_,hw,i,hc =>
  obtain⟨y,rfl,c0⟩:=hc 0 zY;have b:w.cell? y=some (zv x):=by simpa[xM]using c0
  show zE _ _ _ _ (λe w'=>e = .returned (.tuple #[.bool (zH x []).1,.bool (zH x []).2.1,.bool (zH x []).2.2.1,.int .i64 (zH x []).2.2.2])/\w=w');by_cases k1:x=[61]
  .subst k1;exact Ku y _ cap w rfl b
  by_cases k2:x=[105,110]
  .subst k2;exact Kq y _ cap w rfl b
  by_cases k3:x=[33,61]
  .subst k3;exact Kk y _ cap w rfl b
  by_cases k4:x=[119,105,116,104,105,110]
  .subst k4;exact V3 y _ cap w rfl b
  by_cases d:x=[105,115]
  .subst d;exact Qg y _ cap w rfl b
  by_cases f:x=[110,111,116]
  .subst f;exact UB y _ cap w rfl b
  exact VF y _ cap x w rfl b k1 k2 k3 k4 d f
 |x::z::t,_,hw,i,hc =>
  obtain⟨y,hy,c0⟩:=hc 0 zY;obtain⟨y2,k,c1⟩:=hc 1 zY;subst hy;obtain rfl:=zR k;have b:w.cell? y=some (zv x):=by simpa[xM]using c0
  have c:zy w y.block (y.off+1) (zv z):=by simpa[xM]using c1
  have g2:2<=(x::z::t).length:=zY;show zE _ _ _ _ (λe w'=>e = .returned (.tuple #[.bool (zH x z).1,.bool (zH x z).2.1,.bool (zH x z).2.2.1,.int .i64 (zH x z).2.2.2])/\w=w');clear hc i c0 c1;generalize (x::z::t).length=n at *;by_cases k1:x=[61]
  .subst k1;exact K8 y n cap z w g2 hw b c
  by_cases k2:x=[105,110]
  .subst k2;exact K9 y n cap z w g2 hw b c
  by_cases k3:x=[33,61]
  .subst k3;exact Kz y n cap z w g2 hw b c
  by_cases k4:x=[119,105,116,104,105,110]
  .subst k4;exact V1 y n cap z w g2 hw b c
  by_cases d:x=[105,115]
  .subst d;by_cases g:z=[110,111,116]
   .subst g;exact Ky y n cap w g2 hw b c
   .exact Qj y n cap z w g2 hw b c g
  by_cases f:x=[110,111,116]
  .subst f;by_cases g:z=[105,110]
   .subst g;exact Kv y n cap w g2 hw b c
   by_cases l:z=[119,105,116,104,105,110]
   .subst l;exact V2 y n cap w g2 hw b c
   .exact UD y n cap z w g2 hw b c g l
  exact VG y n cap x z w g2 hw b c k1 k2 k3 k4 d f
end Go.Proofs.YtfcemhlpdcnckaaGreatDoor
namespace Go.Proofs.YtfcemhlpdcnckaaGreatDoor
open Go
set_option maxRecDepth 10000
abbrev Dg:=List UInt8×List UInt8
def vz:List Wd->Option (Wd×Wd)
 |[x]=>if vW x=true then some (x,x)else none
 |[x,d,y]=>if d=[46,46]/\vW x=true/\vW y=true/\¬0<cmpL x y then some (x,y)else none
 |_=>none
def lf(within:Bool)(a:Wd)(broken:Bool)(lo hi:Wd):Bool :=
 decide (0<=cmpL a lo) && ((decide (cmpL a hi<0) ||(decide (cmpL a hi=0) && !broken)) && (within || !broken))
def CB(f:Wd):Bool:=f.any (· != 48)
def yN(within:Bool)(a:Wd)(broken:Bool):List (List Wd)->Bool->Option Bool
 |[],b=>some b
 |r::rs,b=>match vz r with
  |none=>none
  |some q=>yN within a broken rs (b ||lf within a broken q.1 q.2)
def uj(l:List Wd)(a f:Wd)(within one:Bool):Option Bool :=
 if one=true/\¬((yY [44] l).length=1/\((yY [44] l).headD []).length=1)then none
 else yN within a (CB f) (yY [44] l) false
def Y5(w:Wd):Bool:=w==[109,111,100] ||w==[37]
def xm(l:List Wd)(a f:Wd):Option Bool :=
 match zH (l.getD 0 []) (l.getD 1 []) with
 |(nt,wi,one,n)=>if n=0 then none else (uj (l.drop n) a f wi one).map (λb=>b !=nt)
def bN(l:List Wd)(x:Dg):Option Bool :=
 if l.length<3 then none
 else match uX x.1 x.2 (l.headD []) with
  |none=>none
  |some (a,f) =>
   if Y5 (l.getD 1 []) then
    if vW (l.getD 2 [])=true/\l.getD 2 []≠[48]/\5<=l.length then xm (l.drop 3) (xv (j9 a (xG (l.getD 2 [])))) f else none
   else xm (l.drop 1) a f
def kU(x:Dg):List (List Wd)->Bool->Option Bool
 |[],b=>some b
 |s::t,b=>match bN s x with
  |none=>none
  |some h=>kU x t (b && h)
def gI(x:Dg):List (List Wd)->Bool->Option Bool
 |[],b=>some b
 |o::t,b=>match kU x (yY [97,110,100] o) true with
  |none=>none
  |some h=>gI x t (b ||h)
def JT(s:List UInt8)(x:Dg):Option Bool :=
 if 200<s.length then none else match Y6 s with
 |none=>none
 |some ws=>gI x (yY [111,114] ws) false
abbrev gx:=Dg->Bool
def Zg(w:Wd)(ws:List Wd):Bool:=ws.head? == some w
def uE:List Wd->Option (Nat×List Wd)
 |[]=>none
 |w::t=>if vW w=true then some (xG w,t)else none
def Fg(x:Dg)(v:Nat):Int :=
 if cmpL x.1 (xv v)<0 then -1 else if 0<cmpL x.1 (xv v)\/CB x.2=true then 1 else 0
def uA(a b:Nat)(broken:Bool):gx:=λx=>decide (0<=Fg x a) && (decide (Fg x b<=0) && (broken || !(CB x.2)))
def fN(ws:List Wd):Option ((Nat×Nat)×List Wd) :=
 match uE ws with
 |none=>none
 |some (a,t) =>
  if Zg [46,46] t then
   match uE t.tail with
   |none=>none
   |some (b,u)=>if b<a then none else some ((a,b),u)
  else some ((a,a),t)
def vQ(within:Bool):Nat->List gx->List Wd->Option (List gx×List Wd)
 | 0,_,_=>none
 |n+1,acc,ws=>match fN ws with
  |none=>none
  |some (q,t)=>if Zg [44] t then vQ within n (acc++[uA q.1 q.2 within]) t.tail else some (acc++[uA q.1 q.2 within],t)
def gv(l:List gx):gx:=λx=>l.any (λt=>t x)
def allT(l:List gx):gx:=λx=>l.all (λt=>t x)
abbrev Parser:=List Wd->Option (gx×List Wd)
def qF(within:Bool):Parser:=λws=>(vQ within (ws.length+1) [] ws).map λq=>(gv q.1,q.2)
def ya(ws:List Wd):Option ((gx×Bool)×List Wd) :=
 if Zg [61] ws then (qF false ws.tail).map λq=>((q.1,false),q.2)
 else if Zg [33,61] ws then (qF false ws.tail).map λq=>((q.1,true),q.2)
 else if Zg [105,115] ws then
  (uE (if Zg [110,111,116] ws.tail then ws.tail.tail else ws.tail)).map λq=>((uA q.1 q.1 false,Zg [110,111,116] ws.tail),q.2)
 else
  let nt:=Zg [110,111,116] ws
  let u:=if nt then ws.tail else ws
  if Zg [119,105,116,104,105,110] u then (qF true u.tail).map λq=>((q.1,nt),q.2)
  else if Zg [105,110] u then (qF false u.tail).map λq=>((q.1,nt),q.2)
  else none
def xF(c:Wd):Option (Dg->Dg) :=
 if c=[110]then some (λx=>x)else if c=[105]then some (λx=>(uY x.1,[]))else if c=[118]then some (λx=>(xv x.2.length,[]))
 else if c=[119]then some (λx=>(xv (yE x.2).length,[]))else if c=[102]then some (λx=>(uY x.2,[]))
 else if c=[116]then some (λx=>(uY (yE x.2),[]))else none
def RI(of:Dg->Dg)(m:Nat):Dg->Dg:=λx=>(xv (j9 (of x).1 m),(of x).2)
def Us(of:Dg->Dg)(t:List Wd):Option ((Dg->Dg)×List Wd) :=
 if Y5 (t.headD []) then
  match uE t.tail with
  |none=>none
  |some (m,u)=>if m=0 then none else some (RI of m,u)
 else some (of,t)
def bI:Parser
 |[]=>none
 |w::t=>match xF w with
  |none=>none
  |some of=>match Us of t with
   |none=>none
   |some (of',u)=>match ya u with
    |none=>none
    |some ((i,nt),v)=>some ((λx=>i (of' x) !=nt),v)
def qs(word:Wd)(one:Parser):Nat->List gx->List Wd->Option (List gx×List Wd)
 | 0,_,_=>none
 |n+1,acc,ws=>match one ws with
  |none=>none
  |some (T,t)=>if Zg word t then qs word one n (acc++[T]) t.tail else some (acc++[T],t)
def Dc(word:Wd)(tog:List gx->gx)(one:Parser):Parser:=λws=>(qs word one (ws.length+1) [] ws).map λq=>(tog q.1,q.2)
def De:Parser:=Dc [97,110,100] allT bI
def pOr:Parser:=Dc [111,114] gv De
def yJ(c:UInt8):Nat:=if 97<=c.toNat/\c.toNat<=122 then 3 else if 48<=c.toNat/\c.toNat<=57 then 2 else if c.toNat=32 then 1 else 0
def XT:List UInt8->Option Wd
 | 33::61::_=>some [33,61]
 | 46::46::_=>some [46,46]
 | 61::_=>some [61]
 | 44::_=>some [44]
 | 37::_=>some [37]
 |_=>none
def jh:Nat->List (Wd)->List UInt8->Option (List Wd)
 |_,acc,[]=>some acc
 | 0,_,_::_=>none
 |n+1,acc,c::t=>match XT (c::t) with
  |some g=>jh n (acc++[g]) ((c::t).drop g.length)
  |none =>
   if yJ c=0 then none
   else jh n (if yJ c=1 then acc else acc++[c::t.takeWhile (λd=>yJ d==yJ c)]) (t.dropWhile (λd=>yJ d==yJ c))
def LG(s:List UInt8):Option (List Wd):=jh (s.length+1) [] (s.take (s.idxOf 64))
def VD(s:List UInt8):Option gx :=
 if 200<s.length then none else match LG s with
 |none=>none
 |some ws=>match pOr ws with
  |some (T,[])=>some T
  |_=>none
end Go.Proofs.YtfcemhlpdcnckaaGreatDoor
namespace Go.Proofs.YtfcemhlpdcnckaaGreatDoor
open Go
set_option maxRecDepth 10000
variable{k:Nat}
def NO(k:Nat):Nat:=if k=1 then 3 else if k=2 then 2 else if k=3 then 1 else 0
def Qf(c:UInt8):yJ c=NO (xU c):=by
 unfold yJ xU NO;split
 .rfl
 split
 .rfl
 split
 .rfl
 .rfl
def zgz{a b:Nat}(ha:a<=3)(hb:b<=3)(h:NO a=NO b):a=b:=by
 unfold NO at h;rcases (by omega:a=0\/a=1\/a=2\/a=3)with rfl|rfl|rfl|rfl<;>rcases (by omega:b=0\/b=1\/b=2\/b=3)with rfl|rfl|rfl|rfl<;>simp_all
def cj(d c:UInt8):(yJ d==yJ c)=(xU d==xU c):=by
 rw[Qf,Qf,vF,beq_iff_eq,beq_iff_eq];exact⟨zgz (K5 d) (K5 c),λh=>by rw[h]⟩
def GD:∀(t:List UInt8) (out:List Wd),xL t out 3=xL (t.dropWhile (λd=>xU d==3)) out 3
 |[],_=>rfl
 |c::t,out=>by
  by_cases h:xU c=3
  .rw[go_blank h,GD t out,kj Uw]
  .rw[uS Uw]
def cd(out:List Wd)(w:Wd)(c:UInt8):GF (out++[w]) c=out++[w++[c]]:=by
 unfold GF;simp
def JW(b:k≠3)(a:0<k):∀(t:List UInt8) (out:List Wd) (w:Wd),
  xL t (out++[w]) k=xL (t.dropWhile (λd=>xU d==k)) (out++[w++t.takeWhile (λd=>xU d==k)]) k
 |[],_,_=>zY
 |c::t,out,w=>by
  by_cases h:xU c=k
  .rw[go_join (by rw[h];exact b) ⟨by rw[h];exact a,h⟩,cd,h,JW b a t out (w++[c]),kj Uw,Un (by simp[h])];simp
  .rw[uS Uw,kR (by simp[h])];simp
def EG{p:UInt8->Bool}:∀{t u:List UInt8} {c:UInt8},t.dropWhile p=c::u->p c=false
 |[],_,_,h=>xp
 |d::t,u,c,h=>by
  by_cases hd:p d=true
  .rw[kj hd]at h;exact EG h
  .rw[uS hd]at h;cases h;simpa using hd
def Di(p:UInt8->Bool)(t:List UInt8):(t.dropWhile p).length<=t.length:=(dh p).length_le
def cb{c:UInt8}{t:List UInt8}(h:XT (c::t)=none):¬(c=61\/c=44\/c=37)/\∀d u,t=d::u->¬((c=33/\d=61)\/(c=46/\d=46)):=by
 constructor
 .rintro(rfl|rfl|rfl)<;>simp[XT]at h
 .rintro d u rfl (⟨rfl,rfl⟩|⟨rfl,rfl⟩)<;>simp[XT]at h
def U9{c:UInt8}(h:c=61\/c=44\/c=37\/c=33\/c=46):xU c=0:=by
 rcases h with rfl|rfl|rfl|rfl|rfl<;>decide
def bl:∀(n:Nat) (l:List UInt8) (acc:List Wd) (last:Nat),l.length<n->(∀c t,l=c::t->xU c=1\/xU c=2->xU c≠last)->jh n acc l=xL l acc last
 | 0,_,_,_,h,_=>absurd h (uf _)
 |n+1,[],acc,last,_,_=>by rw[jh,xL]
 |n+1,c::t,acc,last,hl,b=>by
  rw[zm]at hl;cases hs:XT (c::t) with
  |some g =>
   rw[jh,hs];dsimp only;unfold XT at hs;split at hs
   .exact sS
   .exact sS
   .rename_i u heq;cases heq;cases hs;have e:=U9 (c:=61) zY;exact S7
   .rename_i u heq;cases heq;cases hs;have e:=U9 (c:=44) zY;exact S7
   .rename_i u heq;cases heq;cases hs;have e:=U9 (c:=37) zY;exact S7
   .cases hs
  |none =>
   obtain⟨f,j⟩:=cb hs;have i:=K5 c;rw[jh,hs];dsimp only;have hp:(λd=>yJ d==yJ c)=(λd=>xU d==xU c):=funext λd=>cj d c
   rw[hp,Qf];rcases (by omega:xU c=0\/xU c=1\/xU c=2\/xU c=3)with e|e|e|e
   .rw[e,zl zj];cases t with
    |nil=>rw[go_bad1 e f]
    |cons d u=>rw[go_bad e f (j d u rfl)]
   .rw[e,zL zj,zL (by decide)];have a:=b c t rfl J;rw[go_one J (λq=>a q.2) (.inl J),e,JW (by decide) (by decide)];exact bl n _ _ 1 (by have:=Di (λd=>xU d==1) t;omega) (λd u hd _=>Su)
   .rw[e,zL zj,zL (by decide)];have a:=b c t rfl J;rw[go_one J (λq=>a q.2) (.inl J),e,JW (by decide) (by decide)];exact bl n _ _ 2 (by have:=Di (λd=>xU d==2) t;omega) (λd u hd _=>Su)
   .rw[e,zL zj,zl zj,go_blank e,GD];exact bl n _ _ 3 (by have:=Di (λd=>xU d==3) t;omega) (λd u hd _=>Su)
def Aq(s:List UInt8):LG s=Y6 s:=by
 unfold LG Y6;refine bl _ _ _ _ zV (λc t h a=>?_);omega
end Go.Proofs.YtfcemhlpdcnckaaGreatDoor
namespace Go.Proofs.YtfcemhlpdcnckaaGreatDoor
open Go
set_option maxRecDepth 10000
variable{l:List UInt8}
def cZ(l:List UInt8):∀a:Nat,l.foldl (λv c=>10*v+(c.toNat - 48)) a=a*10 ^ l.length+xG l:=by
 induction l with
 |nil=>intro a;simp[xG]
 |cons c t b =>
  intro a;unfold xG;rw[QA,QA,b,b,zm,Nat.pow_succ,Nat.mul_zero,V9,ze9,jo];congr 1;rw[Nat.mul_comm 10 a,Nat.mul_assoc,Nat.mul_comm 10]
def JA(c:UInt8)(t:List UInt8):xG (c::t)=(c.toNat - 48)*10 ^ t.length+xG t:=by
 show(c::t).foldl (λv c=>10*v+(c.toNat - 48)) 0=_;rw[QA,cZ];simp
structure CC(l:List UInt8):Prop where
 dig:l.all yn=true
 ne:l≠[]
 lead:l.length=1\/l.headD 0≠48
def CC.of(h:vW l=true):CC l/\l.length<=9:=by
 simp only[vW,qU,zQ,gj,qP,ypz]at h;refine⟨⟨h.1.1,λe=>?_,h.2.2⟩,h.2.1⟩;rw[e]at h;exact absurd h.1.2 zj
def NP{c:UInt8}{t:List UInt8}(hc:yn c=true)(h:c≠48):10 ^ t.length<=xG (c::t):=by
 rw[JA];have h1:=(xe c).1 hc;have h2:c.toNat≠48:=λe=>h (Ul.1 (by rw[e];rfl))
 have:1*10 ^ t.length<=(c.toNat - 48)*10 ^ t.length:=MI _ J;omega
def NR{c:UInt8}(hc:yn c=true):Yd (c.toNat - 48)=c:=by
 have h1:=(xe c).1 hc;unfold Yd;apply Ul.1;rw[vO];omega
def cY:∀(n:Nat) (l:List UInt8),l.length=n->CC l->xv (xG l)=l:=by
 intro n;induction n with
 |zero=>intro l d h;exact absurd (zF d) h.ne
 |succ n i =>
  intro l d h;obtain⟨t,c,rfl⟩:∃t c,l=t++[c]:=⟨l.dropLast,l.getLast h.ne,Rx⟩;have hd:=h.dig;rw[ie,zQ]at hd;have hc:yn c=true:=by simpa using hd.2
  have h1:=(xe c).1 hc;rw[JR];by_cases f:t=[]
  .subst f;have:(10*xG []+(c.toNat - 48))=c.toNat - 48:=(by simp[xG]);rw[this,qx J,NR hc];rfl
  .have b:t.length=n:=(by simpa using d);have a:(t++[c]).headD 0≠48:=by
    rcases h.lead with q|q
    .exact absurd (zF (by simpa using q)) f
    .exact q
   obtain⟨e,u,rfl⟩:∃e u,t=e::u:=(by cases t with|nil=>exact absurd rfl f|cons e u=>exact⟨e,u,rfl⟩);have he:e≠48:=(by simpa using a);have FD:yn e=true:=(by have:=hd.1;simp at this;exact this.1);have g:=NP (t:=u) FD he;have:0<10 ^ u.length:=Nat.pow_pos zj;rw[dR J,show(10*xG (e::u)+(c.toNat - 48)) / 10=xG (e::u)by omega,show(10*xG (e::u)+(c.toNat - 48)) % 10=c.toNat - 48 by omega,NR hc,
    i (e::u) b ⟨hd.1,zY,.inr (by simpa using he)⟩]
def CC.val(h:CC l):xv (xG l)=l:=cY _ l rfl h
def GB{x y:List UInt8}(hx:CC x)(hy:CC y)(h:x.length<y.length):xG x<xG y:=by
 have h1:=Uz x hx.dig;obtain⟨c,t,rfl⟩:∃c t,y=c::t:=by cases y with|nil=>exact absurd rfl hy.ne|cons e u=>exact⟨e,u,rfl⟩
 have a:0<x.length:=xI.2 hx.ne;have hc:c≠48:=by
  rcases hy.lead with q|q
  .rw[q]at h;omega
  .simpa using q
 have hd:=hy.dig;simp only[kP,zQ]at hd;have h2:=NP (t:=t) hd.1 hc;have b:10 ^ x.length<=10 ^ t.length:=zux zj (by simp at h;omega);omega
def US:∀(x y:List UInt8),x.length=y.length->x.all yn=true->y.all yn=true->(gV x y=true ↔ xG x<xG y)
 |[],[],_,_,_=>by simp[gV,xG]
 |c::x,d::y,hl,hx,hy=>by
  simp only[kP,zQ]at hx hy;have a:x.length=y.length:=JB;have h:=US x y a hx.2 hy.2;have h1:=(xe c).1 hx.1;have h2:=(xe d).1 hy.1;have i:=Uz x hx.2;have b:=Uz y hy.2;rw[JA,JA,<-a];rw[<-a]at b;rw[gV,gj,qP,zQ,beq_iff_eq,h,UInt8.lt_iff_toNat_lt];generalize 10 ^ x.length=p at *;constructor
  .rintro(q|⟨rfl,q⟩)
   .have:(c.toNat - 48+1)*p<=(d.toNat - 48)*p:=MI _ J;rw[ze9]at this;omega
   .omega
  .intro q;by_cases f:c.toNat<d.toNat
   .exact .inl f
   .by_cases FD:c=d
    .subst FD;exact .inr ⟨rfl,J⟩
    .exfalso;have g:c.toNat≠d.toNat:=λe=>FD (Ul.1 e)
     have:(d.toNat - 48+1)*p<=(c.toNat - 48)*p:=MI _ J;rw[ze9]at this;omega
def zgy{x y:List UInt8}(hx:CC x)(hy:CC y):0<cmpL x y ↔ xG y<xG x:=by
 unfold cmpL;by_cases h1:x.length<y.length
 .rw[zl (.inl h1)];have:=GB hx hy h1;exact Ip
 .by_cases h2:x.length=y.length
  .have hb:=US x y h2 hx.dig hy.dig;by_cases a:gV x y=true
   .rw[zl (.inr ⟨h2,a⟩)];have:=hb.1 a;exact Ip
   .rw[zL (λq=>q.elim h1 (λq=>a q.2))];have hn:¬xG x<xG y:=λq=>a (hb.2 q)
    by_cases b:x=y
    .rw[zl b,b];simp
    .rw[zL b];have:xG x≠xG y:=λe=>b (by rw[<-hx.val,<-hy.val,e])
     exact Ip
  .have:=GB hy hx J;rw[zL (λq=>q.elim h1 (λq=>h2 q.1)),zL (λe=>h2 (by rw[e]))];exact Ip
def Ja(x y:List UInt8):cmpL x y = -1\/cmpL x y=0\/cmpL x y=1:=by
 unfold cmpL;split
 .exact .inl rfl
 split
 .exact .inr (.inl rfl)
 .exact .inr (.inr rfl)
def LD(wi:Bool)(a f lo hi:List UInt8)(c:CC lo)(b:CC hi):lf wi a (CB f) lo hi=uA (xG lo) (xG hi) wi (a,f):=by
 unfold lf uA Fg;dsimp only;rw[c.val,b.val];cases CB f<;>cases wi<;>rcases Ja a lo with q|q|q<;>rcases Ja a hi with r|r|r<;>rw[q,r]<;>decide
end Go.Proofs.YtfcemhlpdcnckaaGreatDoor
namespace Go.Proofs.YtfcemhlpdcnckaaGreatDoor
open Go
set_option maxRecDepth 10000
variable{Vx:List Wd}{α β:Type}
abbrev tu:Wd:=[97,110,100]
abbrev wOr:Wd:=[111,114]
abbrev kQ:Wd:=[44]
def ZI{α:Type}(R:Option (α×List Wd))(Vx rest:List Wd)(xqk:α->Prop)(bad:Prop):Prop :=
 (∃a,R=some (a,rest)/\xqk a)\/(bad/\(R=none\/∃a h t,h∈Vx/\R=some (a,h::(t++rest))))
def ZI.imp{R:Option (α×List Wd)}{rest:List Wd}{g g':α->Prop}{b c:Prop}(h:ZI R Vx rest g b)(d:∀a,g a->g' a)(hb:b->c):ZI R Vx rest g' c:=by
 rcases h with⟨a,r,q⟩|⟨q,r⟩
 .exact .inl ⟨a,r,d a q⟩
 .exact .inr ⟨hb q,r⟩
def ZI.wider{R:Option (α×List Wd)}{c rest:List Wd}{g:α->Prop}{b:Prop}(h:ZI R Vx rest g b)(hs:∀x∈Vx,x∈c):ZI R c rest g b:=by
 rcases h with h|⟨q,r|⟨a,h,t,hm,r⟩⟩
 .exact .inl h
 .exact .inr ⟨q,.inl r⟩
 .exact .inr ⟨q,.inr ⟨a,h,t,hs h hm,r⟩⟩
def ZI.map{R:Option (α×List Wd)}{rest:List Wd}{g:α->Prop}{b:Prop}(f:α->β){g':β->Prop}(h:ZI R Vx rest g b)(c:∀a,g a->g' (f a)) :
  ZI (R.map λq=>(f q.1,q.2)) Vx rest g' b:=by
 rcases h with⟨a,r,q⟩|⟨q,r|⟨a,h,t,hm,r⟩⟩
 .exact .inl ⟨f a,by rw[r];rfl,c a q⟩
 .exact .inr ⟨q,.inl (by rw[r];rfl)⟩
 .exact .inr ⟨q,.inr ⟨f a,h,t,hm,by rw[r];rfl⟩⟩
def Stop(rest:List Wd):Prop:=∀c,rest.head? = some c->c=tu\/c=wOr
def Ak(rest:List Wd):Prop:=∀c,rest.head? = some c->c=kQ\/c=tu\/c=wOr
def Stop.three{rest:List Wd}(h:Stop rest):Ak rest:=λc hc => .inr (h c hc)
def Zf{w:Wd}{rest:List Wd}(h:Ak rest)(h1:w≠kQ)(h2:w≠tu)(a:w≠wOr):Zg w rest=false:=by
 unfold Zg;cases rest with
 |nil=>rfl
 |cons c t =>
  have:=h c rfl;simp only[ZR,beq_eq_false_iff_ne,ne_eq,vw];rintro rfl;rcases this with q|q|q
  .exact h1 q
  .exact h2 q
  .exact a q
def cX{rest:List Wd}(h:Stop rest):Zg kQ rest=false:=by
 unfold Zg;cases rest with
 |nil=>rfl
 |cons c t =>
  have:=h c rfl;simp only[ZR,beq_eq_false_iff_ne,ne_eq,vw];rintro rfl;rcases this with q|q<;>exact absurd q zj
def Kj{rest:List Wd}(h:Ak rest):uE rest=none:=by
 cases rest with
 |nil=>rfl
 |cons c t =>
  have:=h c rfl;have:vW c=false:=by rcases this with rfl|rfl|rfl<;>decide
  simp[uE,this]
def vy(w c:Wd)(t:List Wd):Zg w (c::t)=(c==w):=by
 unfold Zg;rw[ZR,vF];simp
def UT{m:Wd}:∀(s cur:List Wd),m ∉ s->xR m cur s=[cur++s]
 |[],cur,_=>by simp[xR]
 |c::t,cur,h=>by
  have hc:¬c=m:=λe=>h (by simp[e])
  rw[xR,zL hc,UT t _ (λq=>h (by simp[q]))];simp
def Kg{m:Wd}(r:List Wd):∀(s cur:List Wd),m ∉ s->xR m cur (s++m::r)=(cur++s)::xR m [] r
 |[],cur,_=>by simp[xR]
 |c::t,cur,h=>by
  have hc:¬c=m:=λe=>h (by simp[e])
  rw[yw,xR,zL hc,Kg r t _ (λq=>h (by simp[q]))];simp
def dv{m:Wd}{s:List Wd}(h:m ∉ s):yY m s=[s]:=by
 unfold yY;rw[UT s [] h];rfl
def Ux{m:Wd}{s:List Wd}(r:List Wd)(h:m ∉ s):yY m (s++m::r)=s::yY m r:=by
 unfold yY;rw[Kg r s [] h];rfl
def NS(s rest:List Wd)(hs:kQ ∉ s)(hr:Ak rest) :
  ZI (fN (s++rest)) s rest (λq=>∃lo hi,vz s=some (lo,hi)/\CC lo/\CC hi/\q=(xG lo,xG hi)) (vz s=none):=by
 have c:Zg [46,46] rest=false:=Zf hr zj zj zj;match s,hs with
 |[],_=>exact .inr ⟨rfl,.inl (by simp[fN,Kj hr])⟩
 |[x],_ =>
  by_cases hx:vW x=true
  .refine .inl ⟨(xG x,xG x),?_,x,x,by simp[vz,hx],(CC.of hx).1,(CC.of hx).1,rfl⟩;simp[fN,uE,hx,c]
  .exact .inr ⟨by simp[vz,hx],.inl (by simp[fN,uE,hx])⟩
 |x::d::u,hs =>
  by_cases hx:vW x=true
  .by_cases hd:d=[46,46]
   .subst hd;have hp:fN (x::[46,46]::u++rest)=match uE (u++rest) with
      |none=>none
      |some (b,u)=>if b<xG x then none else some ((xG x,b),u):=by
     simp[fN,uE,hx,vy]<;>rfl
    rw[hp];match u with
    |[]=>exact .inr ⟨rfl,.inl (by simp[Kj hr])⟩
    |[y] =>
     by_cases hy:vW y=true
     .have f:=(CC.of hx).1;have g:=(CC.of hy).1;have hc:=zgy f g;by_cases ud:xG y<xG x
      .refine .inr ⟨?_,.inl Ir⟩;have e:=hc.2 ud;simp only[vz];rw[zL (λq=>q.2.2.2 e)]
      .refine .inl ⟨(xG x,xG y),Ir,x,y,?_,f,g,rfl⟩;have e:cmpL x y<=0:=by
        have:¬0<cmpL x y:=λq=>ud (hc.1 q)
        omega
       simp[vz,hx,hy,e]
     .refine .inr ⟨?_,.inl (by simp[uE,hy])⟩;simp only[vz];rw[zL (λq=>hy q.2.2.1)]
    |y::z::v =>
     refine .inr ⟨by simp[vz],?_⟩;by_cases hy:vW y=true
     .by_cases ud:xG y<xG x
      .exact .inl Ir
      .exact .inr ⟨(xG x,xG y),z,v,zY,Ir⟩
     .exact .inl (by simp[uE,hy])
   .have a:vz (x::d::u)=none:=by
     match u with
     |[]=>rfl
     |[y]=>simp only[vz];rw[zL (λq=>hd q.1)]
     |y::z::v=>rfl
    refine .inr ⟨a,.inr ⟨(xG x,xG x),d,u,zY,?_⟩⟩;simp[fN,uE,hx,vy,hd]
  .have a:vz (x::d::u)=none:=by
    match u with
    |[]=>rfl
    |[y]=>simp only[vz];rw[zL (λq=>hx q.2.1)]
    |y::z::v=>rfl
   exact .inr ⟨a,.inl (by simp[fN,uE,hx])⟩
def Uv(m:Wd)(l:List Wd):m ∉ l\/∃s r,l=s++m::r/\m ∉ s:=by
 by_cases h:m∈l
 .obtain⟨s,r,h1,h2⟩:=List.eq_append_cons_of_mem h;exact .inr ⟨s,r,h1,h2⟩
 .exact .inl h
def NT(wi:Bool):∀(n:Nat) (l rest:List Wd) (acc:List gx),l.length<n->Stop rest ->
  ZI (vQ wi n acc (l++rest)) l rest (λts=>∃new,ts=acc++new/\∀a f b,yN wi a (CB f) (yY kQ l) b=some (b ||new.any (λt=>t (a,f))))
   (∀a f b,yN wi a (CB f) (yY kQ l) b=none)
 | 0,_,_,_,h,_=>absurd h (uf _)
 |n+1,l,rest,acc,hl,hr=>by
  rcases Uv kQ l with hc|⟨s,r,rfl,hs⟩
  .have hi:=NS l rest hc hr.three;rw[dv hc];rcases hi with⟨q,d,lo,hi,h1,h2,i,rfl⟩|⟨hb,d|⟨q,h,t,hm,d⟩⟩
   .refine .inl ⟨acc++[uA (xG lo) (xG hi) wi],?_,[uA (xG lo) (xG hi) wi],rfl,λa f b=>?_⟩
    .rw[vQ,d];simp[cX hr]
    .simp[yN,h1,LD wi a f lo hi h2 i]
   .exact .inr ⟨λa f b=>by simp[yN,hb],.inl (by rw[vQ,d])⟩
   .refine .inr ⟨λa f b=>by simp[yN,hb],.inr ⟨acc++[uA q.1 q.2 wi],h,t,hm,?_⟩⟩;have g:¬h=kQ:=λe=>hc (e▸hm)
    rw[vQ,d];simp[vy,g]
  .have hi:=NS s (kQ::(r++rest)) hs (λc hc => .inl (by simpa using hc.symm));rw[Ux r hs];have j:s++kQ::r++rest=s++(kQ::(r++rest)):=(by simp);rw[j];rcases hi with⟨q,d,lo,hi,h1,h2,i,rfl⟩|⟨hb,d|⟨q,h,t,hm,d⟩⟩
   .have m:=NT wi n r rest (acc++[uA (xG lo) (xG hi) wi]) IY hr;have k:vQ wi (n+1) acc (s++kQ::(r++rest))=vQ wi n (acc++[uA (xG lo) (xG hi) wi]) (r++rest):=by
     rw[vQ,d];simp[vy]
    rw[k];refine(m.imp ?_ ?_).wider (λx hx=>by simp[hx])
    .rintro ts ⟨new,rfl,hn⟩;refine⟨uA (xG lo) (xG hi) wi::new,zY,λa f b=>?_⟩;rw[yN,h1];dsimp only;rw[hn,LD wi a f lo hi h2 i,yk8,lI]
    .intro hn a f b;rw[yN,h1];dsimp only;rw[hn]
   .exact .inr ⟨λa f b=>by rw[yN,hb],.inl (by rw[vQ,d])⟩
   .refine .inr ⟨λa f b=>by rw[yN,hb],.inr ⟨acc++[uA q.1 q.2 wi],h,t++kQ::r,by simp[hm],?_⟩⟩;have g:¬h=kQ:=λe=>hs (e▸hm)
    rw[vQ,d];simp[vy,g]
def cV(wi:Bool)(l rest:List Wd)(hr:Stop rest) :
  ZI (qF wi (l++rest)) l rest (λT=>∀a f,uj l a f wi false=some (T (a,f))) (∀a f,uj l a f wi false=none):=by
 have h:=NT wi ((l++rest).length+1) l rest [] zV hr;unfold qF;refine(h.map gv ?_).imp (λ_ q=>q) ?_
 .rintro ts ⟨new,rfl,hn⟩ a f;unfold uj;rw[zL (λq=>by cases q.1),hn];simp[gv]
 .intro hn a f;unfold uj;rw[zL (λq=>by cases q.1),hn]
def zgv(l rest:List Wd)(hr:Stop rest) :
  ZI (uE (l++rest)) l rest (λv=>∀a f,uj l a f false true=some (uA v v false (a,f))) (∀a f,uj l a f false true=none):=by
 match l with
 |[]=>exact .inr ⟨λa f=>by simp[uj,yY,xR],.inl (Kj hr.three)⟩
 |[x] =>
  by_cases hx:vW x=true
  .have hc:kQ ∉ [x]:=by
    intro e;simp at e;subst e;exact absurd hx zj
   refine .inl ⟨xG x,by simp[uE,hx],λa f=>?_⟩;have d:=(CC.of hx).1;unfold uj;rw[dv hc,zL zY];simp[yN,vz,hx,LD false a f x x d d]
  .refine .inr ⟨λa f=>?_,.inl (by simp[uE,hx])⟩;unfold uj;by_cases hc:kQ ∉ [x]
   .rw[dv hc,zL zY];simp[yN,vz,hx]
   .have:x=kQ:=(by simpa[eq_comm]using hc);subst this;rw[zl ⟨rfl,zj⟩]
 |x::y::u =>
  have b:∀a f,uj (x::y::u) a f false true=none:=by
   intro a f;unfold uj;rw[zl];refine⟨rfl,λq=>?_⟩;rcases Uv kQ (x::y::u)with hc|⟨s,r,e,hs⟩
   .rw[dv hc]at q;simp at q
   .rw[e,Ux r hs]at q;have:0<(yY kQ r).length:=by
     rcases Uv kQ r with hc|⟨s',r',e',c⟩
     .rw[dv hc];simp
     .rw[e',Ux r' c];simp
    have q1:=q.1;simp only[zm]at q1;omega
  refine .inr ⟨b,?_⟩;by_cases hx:vW x=true
  .exact .inr ⟨xG x,y,u,zY,by simp[uE,hx]⟩
  .exact .inl (by simp[uE,hx])
end Go.Proofs.YtfcemhlpdcnckaaGreatDoor
