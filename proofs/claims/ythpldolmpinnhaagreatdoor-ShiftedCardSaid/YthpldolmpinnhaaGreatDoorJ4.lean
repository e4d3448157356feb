import Derived.Test.YthpldolmpinnhaaGreatDoorJ3
import Derived.Deep.RegionHeld3
namespace Go.Proofs.YthpldolmpinnhaaGreatDoor
open Go Go.RowKit
section
variable {P:Program} {ops:Array Oper} {Q:Exit->Act->World->Prop} {md:Region.Mode} {S:World->Prop}
def nthOp:List Oper->Nat->Option Oper
 | [],_=>none
 | o::_,0=>some o
 | _::l,n+1=>nthOp l n
theorem nthOp_eq:∀ (l:List Oper) (i:Nat),nthOp l i=l.toArray[i]?
 | [],i=>by simp [nthOp]
 | o::l,0=>by simp [nthOp]
 | o::l,n+1=>by simpa [nthOp] using nthOp_eq l n
def takes (P:Program) (ops:Array Oper) (S:World->Prop) (K:Act->Prop):List Nat->Act->Prop
 | [],a=>K a
 | i::is,a=>∃ o v,ops[i]? = some o/\YieldsIf P ops S o v a/\takes P ops S K is (a.put o.dst v)
def takesB (md:Region.Mode) (ops:Array Oper):List Nat->Array Bool->Bool
 | [],_=>true
 | i::is,listed=>Region.free md ops listed i && (Region.ready md ops listed).contains i && takesB md ops is (listed.setIfInBounds i true)
def markAll (listed:Array Bool) (is:List Nat):Array Bool:=is.foldl (fun l i=>l.setIfInBounds i true) listed
theorem takes_yes {K:Act->Prop} {l:List Oper} {i:Nat} {is:List Nat} {a:Act} {o:Oper} {v:Value} (ho:nthOp l i=some o) (hw:Region.wanted o (yielded l.toArray a.tmps)=true)
  (hy:∀ w,S w->(execOp a.eval o).run P w = .ok (.value v) w) (h:takes P l.toArray S K is (a.put o.dst v)):takes P l.toArray S K (i::is) a :=
 ⟨o,v,(nthOp_eq l i).symm.trans ho,.inl ⟨hw,hy⟩,h⟩
theorem takes_no {K:Act->Prop} {l:List Oper} {i:Nat} {is:List Nat} {a:Act} {o:Oper} (ho:nthOp l i=some o) (hw:Region.wanted o (yielded l.toArray a.tmps)=false)
  (h:takes P l.toArray S K is (a.put o.dst undef)):takes P l.toArray S K (i::is) a :=
 ⟨o,undef,(nthOp_eq l i).symm.trans ho,.inr ⟨hw,rfl⟩,h⟩
theorem takes_nil {K:Act->Prop} {a:Act} (h:K a):takes P ops S K [] a:=h
theorem wpAnyH_takes (hQ:∀ c a d v w,Q (.panic c) (a.put d v) w->Q (.panic c) a w) (hs:Region.noSelect ops=true) {w:World} (hS:S w) {fuel:Nat} :
  ∀ (is:List Nat) (listed:Array Bool) (a:Act),takesB md ops is listed=true ->
   takes P ops S (fun a'=>wpAnyH P md ops Q S fuel (markAll listed is) a' w) is a->wpAnyH P md ops Q S (fuel+is.length) listed a w
 | [],_,_,_,h=>h
 | i::is,listed,a,hB,⟨o,v,ho,hy,h⟩=>by
  simp only [takesB,Bool.and_eq_true] at hB;rw [List.length_cons,←Nat.add_assoc];exact wpAnyH_take ho hs hB.1.1 hB.1.2 (fun c a w=>hQ c a o.dst v w) hy hS (wpAnyH_takes hQ hs hS is _ _ hB.2 h)
theorem wp_region_takes {id:Nat} {l:List Oper} {a:Act} {w:World} (S:World->Prop) (is:List Nat) (fuel:Nat) (hQ:∀ c a d v w,Q (.panic c) (a.put d v) w->Q (.panic c) a w)
  (hm:P.follows .mixedOrders=true) (hn:(Region.noSelect l.toArray && decide (l.length=fuel+is.length) && takesB .any l.toArray is (Array.replicate l.toArray.size false))=true) (hS:S w.drew)
  (h:takes P l.toArray S (fun a'=>wpAnyH P .any l.toArray Q S fuel (markAll (Array.replicate l.toArray.size false) is) a' w.drew) is a):(Code.region id l.toArray true).wp P Q a w:=by
 simp only [Bool.and_eq_true,decide_eq_true_eq] at hn;refine wp_region_held (S:=S) hm ?_;have h1:=wpAnyH_takes (Q:=Q) (md := .any) (ops:=l.toArray) hQ hn.1.1 hS is _ a hn.2 h;have h2:l.toArray.size=fuel+is.length:=by simpa using hn.1.2
 rw [h2];rw [h2] at h1;exact h1
theorem wpAnyH_more {w:World} (is:List Nat) (fuel:Nat) {f:Nat} {listed:Array Bool} {a:Act} (hf:f=fuel+is.length) (hQ:∀ c a d v w,Q (.panic c) (a.put d v) w->Q (.panic c) a w)
  (hs:Region.noSelect ops=true) (hB:takesB md ops is listed=true) (hS:S w)
  (h:takes P ops S (fun a'=>wpAnyH P md ops Q S fuel (markAll listed is) a' w) is a):wpAnyH P md ops Q S f listed a w:=by
 subst hf;exact wpAnyH_takes hQ hs hS is listed a hB h
theorem wpAnyH_only {l:List Oper} {w:World} (i:Nat) {fuel:Nat} {listed:Array Bool} {a:Act} {o:Oper} (hr:Region.ready md l.toArray listed=[i]) (ho:nthOp l i=some o)
  (h:∀ K':Act->World->Prop,Shut (∀ a w,S w->(S w->wpAnyH P md l.toArray Q S fuel (listed.setIfInBounds i true) a w)->K' a w)->if Region.wanted o (yielded l.toArray a.tmps)=true then Oper.wp P o a w K' Q else K' (a.put o.dst undef) w) :
  wpAnyH P md l.toArray Q S (fuel+1) listed a w :=
 wpAnyH_ready hr (by simp) (AllReadyH.cons ((nthOp_eq l i).symm.trans ho) h AllReadyH.nil)
end
end Go.Proofs.YthpldolmpinnhaaGreatDoor
namespace Go.Proofs.YthpldolmpinnhaaGreatDoor
open Go Go.RowKit
section
variable {P:Program} {ops:Array Oper} {Q:Exit->Act->World->Prop} {md:Region.Mode} {S:World->Prop}
def ClosedL (md:Region.Mode) (ops:Array Oper) (L:Array Bool):Prop :=
 ∀ j oj,ops[j]? = some oj->L.getD j false=true->∀ e∈oj.after,Region.binds md e=true->L.getD e.on false=true
def closedB (md:Region.Mode) (ops:Array Oper) (L:Array Bool):Bool :=
 (List.range ops.size).all fun j => !L.getD j false || ((ops[j]?).map (·.after.all fun e => !Region.binds md e || L.getD e.on false)).getD true
theorem closedB_spec {L:Array Bool} (h:closedB md ops L=true):ClosedL md ops L:=by
 intro j oj hj hl e he hb;unfold closedB at h;rw [List.all_eq_true] at h;have h1:=h j (List.mem_range.2 (Array.getElem?_eq_some_iff.1 hj).1);rw [hl,hj] at h1;simp only [Bool.not_true,Bool.false_or,Option.map_some,Option.getD_some,Array.all_eq_true] at h1;obtain ⟨n,hn,rfl⟩:=Array.mem_iff_getElem.1 he;have h2:=h1 n hn;rw [hb] at h2;simpa using h2
theorem ClosedL.step {L:Array Bool} {j:Nat} (hc:ClosedL md ops L) (hj:j∈Region.ready md ops L):ClosedL md ops (L.setIfInBounds j true):=by
 intro x ox hx hl e he hb;by_cases hxj:j=x
 ·subst hxj;obtain ⟨_,o,ho,hall⟩:=mem_ready.1 hj;rw [hx] at ho
  cases ho;exact getD_set_true (hall e he hb)
 ·rw [getD_set_ne false hxj] at hl;exact getD_set_true (hc x ox hx hl e he hb)
def waits (md:Region.Mode) (ops:Array Oper) (i:Nat):Nat->Nat->Bool
 | 0,_=>false
 | n+1,k=>((ops[k]?).map (·.after.any fun e=>Region.binds md e && (e.on==i || waits md ops i n e.on))).getD false
theorem waits_spec {L:Array Bool} (hc:ClosedL md ops L) {i:Nat}:∀ (n k:Nat),waits md ops i n k=true->L.getD k false=true->L.getD i false=true
 | 0,_,h,_=>by cases h
 | n+1,k,h,hl=>by
  rw [waits] at h
  cases ho:ops[k]? with
  | none=>rw [ho] at h;cases h
  | some o =>
   rw [ho] at h;simp only [Option.map_some,Option.getD_some,Array.any_eq_true] at h;obtain ⟨m,hm,h2⟩:=h;simp only [Bool.and_eq_true,Bool.or_eq_true,beq_iff_eq] at h2;have h3:=hc k o ho hl o.after[m] (Array.getElem_mem hm) h2.1;rcases h2.2 with h4 | h4
   ·rw [h4] at h3;exact h3
   ·exact waits_spec hc n _ h4 h3
def wpAnyK (P:Program) (md:Region.Mode) (ops:Array Oper) (Q:Exit->Act->World->Prop) (S:World->Prop) (k:Nat):Nat->Array Bool->Act->World->Prop
 | 0,listed,a,w=>Region.ready md ops listed=[]/\Q .normal a w
 | fuel+1,listed,a,w =>
  (Region.ready md ops listed=[]->Q .normal a w) /\
  ∀ i∈Region.ready md ops listed,wpOp P ops Q i (fun a' w'=>((listed.setIfInBounds i true).getD k false=false->S w')/\wpAnyK P md ops Q S k fuel (listed.setIfInBounds i true) a' w') a w
theorem wpAny_of_K {k:Nat}:∀ (fuel:Nat) (listed:Array Bool) (a:Act) (w:World),wpAnyK P md ops Q S k fuel listed a w->wpAny P md ops Q fuel listed a w
 | 0,_,_,_,h=>h
 | fuel+1,_,_,_,h=>⟨h.1,fun i hi=>wpOp_mono (fun a' w' h'=>wpAny_of_K fuel _ a' w' h'.2) (h.2 i hi)⟩
theorem wpAnyK_first {i k n:Nat} {oi:Oper} {v:Value} (hi:ops[i]? = some oi) (hsel:∀ (j:Nat) (o:Oper) cs b,ops[j]? = some o->o.op ≠ .select cs b)
  (hQ:∀ c a w,Q (.panic c) (a.put oi.dst v) w->Q (.panic c) a w) (hk:waits md ops i n k=true) (hki:k≠i) :
  ∀ (fuel:Nat) (listed:Array Bool) (a:Act) (w:World),
   (∀ j oj,ops[j]? = some oj->j≠i->listed.getD j true=false->(∀ e∈oj.after,Region.binds md e=true->e.on≠i)->oi.apart ops oj=true) ->
   i∈Region.ready md ops listed->ClosedL md ops listed->YieldsIf P ops S oi v a->S w ->
   wpAnyK P md ops Q S k fuel (listed.setIfInBounds i true) (a.put oi.dst v) w->wpAnyK P md ops Q S k (fuel+1) listed a w:=by
 intro fuel;induction fuel with
 | zero =>
  intro listed a w _ hr _ hy hS H;refine ⟨fun h=>(by rw [h] at hr;cases hr),fun j hj=>?_⟩;by_cases hji:j=i
  ·subst hji;exact hy.wpOp hi hS ⟨fun _=>hS,H⟩
  ·have:=ready_mono hj hji;rw [H.1] at this
   cases this
 | succ fuel ih =>
  intro listed a w hfree hr hc hy hS H;refine ⟨fun h=>(by rw [h] at hr;cases hr),fun j hj=>?_⟩;by_cases hji:j=i
  ·subst hji;exact hy.wpOp hi hS ⟨fun _=>hS,H⟩
  ·have h1:=H.2 j (ready_mono hj hji);obtain ⟨hjun,oj,hoj,hall⟩:=mem_ready.1 hj;have hi0:=(mem_ready.1 hr).1;have hi1:listed.getD i false=false:=by
    rcases Nat.lt_or_ge i listed.size with h' | h'
    ·simp [h'] at hi0 ⊢;exact hi0
    ·simp [Array.getElem?_eq_none h']
   have hnot:∀ e∈oj.after,Region.binds md e=true->e.on≠i:=fun e he hb heq=>by
    have h1:=hall e he hb;rw [heq,hi1] at h1
    cases h1
   have h2:=wpOp_putIf hoj (hfree j oj hoj hji hjun hnot) (fun cs b=>hsel i oi cs b hi) (fun cs b=>hsel j oj cs b hoj) hQ hy h1;have hfree':∀ k ok,ops[k]? = some ok->k≠i->(listed.setIfInBounds j true).getD k true=false ->
     (∀ e∈ok.after,Region.binds md e=true->e.on≠i)->oi.apart ops ok=true:=fun k ok hk hki hun hno=>by
    refine hfree k ok hk hki ?_ hno;by_cases hjk:j=k
    ·subst hjk;exact hjun
    ·rw [getD_set_ne true hjk] at hun;exact hun
   have hcj:=hc.step hj;have hun:(listed.setIfInBounds j true).getD k false=false:=by
    cases hq:(listed.setIfInBounds j true).getD k false with
    | false=>rfl
    | true =>
     have h3:=waits_spec hcj n k hk hq;rw [getD_set_ne false hji,hi1] at h3
     cases h3
   have hun2:((listed.setIfInBounds i true).setIfInBounds j true).getD k false=false:=by
    rw [Array.setIfInBounds_comm _ _ (Ne.symm hji),getD_set_ne false (Ne.symm hki)];exact hun
   refine wpOp_mono (fun a' w' h3=>⟨fun _=>h3.2.1 hun2,ih (listed.setIfInBounds j true) a' w' hfree' (ready_mono hr (Ne.symm hji)) hcj h3.1 (h3.2.1 hun2) ?_⟩) h2;rw [Array.setIfInBounds_comm _ _ hji];exact h3.2.2
def takesKB (md:Region.Mode) (ops:Array Oper) (k:Nat):List Nat->Array Bool->Bool
 | [],_=>true
 | i::is,listed=>Region.free md ops listed i && (Region.ready md ops listed).contains i && closedB md ops listed && waits md ops i ops.size k && !(k==i) && takesKB md ops k is (listed.setIfInBounds i true)
theorem wpAnyK_takes {k:Nat} (hQ:∀ c a d v w,Q (.panic c) (a.put d v) w->Q (.panic c) a w) (hs:Region.noSelect ops=true) {w:World} (hS:S w) {fuel:Nat} :
  ∀ (is:List Nat) (listed:Array Bool) (a:Act),takesKB md ops k is listed=true ->
   takes P ops S (fun a'=>wpAnyK P md ops Q S k fuel (markAll listed is) a' w) is a->wpAnyK P md ops Q S k (fuel+is.length) listed a w
 | [],_,_,_,h=>h
 | i::is,listed,a,hB,⟨o,v,ho,hy,h⟩=>by
  simp only [takesKB,Bool.and_eq_true,Bool.not_eq_true',beq_eq_false_iff_ne] at hB;rw [List.length_cons,←Nat.add_assoc];exact wpAnyK_first ho (Region.noSelect_spec hs) (fun c a w=>hQ c a o.dst v w) hB.1.1.2 hB.1.2 (fuel+is.length) listed a w (Region.free_spec ho hB.1.1.1.1.1) (by simpa using hB.1.1.1.1.2) (closedB_spec hB.1.1.1.2) hy hS (wpAnyK_takes hQ hs hS is _ _ hB.2 h)
theorem wp_region_takesK {id:Nat} {l:List Oper} {a:Act} {w:World} (S:World->Prop) (k:Nat) (is:List Nat) (fuel:Nat) (hQ:∀ c a d v w,Q (.panic c) (a.put d v) w->Q (.panic c) a w)
  (hm:P.follows .mixedOrders=true) (hn:(Region.noSelect l.toArray && decide (l.length=fuel+is.length) && takesKB .any l.toArray k is (Array.replicate l.toArray.size false))=true) (hS:S w.drew)
  (h:takes P l.toArray S (fun a'=>wpAnyK P .any l.toArray Q S k fuel (markAll (Array.replicate l.toArray.size false) is) a' w.drew) is a):(Code.region id l.toArray true).wp P Q a w:=by
 simp only [Bool.and_eq_true,decide_eq_true_eq] at hn;refine wp_region_any hm (wpAny_of_K (S:=S) (k:=k) _ _ _ _ ?_);have h1:=wpAnyK_takes (Q:=Q) (md := .any) (ops:=l.toArray) hQ hn.1.1 hS is _ a hn.2 h;have h2:l.toArray.size=fuel+is.length:=by simpa using hn.1.2
 rw [h2];rw [h2] at h1;exact h1
theorem wpAnyK_more {w:World} {k:Nat} (is:List Nat) (fuel:Nat) {f:Nat} {listed:Array Bool} {a:Act} (hf:f=fuel+is.length) (hQ:∀ c a d v w,Q (.panic c) (a.put d v) w->Q (.panic c) a w)
  (hs:Region.noSelect ops=true) (hB:takesKB md ops k is listed=true) (hS:S w)
  (h:takes P ops S (fun a'=>wpAnyK P md ops Q S k fuel (markAll listed is) a' w) is a):wpAnyK P md ops Q S k f listed a w:=by
 subst hf;exact wpAnyK_takes hQ hs hS is listed a hB h
theorem wpAnyK_only {l:List Oper} {w:World} {k:Nat} (i:Nat) {fuel:Nat} {listed:Array Bool} {a:Act} {o:Oper} (hr:Region.ready md l.toArray listed=[i]) (ho:nthOp l i=some o)
  (h:∀ K':Act->World->Prop,Shut (∀ a w,S w->(S w->wpAnyK P md l.toArray Q S k fuel (listed.setIfInBounds i true) a w)->K' a w)->if Region.wanted o (yielded l.toArray a.tmps)=true then Oper.wp P o a w K' Q else K' (a.put o.dst undef) w) :
  wpAnyK P md l.toArray Q S k (fuel+1) listed a w:=by
 refine ⟨fun h0=>(by rw [hr] at h0;cases h0),fun j hj=>?_⟩;rw [hr,List.mem_singleton] at hj;subst hj;exact wpOp_step ((nthOp_eq l _).symm.trans ho) fun K' hK=>h K' fun a w h1 h2=>hK a w ⟨fun _=>h1,h2 h1⟩
theorem wpAnyK_last {l:List Oper} {w:World} {k:Nat} (i:Nat) {fuel:Nat} {listed:Array Bool} {a:Act} {o:Oper} (hr:Region.ready md l.toArray listed=[i]) (hk:(listed.setIfInBounds i true).getD k false=true) (ho:nthOp l i=some o)
  (h:∀ K':Act->World->Prop,Shut (∀ a w,wpAnyK P md l.toArray Q S k fuel (listed.setIfInBounds i true) a w->K' a w)->if Region.wanted o (yielded l.toArray a.tmps)=true then Oper.wp P o a w K' Q else K' (a.put o.dst undef) w) :
  wpAnyK P md l.toArray Q S k (fuel+1) listed a w:=by
 refine ⟨fun h0=>(by rw [hr] at h0;cases h0),fun j hj=>?_⟩;rw [hr,List.mem_singleton] at hj;subst hj;exact wpOp_step ((nthOp_eq l _).symm.trans ho) fun K' hK=>h K' fun a w h2=>hK a w ⟨fun h1=>(by rw [hk] at h1;cases h1),h2⟩
theorem wpAnyK_done {k:Nat} {listed:Array Bool} {a:Act} {w:World} (hr:Region.ready md ops listed=[]) (h:Q .normal a w) :
  ∀ fuel,wpAnyK P md ops Q S k fuel listed a w
 | 0=>⟨hr,h⟩
 | _+1=>⟨fun _=>h,by rw [hr];simp⟩
end
end Go.Proofs.YthpldolmpinnhaaGreatDoor
namespace Go.Proofs.YthpldolmpinnhaaGreatDoor
open Go Go.RowKit
set_option maxRecDepth 10000
section
variable {P:Program} {ops:Array Oper} {Q:Exit->Act->World->Prop} {md:Region.Mode} {S:World->Prop}
theorem ty {K:Act->Prop} {l:List Oper} {i:Nat} {is:List Nat} {a:Act} {o:Oper} {v:Value} (h:takes P l.toArray S K is (a.put o.dst v)) (ho:nthOp l i=some o:=by rfl) (hw:Region.wanted o (yielded l.toArray a.tmps)=true:=by rfl)
  (hy:∀ w,S w->(execOp a.eval o).run P w = .ok (.value v) w:=by intro w' hS';(try dsimp only at hS');go_simp;try (with_reducible rfl)):takes P l.toArray S K (i::is) a:=takes_yes ho hw hy h
theorem tn {K:Act->Prop} {l:List Oper} {i:Nat} {is:List Nat} {a:Act} {o:Oper} (h:takes P l.toArray S K is (a.put o.dst undef)) (ho:nthOp l i=some o:=by rfl) (hw:Region.wanted o (yielded l.toArray a.tmps)=false:=by rfl):takes P l.toArray S K (i::is) a:=takes_no ho hw h
end
section
variable {P:Program} {Q:Exit->Act->World->Prop} {id:Nat} {l:List Oper} {a:Act} {w:World}
theorem rt (S:World->Prop) (is:List Nat) (fuel:Nat) (hS:S w.drew)
  (h:takes P l.toArray S (fun a'=>wpAnyH P .any l.toArray Q S fuel (markAll (Array.replicate l.toArray.size false) is) a' w.drew) is a)
  (hQ:∀ c a d v w,Q (.panic c) (a.put d v) w->Q (.panic c) a w:=by intro _ _ d _ _ h;cases d<;>exact h) (hm:P.follows .mixedOrders=true:=by kernel_rfl)
  (hn:(Region.noSelect l.toArray && decide (l.length=fuel+is.length) && takesB .any l.toArray is (Array.replicate l.toArray.size false))=true:=by kernel_rfl):(Code.region id l.toArray true).wp P Q a w:=wp_region_takes S is fuel hQ hm hn hS h
theorem rk (S:World->Prop) (k:Nat) (is:List Nat) (fuel:Nat) (hS:S w.drew)
  (h:takes P l.toArray S (fun a'=>wpAnyK P .any l.toArray Q S k fuel (markAll (Array.replicate l.toArray.size false) is) a' w.drew) is a)
  (hQ:∀ c a d v w,Q (.panic c) (a.put d v) w->Q (.panic c) a w:=by intro _ _ d _ _ h;cases d<;>exact h) (hm:P.follows .mixedOrders=true:=by kernel_rfl)
  (hn:(Region.noSelect l.toArray && decide (l.length=fuel+is.length) && takesKB .any l.toArray k is (Array.replicate l.toArray.size false))=true:=by kernel_rfl):(Code.region id l.toArray true).wp P Q a w:=wp_region_takesK S k is fuel hQ hm hn hS h
end
theorem pl:(∀ a d v,Act.put a (some d) v={ a with tmps:=a.tmps.setIfInBounds d v })/\(∀ a v,Act.put a none v=a)/\(∀ (l:List Value) i v,l.toArray.setIfInBounds i v=(l.set i v).toArray)/\(∀ (a:Value) l v,(a::l).set 0 v=v::l)/\∀ (a:Value) l n v,(a::l).set (n+1) v=a::l.set n v :=
 ⟨fun _ _ _=>rfl,fun _ _=>rfl,fun _ _ _=>List.setIfInBounds_toArray ..,fun _ _ _=>rfl,fun _ _ _ _=>rfl⟩
structure NumsAt (w:World) (v:Value) (l:List Nat):Prop where
 ex:∃ a cap,v = .slice a l.length cap/\l.length<=cap/\cap<=maxLen/\∀ j (h:j<l.length),∃ b,a=some b/\w.cell? (b.add j)=some (.int .i64 l[j])
def tailV:Value->Value
 | .slice (some a) n cap => .slice (some (if cap=1 then a else a.add 1)) (n - 1) (cap - 1)
 | v=>v
theorem slice_tail (b:Addr) (m cap:Nat) (h:m+1<=cap) (w:World):(Instr.slice 39 (.slice (some b) (m+1) cap) (some (.int .i64 1)) none none).run Tryz.prog w = .ok (tailV (.slice (some b) (m+1) cap)) w:=by
 have h2:(1:Int)<=(m:Int)+1:=by omega
 simp [Instr.slice,Instr.sliceBounds,Instr.sliceBound,run_underlying Tryz.underlying39,asIntOf,tailV,go_sem,h2];split<;>rfl
theorem NumsAt.tail {w:World} {v:Value} {x:Nat} {l:List Nat} (h:NumsAt w v (x::l)):NumsAt w (tailV v) l:=by
 obtain ⟨a,cap,rfl,h1,h2,h3⟩:=h.ex;obtain ⟨b,rfl,hb⟩:=h3 0 (by simp);by_cases hc:cap=1
 ·subst hc;have:l=[]:=by cases l with | nil=>rfl | cons _ _=>simp at h1
  subst this;exact ⟨some b,0,by simp [tailV],by simp,by unfold maxLen;omega,fun j hj=>absurd hj (Nat.not_lt_zero j)⟩
 ·refine ⟨some (b.add 1),cap - 1,by simp [tailV,hc],by simp at h1;omega,by omega,fun j hj=>⟨_,rfl,?_⟩⟩;obtain ⟨b',e,hb'⟩:=h3 (j+1) (by simp;omega)
  cases e;rw [show (b.add 1).add j=b.add (j+1) by simp [Addr.add_add,Nat.add_comm]];simpa using hb'
structure StpQ (B K:Nat) (v:Value) (l:Wd) (kv:Value) (w:World) (e:Ending) (w':World):Prop where
 ret:e = .returned (.tuple #[])
 ex:∃ v',w'.cell? ⟨B,0,none⟩=some v'/\BRow w' v' l/\(∀ q,rowF v' q->rowF v q\/w.heap.size<=q)/\Fr (fun k=>k=B\/k=K\/rowF v k) (fun k=>k=B\/k=K\/rowF v' k) w w'
 c:w'.cell? ⟨K,0,none⟩=some kv
 z:w'.frozen? ⟨B,0,none⟩=false/\w'.frozen? ⟨K,0,none⟩=false
def StepP (f:FuncId):Prop:=∀ (B K:Nat) (v kv:Value) (l:Wd) (x:Nat) (ks:List Nat) (w:World),w.cell? ⟨B,0,none⟩=some v->w.frozen? ⟨B,0,none⟩=false->w.cell? ⟨K,0,none⟩=some kv->w.frozen? ⟨K,0,none⟩=false ->
  BRow w v l->NumsAt w kv (x::ks)->B≠K->¬rowF v B->¬rowF v K->(∀ k,kv.ownBlock=some k->¬rowF v k/\k≠B/\k≠K)->x<=4000000000->l.length<=100000000 ->
  Calls Tryz.prog f #[.pointer (some ⟨B,0,none⟩),.pointer (some ⟨K,0,none⟩)] w (StpQ B K v (l++twoL x) (tailV kv) w)
set_option maxHeartbeats 2000000 in
theorem step_any:StepP 88/\StepP 89:=by
 constructor<;>(
  intro B K v kv l x ks w hB zB hK zK hr hn hne h1 h2 h3 hx hl;have HR:=Lib.hid hr;obtain ⟨a,cap,rfl,k1,k2,k3⟩:=hn.ex;obtain ⟨b,rfl,hb⟩:=k3 0 (by simp);obtain ⟨m,hm⟩:∃ m,ks.length=m:=⟨_,rfl⟩;simp only [List.length_cons,hm] at k1 hK;obtain ⟨hbb,h4⟩:=h3 b.block rfl;have HT:=Lib.hid (two_any v l x w.drew (by exact hr) hx hl);obtain ⟨L,hL⟩:∃ L,l++twoL x=L:=⟨_,rfl⟩;rw [hL] at HT ⊢;clear k3 hn h3 hL;have HM:=Lib.hid hm;clear hm;have hb':w.drew.cell? b=some (.int .i64 x):=by
   have e:b.add 0=b:=by unfold Addr.add;split<;>simp_all
   rw [e] at hb;exact hb
  obtain ⟨ad,hkv⟩:∃ ad,tailV (.slice (some b) (m+1) cap) = .slice (some ad) m (cap - 1):=⟨_,rfl⟩;have hs:=slice_tail b m cap k1;rw [hkv] at hs;have HS:=Lib.hid hs;clear hs;first | (go_enter Tryz.func88,Tryz.ntmps88) | (go_enter Tryz.func89,Tryz.ntmps89)
  go_wp2_with fail
  refine rk (fun W':World=>W'.cell? ⟨K,0,none⟩=some (.slice (some b) (m+1) cap)/\W'.cell? b=some (.int .i64 x)) 8 [1,2,3,5,6] 4 ⟨hK,hb'⟩ ?_;(iterate 4 (refine ty ?_;try simp only [pl]))
  refine ty (v := .slice (some ad) m (cap - 1)) ?_ (hy:=fun w' _=>by have hs:=HS.out w';simp [execOp,go_sem,hs]);try simp only [pl]
  refine takes_nil ?_;refine wpAnyK_only 0 (by kernel_rfl) rfl (fun J hJ=>?_);go_simp
  refine hJ.out _ _ ⟨hK,hb'⟩ fun _=>?_
  clear hJ J;refine wpAnyK_only 4 (by kernel_rfl) rfl (fun J hJ=>?_);go_simp
  refine HT.out.mono ?_;rintro e w1 ⟨v',rfl,hr1,hf⟩;have e1:=hf.cell (a:=⟨K,0,none⟩) (v := .slice (some b) (m+1) cap) hK h2;have e2:=hf.cell hb' hbb;have e3:=hf.cell (a:=⟨B,0,none⟩) (v:=v) hB h1;have z1:=(hf.frozen (a:=⟨B,0,none⟩) (World.block_lt_of_cell? w _ hB) h1).trans zB;have z2:=(hf.frozen (a:=⟨K,0,none⟩) (World.block_lt_of_cell? w _ hK) h2).trans zK;obtain ⟨na,nc,rfl⟩:=own_slice hr1;have HF:=Lib.hid hf;have HR1:=Lib.hid hr1;refine hJ.out _ _ ⟨e1,e2⟩ fun _=>?_
  clear hJ J hf hr1;refine wpAnyK_only 7 (by kernel_rfl) rfl (fun J hJ=>?_);go_simp
  refine hJ.out _ _ ⟨by rw [cellSet,if_neg (fun e=>hne (congrArg Addr.block e))];exact e1,by rw [cellSet,if_neg (fun e=>h4.1 (congrArg Addr.block e).symm)];exact e2⟩ fun _=>?_
  clear hJ J;have e4:(w1.setCell ⟨B,0,none⟩ (.slice na L.length nc)).cell? ⟨K,0,none⟩=some (.slice (some b) (m+1) cap):=by rw [cellSet,if_neg (fun e=>hne (congrArg Addr.block e))];exact e1
  refine wpAnyK_last 8 (by kernel_rfl) (by kernel_rfl) rfl (fun J hJ=>?_);go_simp
  refine hJ.out _ _ ?_;clear hJ J;refine wpAnyK_done (by kernel_rfl) ?_ _;go_wp2
  refine bodyPost_ret (v := .tuple #[]) ?_ rfl ?_
  ·simp [results,Tryz.results88,Tryz.results89,go_sem]
  rw [show tailV (.slice (some b) (ks.length+1) cap) = .slice (some ad) m (cap - 1) by rw [HM.out];exact hkv];refine ⟨rfl,⟨_,by rw [cellSet,if_neg (fun e=>hne (congrArg Addr.block e).symm),cellSet,if_pos rfl,e3];rfl,?_,HF.out.fp,?_⟩,by rw [cellSet,if_pos rfl,e4];rfl,by rw [World.frozen?_setCell,World.frozen?_setCell];exact z1,by rw [World.frozen?_setCell,World.frozen?_setCell];exact z2⟩
  ·exact ownsRow_setCell_other (ownsRow_setCell_other HR1.out (fun e=>(HF.out.fp _ e).elim h1 (fun q=>Nat.lt_irrefl _ (Nat.lt_of_lt_of_le (World.block_lt_of_cell? w _ hB) q))) _) (fun e=>(HF.out.fp _ e).elim h2 (fun q=>Nat.lt_irrefl _ (Nat.lt_of_lt_of_le (World.block_lt_of_cell? w _ hK) q))) _
  ·have h:=HF.out;exact ((show Fr (fun k=>k=B\/k=K\/rowF v k) (fun k=>k=B\/k=K\/rowF _ k) w w1 from ⟨h.os,h.tape,h.output,h.size,fun k hk hn=>h.keep k hk (fun q=>hn (.inr (.inr q))),fun k hk=>by
    rcases hk with q | q | q
    ·exact .inl (.inl q)
    ·exact .inl (.inr (.inl q))
    ·exact (h.fp k q).imp (fun q => .inr (.inr q)) id⟩).set _ (.inl (.inl rfl))).set _ (.inl (.inr (.inl rfl))))
end Go.Proofs.YthpldolmpinnhaaGreatDoor
