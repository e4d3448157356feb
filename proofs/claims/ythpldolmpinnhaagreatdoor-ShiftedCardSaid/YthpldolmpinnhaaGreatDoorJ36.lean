import Derived.Test.YthpldolmpinnhaaGreatDoorJ35
namespace Go.Proofs.YthpldolmpinnhaaGreatDoor
open Go Go.RowKit
set_option maxRecDepth 10000
def Fo.vok:Bool->Fo->Prop
 | _,.nil=>True
 | b,.text _ r=>r.vok b
 | b,.hash r=>b=true/\r.vok b
 | b,.put _ _ r=>r.vok b
 | b,.num _ _ r=>r.vok b
 | b,.br _ _ f _ _ bs r=>bs.isLegs=true/\bs.keys.Nodup/\othC∈bs.keys/\bs.vok (decide (f≠0))/\r.vok b
 | b,.leg _ _ m r=>m.isMsg=true/\m.vok b/\r.vok b
def shx (x:InL):Nat×Nat×Nat×List Nat×Nat:=(x.op,x.pos,x.v,x.k,x.tg.length)
theorem code_leap (s:MkS) (i j n:Nat):(s.leap i j).code[n]? = if i=n then (s.code[n]?).map (fun x=>{ x with tg:=x.tg.set j s.pos }) else s.code[n]? := by
 simp only [MkS.leap];rw [List.getElem?_modify];by_cases h:i=n
 ·simp [h]
 ·simp [h]
theorem len_leap (s:MkS) (i j:Nat):(s.leap i j).code.length=s.code.length:=by simp [MkS.leap]
theorem code_put (s:MkS) (op v:Nat) (k tg:List Nat):(s.put op v k tg).code=s.code++[⟨op,s.pos,v,k,tg⟩]:=rfl
theorem sh_inv (s:MkS):MkInv fun s'=>∀ (i:Nat) (x:InL),s.code[i]? = some x->∃ y,s'.code[i]? = some y/\shx y=shx x:=by
 refine ⟨fun a op v k tg h i x hx=>?_,fun a t h i x hx=>?_,fun a i j h n x hx=>?_⟩
 ·obtain ⟨y,h1,h2⟩:=h i x hx;exact ⟨y,by rw [code_put,List.getElem?_append_left (List.getElem?_eq_some_iff.1 h1).1];exact h1,h2⟩
 ·rw [(sz_const a t).2.1];exact h i x hx
 ·obtain ⟨y,h1,h2⟩:=h n x hx;rw [code_leap];split
  ·exact ⟨_,by rw [h1];rfl,by rw [←h2];simp [shx]⟩
  ·exact ⟨y,h1,h2⟩
theorem cs_inv (c:List Wd):MkInv fun s=>c <+: s.cs:=by
 refine ⟨fun a op v k tg h=>h,fun a t h=>?_,fun a i j h=>h⟩;unfold MkS.const;split
 ·exact h
 ·exact h.trans (List.prefix_append _ _)
def PosOk (s:MkS):Prop:=(∀ (i j:Nat) (x y:InL),i<j->s.code[i]? = some x->s.code[j]? = some y->x.pos<y.pos)/\∀ x∈s.code,x.pos<s.pos
theorem insX_pos (x:InL):0<(insX x).length:=by simp [insX]
theorem posok_inv:MkInv PosOk:=by
 refine ⟨fun s op v k tg h=>?_,fun s t h=>?_,fun s i j h=>?_⟩
 ·have hp:=insX_pos ⟨op,s.pos,v,k,tg⟩;refine ⟨fun i j x y hij hx hy=>?_,fun x hx=>?_⟩
  ·rw [code_put] at hx hy;rw [List.getElem?_append] at hx hy;split at hy
   ·rw [if_pos (by omega)] at hx;exact h.1 i j x y hij hx hy
   ·have hj:j - s.code.length=0:=by
     have:=(List.getElem?_eq_some_iff.1 hy).1;simp at this;omega
    rw [hj] at hy;simp at hy;subst hy;rw [if_pos (by omega)] at hx;exact h.2 x (List.mem_of_getElem? hx)
  ·show x.pos<s.pos+_;rw [code_put,List.mem_append,List.mem_singleton] at hx;rcases hx with hx | rfl
   ·have:=h.2 x hx;omega
   ·show s.pos<_;omega
 ·obtain ⟨-,z2,z3⟩:=sz_const s t;unfold PosOk;rw [z2,z3];exact h
 ·have hpos:∀ (n:Nat) (x:InL),(s.leap i j).code[n]? = some x->∃ y,s.code[n]? = some y/\y.pos=x.pos:=by
   intro n x hx;rw [code_leap] at hx;split at hx
   ·cases hc:s.code[n]? with
    | none=>rw [hc] at hx;cases hx
    | some y=>rw [hc] at hx;cases hx;exact ⟨y,rfl,rfl⟩
   ·exact ⟨x,hx,rfl⟩
  refine ⟨fun a b x y hab hx hy=>?_,fun x hx=>?_⟩
  ·obtain ⟨x',h1,h2⟩:=hpos a x hx;obtain ⟨y',h3,h4⟩:=hpos b y hy;rw [←h2,←h4];exact h.1 a b x' y' hab h1 h3
  ·obtain ⟨n,hn,e⟩:=List.mem_iff_getElem.1 hx;obtain ⟨x',h1,h2⟩:=hpos n x (by rw [List.getElem?_eq_getElem hn,e]);rw [←h2];exact h.2 x' (List.mem_of_getElem? h1)
theorem posN_hit {s:MkS} (h:PosOk s) {k:Nat} {x:InL} (hx:s.code[k]? = some x):posN s.code s.code.length x.pos=some k:=by
 have key:∀ n,k<n->n<=s.code.length->posN s.code n x.pos=some k:=by
  intro n;induction n with
  | zero=>intro h;omega
  | succ n ih =>
   intro h1 h2;simp only [posN];by_cases hk:k=n
   ·subst hk;simp [hx]
   ·obtain ⟨y,hy⟩:∃ y,s.code[n]? = some y:=⟨_,List.getElem?_eq_getElem (by omega)⟩;have:=h.1 k n x y (by omega) hx hy;rw [hy];rw [if_neg (by simp;omega)];exact ih (by omega) (by omega)
 exact key _ (List.getElem?_eq_some_iff.1 hx).1 (Nat.le_refl _)
def leaps (l:List (Nat×Nat)) (s:MkS):MkS:=l.foldl (fun s p=>s.leap p.1 p.2) s
theorem leaps_len:∀ (l:List (Nat×Nat)) (s:MkS),(leaps l s).code.length=s.code.length/\(leaps l s).pos=s.pos/\(leaps l s).cs=s.cs
 | [],s=>⟨rfl,rfl,rfl⟩
 | p::l,s=>by
  obtain ⟨a,b,c⟩:=leaps_len l (s.leap p.1 p.2);exact ⟨a.trans (len_leap _ _ _),b,c⟩
theorem leaps_other:∀ (l:List (Nat×Nat)) (s:MkS) (n:Nat),(∀ p∈l,p.1≠n)->(leaps l s).code[n]? = s.code[n]?
 | [],s,n,_=>rfl
 | p::l,s,n,h=>by
  show (leaps l (s.leap p.1 p.2)).code[n]? = _;rw [leaps_other l _ n (fun q hq=>h q (List.mem_cons_of_mem _ hq)),code_leap,if_neg (h p (List.mem_cons_self ..))]
def slot (s:MkS) (p:Nat×Nat):Option Nat:=(s.code[p.1]?).bind fun x=>x.tg[p.2]?
theorem slot_leap (s:MkS) (i j:Nat) (p:Nat×Nat):slot (s.leap i j) p=if (i,j)=p/\(slot s p).isSome then some s.pos else slot s p:=by
 unfold slot;rw [code_leap];by_cases h1:i=p.1
 ·rw [if_pos h1]
  cases hc:s.code[p.1]? with
  | none=>simp
  | some x =>
   simp only [Option.map_some,Option.bind_some];rw [List.getElem?_set];by_cases h2:j=p.2
   ·rw [if_pos h2];have:(i,j)=p:=by rw [h1,h2]
    by_cases h3:j<x.tg.length
    ·rw [if_pos h3,if_pos ⟨this,by rw [←h2,List.getElem?_eq_getElem h3];rfl⟩]
    ·have h4:x.tg[p.2]? = none:=List.getElem?_eq_none (by omega);rw [if_neg h3,h4,if_neg (by simp)]
   ·rw [if_neg h2,if_neg (fun q=>h2 (by rw [←q.1]))]
 ·rw [if_neg h1,if_neg (fun q=>h1 (by rw [←q.1]))]
theorem slot_leaps:∀ (l:List (Nat×Nat)) (s:MkS) (p:Nat×Nat),slot (leaps l s) p=if p∈l/\(slot s p).isSome then some s.pos else slot s p
 | [],s,p=>by simp [leaps]
 | q::l,s,p=>by
  show slot (leaps l (s.leap q.1 q.2)) p=_;rw [slot_leaps l,slot_leap];have hp:(s.leap q.1 q.2).pos=s.pos:=rfl;rw [hp];by_cases h1:(slot s p).isSome
  ·by_cases h2:(q.1,q.2)=p
   ·have:p∈q::l:=by rw [←h2];exact List.mem_cons_self ..
    simp [h1,h2,this]
   ·have h3:¬q=p:=fun e=>h2 (by rw [←e])
    have h4:¬p=q:=fun e=>h3 e.symm
    simp [h1,h2,h4]
  ·have h5:slot s p=none:=by simpa using h1
   simp [h5]
theorem slot_put (s:MkS) (op v:Nat) (k tg:List Nat) (p:Nat×Nat) (h:p.1<s.code.length):slot (s.put op v k tg) p=slot s p:=by
 unfold slot;rw [code_put,List.getElem?_append_left h]
theorem slot_at {s s':MkS} {p:Nat×Nat} (h:s'.code[p.1]? = s.code[p.1]?):slot s' p=slot s p:=by unfold slot;rw [h]
def Steps {σ:Type} (F:Nat->σ->StO σ) (k:Nat) (r:σ) (k':Nat) (r':σ):Prop:=∃ n,n+k<=k'/\∀ fuel,runF F (fuel+n) k r=runF F fuel k' r'
section
variable {σ:Type} {F:Nat->σ->StO σ}
theorem Steps.refl (k:Nat) (r:σ):Steps F k r k r:=⟨0,by omega,fun _=>rfl⟩
theorem Steps.trans {k k1 k2:Nat} {r r1 r2:σ} (h:Steps F k r k1 r1) (h2:Steps F k1 r1 k2 r2):Steps F k r k2 r2:=by
 obtain ⟨n,hk,hn⟩:=h;obtain ⟨m,hk2,hm⟩:=h2;exact ⟨m+n,by omega,fun fuel=>by rw [←Nat.add_assoc,hn,hm]⟩
theorem Steps.one {k k':Nat} {r r':σ} (h:F k r = .go k' r') (hk:k<k':=by omega):Steps F k r k' r':=⟨1,by omega,fun fuel=>by rw [runF,h]⟩
end
section
variable {τ:Type} {F:Nat->RSt τ->StO (RSt τ)}
def Res (F:Nat->RSt τ->StO (RSt τ)) (k:Nat) (r:RSt τ) (k':Nat) (stk:List (SNum×SNum)):Except (Nat×τ) (Wd×τ)->Prop
 | .ok (o,g)=>Steps F k r k' ⟨o,stk,g⟩
 | .error (n,g)=>∃ m r',m+k<=k'/\(∀ fuel,runF F (fuel+m) k r=some (.error (n,r')))/\r'.gs=g
theorem Res.after {k k1 k':Nat} {r r1:RSt τ} {stk:List (SNum×SNum)} {res:Except (Nat×τ) (Wd×τ)} (h:Steps F k r k1 r1) (h2:Res F k1 r1 k' stk res):Res F k r k' stk res:=by
 cases res with
 | ok p=>exact h.trans h2
 | error e =>
  obtain ⟨n,hk,hn⟩:=h;obtain ⟨m,r',hk2,hm,hg⟩:=h2;exact ⟨m+n,r',by omega,fun fuel=>by rw [←Nat.add_assoc,hn,hm],hg⟩
theorem Res.err {k k' n:Nat} {r r':RSt τ} {stk:List (SNum×SNum)} (h:F k r = .err n r') (hk:k<k':=by omega):Res F k r k' stk (.error (n,r'.gs)):=⟨1,r',by omega,fun fuel=>by rw [runF,h],rfl⟩
theorem Res.far {k k1 k':Nat} {r:RSt τ} {stk:List (SNum×SNum)} {e:Nat×τ} {stk':List (SNum×SNum)} (h:Res F k r k1 stk (.error e)) (hk:k1<=k'):Res F k r k' stk' (.error e):=by
 obtain ⟨m,r',h1,h2,h3⟩:=h;exact ⟨m,r',by omega,h2,h3⟩
end
theorem go_msg:∀ (f:Fo),f.isMsg=true->∀ (bg:Wd->MkS->MkS) (s:MkS) (ls:List Nat),MkS.goS f bg s ls=(MkS.mes f s,ls)
 | .nil,_,_,_,_=>rfl
 | .text t r,h,bg,s,ls=>go_msg r h bg _ ls
 | .hash r,h,bg,s,ls=>go_msg r h bg _ ls
 | .put n a r,h,bg,s,ls=>go_msg r h bg _ ls
 | .num n a r,h,bg,s,ls=>go_msg r h bg _ ls
 | .br n a f o c bs r,h,bg,s,ls=>by
  rw [MkS.mes,MkS.goS,MkS.goS];split
  ·dsimp only;rw [go_msg r h bg,go_msg r h (fun _ s=>s)]
  ·dsimp only;rw [go_msg r h bg,go_msg r h (fun _ s=>s)]
 | .leg k a m r,h,bg,s,ls=>by cases h
theorem foldl_leaps (l:List Nat) (s:MkS):l.foldl (fun s i=>MkS.leap s i 0) s=leaps (l.map fun i=>(i,0)) s:=by
 unfold leaps;rw [List.foldl_map]
def catSl (ks:List Wd) (t:Nat) (key:Wd):List (Nat×Nat):=((List.range 6).filter fun c=>decide (catC.getD c []=key\/key=othC/\catC.getD c [] ∉ ks)).map fun c=>(t,c)
theorem catS_leaps (ks:List Wd) (t:Nat) (key:Wd) (s:MkS):MkS.catS ks t key s=leaps (catSl ks t key) s:=by
 unfold leaps catSl MkS.catS;rw [List.foldl_map,List.foldl_filter];congr 1;funext s c;simp only [decide_eq_true_eq]
def selSl (n:Wd) (bs:Fo) (s:MkS) (k:Wd):List (Nat×Nat):=[((MkS.sel1 n bs s).1.code.length,MkS.place bs.keys k)]
theorem selB_leaps (n:Wd) (bs:Fo) (s:MkS) (k:Wd) (x:MkS):MkS.selB n bs s k x=leaps (selSl n bs s k) x:=rfl
def pluSl (n o:Wd) (bs:Fo) (s:MkS) (k:Wd):List (Nat×Nat) :=
 match (MkS.plu1 n o bs s).2.lookup k with
 | some i=>[(i,0)]
 | none=>catSl bs.keys (MkS.plu1 n o bs s).1.code.length k
theorem pluB_leaps (n o:Wd) (bs:Fo) (s:MkS) (k:Wd) (x:MkS):MkS.pluB n o bs s k x=leaps (pluSl n o bs s k) x:=by
 unfold MkS.pluB pluSl
 cases h:(MkS.plu1 n o bs s).2.lookup k with
 | some i=>rfl
 | none=>exact catS_leaps _ _ _ _
theorem sel1_code (n:Wd) (bs:Fo) (s:MkS):(MkS.sel1 n bs s).1.code=s.code/\(MkS.sel1 n bs s).1.pos=s.pos:=by
 obtain ⟨_,_,_,d,e⟩:=MkS.selK_le bs (s.const n) [s.num n];obtain ⟨_,z2,z3⟩:=sz_const s n;exact ⟨d.trans z2,e.trans z3⟩
theorem ask_facts:∀ (f:Fo) (s:MkS) (acc:List (Wd×Nat)),s.code <+: (MkS.askS f s acc).1.code/\acc <+: (MkS.askS f s acc).2/\∀ p∈(MkS.askS f s acc).2,p∈acc\/s.code.length<=p.2/\p.2<(MkS.askS f s acc).1.code.length
 | .leg k a m r,s,acc=>by
  rw [MkS.askS];split
  ·obtain ⟨h1,h2,h3⟩:=ask_facts r (s.put 7 (offV k.tail) [] [0]) (acc++[(k,s.code.length)]);have hl:(s.put 7 (offV k.tail) [] [0]).code.length=s.code.length+1:=by simp [code_put]
   have:=h1.length_le;refine ⟨(show s.code <+: (s.put 7 (offV k.tail) [] [0]).code from List.prefix_append _ _).trans h1,(List.prefix_append _ _).trans h2,fun p hp=>?_⟩;rcases h3 p hp with q | q
   ·rw [List.mem_append,List.mem_singleton] at q;rcases q with q | rfl
    ·exact .inl q
    ·exact .inr ⟨Nat.le_refl _,by show s.code.length<_;omega⟩
   ·exact .inr ⟨by omega,q.2⟩
  ·exact ask_facts r s acc
 | .nil,s,acc=>⟨List.prefix_refl _,List.prefix_refl _,fun p hp => .inl hp⟩
 | .text _ _,s,acc=>⟨List.prefix_refl _,List.prefix_refl _,fun p hp => .inl hp⟩
 | .hash _,s,acc=>⟨List.prefix_refl _,List.prefix_refl _,fun p hp => .inl hp⟩
 | .put _ _ _,s,acc=>⟨List.prefix_refl _,List.prefix_refl _,fun p hp => .inl hp⟩
 | .num _ _ _,s,acc=>⟨List.prefix_refl _,List.prefix_refl _,fun p hp => .inl hp⟩
 | .br _ _ _ _ _ _ _,s,acc=>⟨List.prefix_refl _,List.prefix_refl _,fun p hp => .inl hp⟩
theorem look_mem {l:List (Wd×Nat)} {k:Wd} {i:Nat} (h:l.lookup k=some i):(k,i)∈l:=by
 induction l with
 | nil=>cases h
 | cons p l ih =>
  obtain ⟨a,b⟩:=p;rw [List.lookup_cons] at h
  cases hk:k==a
  ·rw [hk] at h;exact List.mem_cons_of_mem _ (ih h)
  ·rw [hk] at h;cases h;rw [beq_iff_eq] at hk;subst hk;exact List.mem_cons_self ..
theorem look_pre {l l':List (Wd×Nat)} {k:Wd} {i:Nat} (h:l.lookup k=some i) (hp:l <+: l'):l'.lookup k=some i:=by
 obtain ⟨t,rfl⟩:=hp;induction l with
 | nil=>cases h
 | cons p l ih =>
  obtain ⟨a,b⟩:=p;rw [List.lookup_cons] at h;rw [List.cons_append,List.lookup_cons]
  cases hk:k==a
  ·rw [hk] at h;exact ih h
  ·rw [hk] at h;exact h
theorem look_snoc {l:List (Wd×Nat)} {k:Wd} (h:l.lookup k=none) (i:Nat):(l++[(k,i)]).lookup k=some i:=by
 induction l with
 | nil=>rw [List.nil_append,List.lookup_cons,beq_self_eq_true]
 | cons p l ih =>
  obtain ⟨a,b⟩:=p;rw [List.lookup_cons] at h;rw [List.cons_append,List.lookup_cons]
  cases hk:k==a
  ·rw [hk] at h;exact ih h
  ·rw [hk] at h;cases h
theorem look_snoc_ne {l:List (Wd×Nat)} {k k':Wd} (h:l.lookup k=none) (hn:k≠k') (i:Nat):(l++[(k',i)]).lookup k=none:=by
 induction l with
 | nil =>
  rw [List.nil_append,List.lookup_cons,show (k==k')=false from beq_eq_false_iff_ne.2 hn];rfl
 | cons p l ih =>
  obtain ⟨a,b⟩:=p;rw [List.lookup_cons] at h;rw [List.cons_append,List.lookup_cons]
  cases hk:k==a
  ·rw [hk] at h;exact ih h
  ·rw [hk] at h;cases h
theorem plu_facts (n o:Wd) (bs:Fo) (s:MkS):s.code.length+1<=(MkS.plu1 n o bs s).1.code.length/\(∀ (i:Nat) (x:InL),s.code[i]? = some x->(MkS.plu1 n o bs s).1.code[i]? = some x)/\∀ k,∀ p∈pluSl n o bs s k,s.code.length+1<=p.1/\p.1<=(MkS.plu1 n o bs s).1.code.length:=by
 obtain ⟨h1,h2,h3⟩:=ask_facts bs ((s.const n).put 4 (offV o) [s.num n] []) [];have hl:((s.const n).put 4 (offV o) [s.num n] []).code.length=s.code.length+1:=by simp [code_put,(sz_const s n).2.1]
 have hle:=h1.length_le;rw [hl] at hle h3;refine ⟨hle,fun i x hx=>?_,fun k p hp=>?_⟩
 ·obtain ⟨t,ht⟩:=h1;show (MkS.askS bs ((s.const n).put 4 (offV o) [s.num n] []) []).1.code[i]? = some x;rw [←ht,List.getElem?_append_left (by rw [hl];have:=(List.getElem?_eq_some_iff.1 hx).1;omega),code_put,(sz_const s n).2.1,List.getElem?_append_left (List.getElem?_eq_some_iff.1 hx).1];exact hx
 ·unfold pluSl at hp;split at hp
  ·next i hi =>
   rw [List.mem_singleton] at hp;subst hp;rcases h3 _ (look_mem hi) with q | q
   ·cases q
   ·exact ⟨q.1,Nat.le_of_lt q.2⟩
  ·obtain ⟨c,_,rfl⟩:=List.mem_map.1 hp;exact ⟨hle,Nat.le_refl _⟩
theorem go_facts:∀ (f:Fo) (sl:Wd->List (Nat×Nat)) (bg:Wd->MkS->MkS),(∀ k x,bg k x=leaps (sl k) x)->∀ (s:MkS) (ls:List Nat),
  s.code.length<=(MkS.goS f bg s ls).1.code.length/\(∀ e∈(MkS.goS f bg s ls).2,e∈ls\/s.code.length<=e/\e<(MkS.goS f bg s ls).1.code.length)/\(∀ e∈ls,e∈(MkS.goS f bg s ls).2) /\
  ∀ i,i<s.code.length->(∀ k,∀ p∈sl k,p.1≠i)->(MkS.goS f bg s ls).1.code[i]? = s.code[i]?
 | .nil,sl,bg,hb,s,ls=>⟨Nat.le_refl _,fun e he => .inl he,fun e he=>he,fun _ _ _=>rfl⟩
 | .text t r,sl,bg,hb,s,ls=>by
  have hl:(s.one 1 t).code=s.code++[⟨1,(s.const t).pos,0,[s.num t],[]⟩]:=by rw [MkS.one,code_put,(sz_const s t).2.1]
  exact go_more (x:=⟨1,(s.const t).pos,0,[s.num t],[]⟩) hl (go_facts r sl bg hb (s.one 1 t) ls)
 | .hash r,sl,bg,hb,s,ls=>go_more rfl (go_facts r sl bg hb (s.put 6 0 [] []) ls)
 | .put n a r,sl,bg,hb,s,ls=>by
  have hl:(s.one 2 n).code=s.code++[⟨2,(s.const n).pos,0,[s.num n],[]⟩]:=by rw [MkS.one,code_put,(sz_const s n).2.1]
  exact go_more hl (go_facts r sl bg hb (s.one 2 n) ls)
 | .num n a r,sl,bg,hb,s,ls=>by
  have hl:(s.one 3 n).code=s.code++[⟨3,(s.const n).pos,0,[s.num n],[]⟩]:=by rw [MkS.one,code_put,(sz_const s n).2.1]
  exact go_more hl (go_facts r sl bg hb (s.one 3 n) ls)
 | .br n a f o c bs r,sl,bg,hb,s,ls=>by
  rw [MkS.goS];split
  ·have hS:(MkS.selS n bs s).code=s.code++[⟨10,(MkS.sel1 n bs s).1.pos,0,(MkS.sel1 n bs s).2,List.replicate (MkS.sel1 n bs s).2.length 0⟩]:=by rw [MkS.selS,code_put,(sel1_code n bs s).1]
   have hlen:(MkS.selS n bs s).code.length=s.code.length+1:=by rw [hS];simp
   obtain ⟨a1,a2,a3,a4⟩:=go_facts bs (selSl n bs s) (MkS.selB n bs s) (selB_leaps n bs s) (MkS.selS n bs s) [];dsimp only;rw [foldl_leaps];refine go_join (n:=s.code.length) ?_ ?_ (go_facts r sl bg hb _ ls)
   ·rw [(leaps_len _ _).1];omega
   ·intro i hi;rw [leaps_other _ _ _ (fun p hp=>?_),a4 i (by omega) (fun k p hp=>?_),hS,List.getElem?_append_left hi]
    ·rw [selSl,List.mem_singleton] at hp;subst hp;show (MkS.sel1 n bs s).1.code.length≠i;rw [(sel1_code n bs s).1];omega
    ·obtain ⟨e,he,rfl⟩:=List.mem_map.1 hp;rcases a2 e he with q | q
     ·cases q
     ·show e≠i;omega
  ·obtain ⟨b1,b2,b3⟩:=plu_facts n o bs s;have hS:(MkS.pluS n o f bs s).code=(MkS.plu1 n o bs s).1.code++[⟨if f=2 then 9 else 8,(MkS.plu1 n o bs s).1.pos,0,[],List.replicate 6 0⟩]:=by rw [MkS.pluS,code_put]
   have hlen:(MkS.pluS n o f bs s).code.length=(MkS.plu1 n o bs s).1.code.length+1:=by rw [hS];simp
   obtain ⟨a1,a2,a3,a4⟩:=go_facts bs (pluSl n o bs s) (MkS.pluB n o bs s) (pluB_leaps n o bs s) (MkS.pluS n o f bs s) [];dsimp only;rw [foldl_leaps];refine go_join (n:=s.code.length) ?_ ?_ (go_facts r sl bg hb _ ls)
   ·rw [code_put,List.length_append,(leaps_len _ _).1];omega
   ·intro i hi;obtain ⟨x,hx⟩:∃ x,s.code[i]? = some x:=⟨_,List.getElem?_eq_getElem hi⟩;rw [code_put,List.getElem?_append_left (by rw [(leaps_len _ _).1];omega),leaps_other _ _ _ (fun p hp=>?_),a4 i (by omega) (fun k p hp=>?_),hS,List.getElem?_append_left (by omega),b2 i x hx,hx]
    ·have:=b3 k p hp;omega
    ·obtain ⟨e,he,rfl⟩:=List.mem_map.1 hp;rcases a2 e he with q | q
     ·cases q
     ·show e≠i;omega
 | .leg k a m r,sl,bg,hb,s,ls=>by
  rw [MkS.goS];rw [hb];obtain ⟨a1,a2,a3,a4⟩:=go_facts m (fun _=>[]) (fun _ s=>s) (fun _ _=>rfl) (leaps (sl k) s) [];rw [(leaps_len _ _).1] at a1 a2 a4;obtain ⟨c1,c2,c3,c4⟩:=go_facts r sl bg hb ((MkS.goS m (fun _ s=>s) (leaps (sl k) s) []).1.put 11 0 [] [0]) (ls++[(MkS.goS m (fun _ s=>s) (leaps (sl k) s) []).1.code.length]);rw [code_put,List.length_append] at c1 c2 c4;simp only [List.length_cons,List.length_nil] at c1 c2 c4;refine ⟨by omega,fun e he=>?_,fun e he=>c3 e (List.mem_append_left _ he),fun i hi hp=>?_⟩
  ·rcases c2 e he with q | q
   ·rw [List.mem_append,List.mem_singleton] at q;rcases q with q | rfl
    ·exact .inl q
    ·exact .inr ⟨by omega,by omega⟩
   ·exact .inr ⟨by omega,q.2⟩
  ·rw [c4 i (by omega) hp,List.getElem?_append_left (by omega),a4 i hi (fun _ _ q=>by cases q),leaps_other _ _ _ (fun p h=>hp k p h)]
where
 go_join {n:Nat} {s s':MkS} {ls:List Nat} {r:MkS×List Nat} {sl:Wd->List (Nat×Nat)} (h1:s.code.length<=s'.code.length) (h2:∀ i,i<s.code.length->s'.code[i]? = s.code[i]?)
   (h:s'.code.length<=r.1.code.length/\(∀ e∈r.2,e∈ls\/s'.code.length<=e/\e<r.1.code.length)/\(∀ e∈ls,e∈r.2)/\∀ i,i<s'.code.length->(∀ k,∀ p∈sl k,p.1≠i)->r.1.code[i]? = s'.code[i]?) :
   s.code.length<=r.1.code.length/\(∀ e∈r.2,e∈ls\/s.code.length<=e/\e<r.1.code.length)/\(∀ e∈ls,e∈r.2)/\∀ i,i<s.code.length->(∀ k,∀ p∈sl k,p.1≠i)->r.1.code[i]? = s.code[i]? := by
  obtain ⟨a,b,c,d⟩:=h;exact ⟨by omega,fun e he=>(b e he).imp id (fun q=>⟨by omega,q.2⟩),c,fun i hi hp=>(d i (by omega) hp).trans (h2 i hi)⟩
 go_more {s s':MkS} {x:InL} {ls:List Nat} {r:MkS×List Nat} {sl:Wd->List (Nat×Nat)} (hx:s'.code=s.code++[x])
   (h:s'.code.length<=r.1.code.length/\(∀ e∈r.2,e∈ls\/s'.code.length<=e/\e<r.1.code.length)/\(∀ e∈ls,e∈r.2)/\∀ i,i<s'.code.length->(∀ k,∀ p∈sl k,p.1≠i)->r.1.code[i]? = s'.code[i]?) :
   s.code.length<=r.1.code.length/\(∀ e∈r.2,e∈ls\/s.code.length<=e/\e<r.1.code.length)/\(∀ e∈ls,e∈r.2)/\∀ i,i<s.code.length->(∀ k,∀ p∈sl k,p.1≠i)->r.1.code[i]? = s.code[i]? :=
  go_join (n:=0) (by rw [hx];simp) (fun i hi=>by rw [hx,List.getElem?_append_left hi]) h
theorem leaps_inv {P:MkS->Prop} (I:MkInv P) (l:List (Nat×Nat)) (s:MkS) (h:P s):P (leaps l s):=MkS.foldl_inv P _ (fun s p hs=>I.leap s p.1 p.2 hs) l s h
theorem go_inv {P:MkS->Prop} (I:MkInv P) (f:Fo) {sl:Wd->List (Nat×Nat)} {bg:Wd->MkS->MkS} (hb:∀ k x,bg k x=leaps (sl k) x) (s:MkS) (ls:List Nat) (h:P s):P (MkS.goS f bg s ls).1 :=
 I.go f bg s ls (fun k s hs=>by rw [hb];exact leaps_inv I _ _ hs) h
theorem mes_inv {P:MkS->Prop} (I:MkInv P) (f:Fo) (s:MkS) (h:P s):P (MkS.mes f s):=I.go f _ s [] (fun _ _ h=>h) h
theorem sh_refl (s:MkS):∀ (i:Nat) (x:InL),s.code[i]? = some x->∃ y,s.code[i]? = some y/\shx y=shx x:=fun i x h=>⟨x,h,rfl⟩
theorem mes_facts (f:Fo) (s:MkS):s.code.length<=(MkS.mes f s).code.length/\∀ i,i<s.code.length->(MkS.mes f s).code[i]? = s.code[i]? := by
 obtain ⟨a,_,_,d⟩:=go_facts f (fun _=>[]) (fun _ s=>s) (fun _ _=>rfl) s [];exact ⟨a,fun i hi=>d i hi (fun _ _ q=>by cases q)⟩
theorem mes_sel (n:Wd) (a:Nat) (o:Wd) (c:Nat) (bs r:Fo) (s:MkS) (hr:r.isMsg=true) :
  MkS.mes (.br n a 0 o c bs r) s=MkS.mes r (leaps ((MkS.goS bs (MkS.selB n bs s) (MkS.selS n bs s) []).2.map fun i=>(i,0)) (MkS.goS bs (MkS.selB n bs s) (MkS.selS n bs s) []).1):=by
 rw [MkS.mes,MkS.goS,if_pos rfl,go_msg r hr,←foldl_leaps]
theorem mes_plu (n:Wd) (a f:Nat) (o:Wd) (c:Nat) (bs r:Fo) (s:MkS) (hf:f≠0) (hr:r.isMsg=true) :
  MkS.mes (.br n a f o c bs r) s=MkS.mes r ((leaps ((MkS.goS bs (MkS.pluB n o bs s) (MkS.pluS n o f bs s) []).2.map fun i=>(i,0)) (MkS.goS bs (MkS.pluB n o bs s) (MkS.pluS n o f bs s) []).1).put 5 0 [] []):=by
 rw [MkS.mes,MkS.goS,if_neg hf,go_msg r hr,←foldl_leaps]
theorem selS_code (n:Wd) (bs:Fo) (s:MkS):(MkS.selS n bs s).code=s.code++[⟨10,s.pos,0,(MkS.sel1 n bs s).2,List.replicate (MkS.sel1 n bs s).2.length 0⟩]:=by
 rw [MkS.selS,code_put,(sel1_code n bs s).1,(sel1_code n bs s).2]
theorem pluS_code (n o:Wd) (f:Nat) (bs:Fo) (s:MkS):(MkS.pluS n o f bs s).code=(MkS.plu1 n o bs s).1.code++[⟨if f=2 then 9 else 8,(MkS.plu1 n o bs s).1.pos,0,[],List.replicate 6 0⟩]:=rfl
theorem plu1_at (n o:Wd) (bs:Fo) (s:MkS):(MkS.plu1 n o bs s).1.code[s.code.length]? = some ⟨4,s.pos,offV o,[s.num n],[]⟩:=by
 obtain ⟨⟨t,ht⟩,_⟩:=ask_facts bs ((s.const n).put 4 (offV o) [s.num n] []) [];rw [MkS.plu1,←ht,code_put,(sz_const s n).2.1,(sz_const s n).2.2];rw [List.append_assoc,List.getElem?_append_right (Nat.le_refl _)];simp
theorem mes_first:∀ (f:Fo),f.isMsg=true->∀ (s:MkS),((MkS.mes f s).code.length=s.code.length/\(MkS.mes f s).pos=s.pos)\/∃ x,(MkS.mes f s).code[s.code.length]? = some x/\x.pos=s.pos:=by
 have key:∀ (r:Fo) (s s':MkS) (x:InL),s'.code[s.code.length]? = some x->x.pos=s.pos->∃ x,(MkS.mes r s').code[s.code.length]? = some x/\x.pos=s.pos:=by
  intro r s s' x hx hp;exact ⟨x,by rw [(mes_facts r s').2 _ (List.getElem?_eq_some_iff.1 hx).1];exact hx,hp⟩
 have kput:∀ (s s':MkS) (op v:Nat) (k tg:List Nat),s'.code=s.code->s'.pos=s.pos->(s'.put op v k tg).code[s.code.length]? = some ⟨op,s.pos,v,k,tg⟩:=by
  intro s s' op v k tg h1 h2;rw [code_put,h1,h2,List.getElem?_append_right (Nat.le_refl _)];simp
 intro f hf s
 cases f with
 | nil=>exact .inl ⟨rfl,rfl⟩
 | text t r=>exact .inr (key r s (s.one 1 t) _ (kput s (s.const t) _ _ _ _ (sz_const s t).2.1 (sz_const s t).2.2) rfl)
 | hash r=>exact .inr (key r s (s.put 6 0 [] []) _ (kput s s _ _ _ _ rfl rfl) rfl)
 | put n a r=>exact .inr (key r s (s.one 2 n) _ (kput s (s.const n) _ _ _ _ (sz_const s n).2.1 (sz_const s n).2.2) rfl)
 | num n a r=>exact .inr (key r s (s.one 3 n) _ (kput s (s.const n) _ _ _ _ (sz_const s n).2.1 (sz_const s n).2.2) rfl)
 | br n a f o c bs r =>
  right;by_cases h0:f=0
  ·subst h0;rw [mes_sel n a o c bs r s hf];have h1:(MkS.selS n bs s).code[s.code.length]? = some ⟨10,s.pos,0,(MkS.sel1 n bs s).2,List.replicate (MkS.sel1 n bs s).2.length 0⟩:=by
    rw [selS_code,List.getElem?_append_right (Nat.le_refl _)];simp
   obtain ⟨y,h2,h3⟩:=leaps_inv (sh_inv (MkS.selS n bs s)) ((MkS.goS bs (MkS.selB n bs s) (MkS.selS n bs s) []).2.map fun i=>(i,0)) _ (go_inv (sh_inv (MkS.selS n bs s)) bs (selB_leaps n bs s) _ [] (sh_refl _)) _ _ h1;exact key r s _ y h2 (by simp only [shx,Prod.mk.injEq] at h3;exact h3.2.1)
  ·rw [mes_plu n a f o c bs r s h0 hf];have h1:(MkS.pluS n o f bs s).code[s.code.length]? = some ⟨4,s.pos,offV o,[s.num n],[]⟩:=by
    have:=(plu_facts n o bs s).1;rw [pluS_code,List.getElem?_append_left (by omega)];exact plu1_at n o bs s
   obtain ⟨y,h2,h3⟩:=(sh_inv (MkS.pluS n o f bs s)).put _ 5 0 [] [] (leaps_inv (sh_inv (MkS.pluS n o f bs s)) ((MkS.goS bs (MkS.pluB n o bs s) (MkS.pluS n o f bs s) []).2.map fun i=>(i,0)) _ (go_inv (sh_inv (MkS.pluS n o f bs s)) bs (pluB_leaps n o bs s) _ [] (sh_refl _))) _ _ h1;exact key r s _ y h2 (by simp only [shx,Prod.mk.injEq] at h3;exact h3.2.1)
 | leg k a m r=>cases hf
theorem legs_slot:∀ (f:Fo) (sl:Wd->List (Nat×Nat)) (bg:Wd->MkS->MkS),(∀ k x,bg k x=leaps (sl k) x)->f.isLegs=true->∀ (s:MkS) (ls:List Nat) (q:Nat×Nat),q.1<s.code.length->(∀ k∈f.keys,q ∉ sl k)->slot (MkS.goS f bg s ls).1 q=slot s q
 | .leg k a m r,sl,bg,hb,hl,s,ls,q,hq,hk=>by
  rw [MkS.goS,hb];obtain ⟨a1,a2⟩:=mes_facts m (leaps (sl k) s);rw [(leaps_len _ _).1] at a1 a2;show slot (MkS.goS r bg ((MkS.mes m (leaps (sl k) s)).put 11 0 [] [0]) _).1 q=_;rw [legs_slot r sl bg hb hl _ _ q (by rw [code_put,List.length_append];omega) (fun k' h'=>hk k' (List.mem_cons_of_mem _ h')),slot_put _ _ _ _ _ _ (by omega),slot_at (a2 _ hq),slot_leaps,if_neg (fun e=>hk k (List.mem_cons_self ..) e.1)]
 | .nil,_,_,_,_,_,_,_,_,_=>rfl
 | .text _ _,_,_,_,h,_,_,_,_,_=>by cases h
 | .hash _,_,_,_,h,_,_,_,_,_=>by cases h
 | .put _ _ _,_,_,_,h,_,_,_,_,_=>by cases h
 | .num _ _ _,_,_,_,h,_,_,_,_,_=>by cases h
 | .br _ _ _ _ _ _ _,_,_,_,h,_,_,_,_,_=>by cases h
theorem ask_head:∀ (f:Fo) (s:MkS) (acc:List (Wd×Nat)),∀ p∈(MkS.askS f s acc).2,p∈acc\/p.1.head? = some 61
 | .leg k a m r,s,acc,p,hp=>by
  rw [MkS.askS] at hp;split at hp
  ·next hk =>
   rcases ask_head r _ _ p hp with q | q
   ·rw [List.mem_append,List.mem_singleton] at q;rcases q with q | rfl
    ·exact .inl q
    ·exact .inr hk
   ·exact .inr q
  ·exact ask_head r s acc p hp
 | .nil,_,_,_,hp => .inl hp
 | .text _ _,_,_,_,hp => .inl hp
 | .hash _,_,_,_,hp => .inl hp
 | .put _ _ _,_,_,_,hp => .inl hp
 | .num _ _ _,_,_,_,hp => .inl hp
 | .br _ _ _ _ _ _ _,_,_,_,hp => .inl hp
theorem ask_inj:∀ (f:Fo) (s:MkS) (acc:List (Wd×Nat)),(∀ p∈acc,p.2<s.code.length)->(∀ p∈acc,∀ q∈acc,p.2=q.2->p=q)->∀ p∈(MkS.askS f s acc).2,∀ q∈(MkS.askS f s acc).2,p.2=q.2->p=q
 | .leg k a m r,s,acc,h1,h2=>by
  rw [MkS.askS];split
  ·refine ask_inj r _ _ (fun p hp=>?_) (fun p hp q hq e=>?_)
   ·rw [code_put,List.length_append];rw [List.mem_append,List.mem_singleton] at hp;rcases hp with hp | rfl
    ·have:=h1 p hp;simp;omega
    ·simp
   ·rw [List.mem_append,List.mem_singleton] at hp hq;rcases hp with hp | rfl
    ·rcases hq with hq | rfl
     ·exact h2 p hp q hq e
     ·have:=h1 p hp;simp only at e;omega
    ·rcases hq with hq | rfl
     ·have:=h1 q hq;simp only at e;omega
     ·rfl
  ·exact ask_inj r s acc h1 h2
 | .nil,_,_,_,h2=>h2
 | .text _ _,_,_,_,h2=>h2
 | .hash _,_,_,_,h2=>h2
 | .put _ _ _,_,_,_,h2=>h2
 | .num _ _ _,_,_,_,h2=>h2
 | .br _ _ _ _ _ _ _,_,_,_,h2=>h2
section
variable {τ:Type} {E:EnvF τ} {s:MkS}
def eqP (v:SNum) (k:Wd):Bool:=decide (k.head? = some 61) && sameN v (offV k.tail)
theorem step_at {k:Nat} {x:InL} (h:s.code[k]? = some x) (r:RSt τ):stepM E s k r=insF E s x k r:=by unfold stepM;rw [h]
theorem toF_hit (h:PosOk s) {k:Nat} {x:InL} (hx:s.code[k]? = some x) {p:Nat} (hp:x.pos=p) (r:RSt τ):toF s (some p) r = .go k r:=by
 subst hp;simp only [toF,posN_hit h hx]
theorem shx_parts {x y:InL} (h:shx y=shx x):y.op=x.op/\y.pos=x.pos/\y.v=x.v/\y.k=x.k/\y.tg.length=x.tg.length:=by
 simpa [shx] using h
theorem ask_run (v z:SNum):∀ (bs:Fo) (s0:MkS) (acc:List (Wd×Nat)),bs.isLegs=true->bs.keys.Nodup->(∀ k∈bs.keys,acc.lookup k=none)->(∀ (i:Nat) (x:InL),s0.code.length<=i->(MkS.askS bs s0 acc).1.code[i]? = some x->∃ y,s.code[i]? = some y/\shx y=shx x) ->
  match bs.keys.find? (eqP v) with
  | none=>∀ (o:Wd) (g:τ) (stk:List (SNum×SNum)),stk.getLast? = some (v,z)->Steps (stepM E s) s0.code.length ⟨o,stk,g⟩ (MkS.askS bs s0 acc).1.code.length ⟨o,stk,g⟩
  | some k=>∃ i x,(MkS.askS bs s0 acc).2.lookup k=some i/\(MkS.askS bs s0 acc).1.code[i]? = some x/\x.op=7/\x.tg.length=1/\sameN v x.v=true /\
    ∀ (o:Wd) (g:τ) (stk:List (SNum×SNum)),stk.getLast? = some (v,z)->Steps (stepM E s) s0.code.length ⟨o,stk,g⟩ i ⟨o,stk,g⟩
 | .leg k a m r,s0,acc,hl,hd,ha,hs=>by
  have hd':=List.nodup_cons.1 (show (k::r.keys).Nodup from hd);rw [show (Fo.leg k a m r).keys=k::r.keys from rfl,List.find?_cons];rw [MkS.askS] at hs ⊢;by_cases hk:k.head? = some 61
  ·rw [if_pos hk] at hs ⊢;obtain ⟨⟨t,ht⟩,h2,h3⟩:=ask_facts r (s0.put 7 (offV k.tail) [] [0]) (acc++[(k,s0.code.length)]);have hx:(MkS.askS r (s0.put 7 (offV k.tail) [] [0]) (acc++[(k,s0.code.length)])).1.code[s0.code.length]? = some ⟨7,s0.pos,offV k.tail,[],[0]⟩:=by
    rw [←ht,code_put,List.append_assoc,List.getElem?_append_right (Nat.le_refl _)];simp
   obtain ⟨y,hy,hsh⟩:=hs _ _ (Nat.le_refl _) hx;obtain ⟨e1,e2,e3,e4,e5⟩:=shx_parts hsh;have hp:eqP v k=sameN v (offV k.tail):=by unfold eqP;simp [hk]
   cases hsame:sameN v (offV k.tail)
   ·rw [hp,hsame];have ih:=ask_run v z r (s0.put 7 (offV k.tail) [] [0]) (acc++[(k,s0.code.length)]) hl hd'.2 (fun k' h'=>look_snoc_ne (ha k' (List.mem_cons_of_mem _ h')) (fun e=>hd'.1 (by rw [←e];exact h')) _) (fun i x hi=>hs i x (by rw [code_put] at hi;simp at hi;omega));have hlen:(s0.put 7 (offV k.tail) [] [0]).code.length=s0.code.length+1:=by rw [code_put];simp
    rw [hlen] at ih;have hst:∀ (o:Wd) (g:τ) (stk:List (SNum×SNum)),stk.getLast? = some (v,z)->Steps (stepM E s) s0.code.length ⟨o,stk,g⟩ (s0.code.length+1) ⟨o,stk,g⟩:=by
     intro o g stk htop;refine Steps.one ?_;rw [step_at hy];unfold insF;rw [e1];simp only [htop,e3,hsame];rfl
    dsimp only;split at ih
    ·next hf=>rw [hf];exact fun o g stk htop=>(hst o g stk htop).trans (ih o g stk htop)
    ·next k' hf =>
     rw [hf];obtain ⟨i,x,h1,h2,h3,h4,h5,h6⟩:=ih;exact ⟨i,x,h1,h2,h3,h4,h5,fun o g stk htop=>(hst o g stk htop).trans (h6 o g stk htop)⟩
   ·rw [hp,hsame];exact ⟨s0.code.length,_,look_pre (look_snoc (ha k (List.mem_cons_self ..)) _) h2,hx,rfl,rfl,hsame,fun o g stk htop=>Steps.refl _ _⟩
  ·rw [if_neg hk] at hs ⊢;have hp:eqP v k=false:=by unfold eqP;simp [hk]
   rw [hp];exact ask_run v z r s0 acc hl hd'.2 (fun k' h'=>ha k' (List.mem_cons_of_mem _ h')) hs
 | .nil,s0,acc,_,_,_,_=>fun o g stk _=>Steps.refl _ _
 | .text _ _,_,_,h,_,_,_=>by cases h
 | .hash _,_,_,h,_,_,_=>by cases h
 | .put _ _ _,_,_,h,_,_,_=>by cases h
 | .num _ _ _,_,_,h,_,_,_=>by cases h
 | .br _ _ _ _ _ _ _,_,_,h,_,_,_=>by cases h
end
def MsgOk {τ:Type} (E:EnvF τ) (f:Fo):Prop:=f.isMsg=true->∀ (b:Bool),f.vok b->∀ (s0 s:MkS),
 (∀ i,s0.code.length<=i->i<(MkS.mes f s0).code.length->s.code[i]? = (MkS.mes f s0).code[i]?)->(MkS.mes f s0).cs <+: s.cs->PosOk s->(∃ x,s.code[(MkS.mes f s0).code.length]? = some x/\x.pos=(MkS.mes f s0).pos) ->
 ∀ (k:Wd) (x:SNum) (o:Wd) (g:τ) (stk:List (SNum×SNum)),(b=true->∃ n,stk.getLast? = some (n,x))->Res (stepM E s) s0.code.length ⟨o,stk,g⟩ (MkS.mes f s0).code.length stk (sayF E f k x o g)
def LegOk {τ:Type} (E:EnvF τ) (bs:Fo):Prop:=bs.isLegs=true->∀ (b:Bool),bs.vok b->∀ (sl:Wd->List (Nat×Nat)) (bg:Wd->MkS->MkS),(∀ k x,bg k x=leaps (sl k) x)->∀ (s2:MkS) (ls:List Nat) (K:Wd),bs.keys.Nodup->K∈bs.keys ->
 (∀ k,∀ p∈sl k,p.1<s2.code.length)->(∀ e∈ls,e<s2.code.length) ->
 ∃ a p e xa xe,s2.code.length<=a/\a<=e/\e<(MkS.goS bs bg s2 ls).1.code.length/\e∈(MkS.goS bs bg s2 ls).2/\(∀ i,a<=i->i<e->i ∉ (MkS.goS bs bg s2 ls).2) /\
  (MkS.goS bs bg s2 ls).1.code[e]? = some xe/\xe.op=11/\xe.tg.length=1/\(MkS.goS bs bg s2 ls).1.code[a]? = some xa/\xa.pos=p /\
  (∀ q∈sl K,(slot s2 q).isSome->(∀ k'∈bs.keys,k'≠K->q ∉ sl k')->slot (MkS.goS bs bg s2 ls).1 q=some p) /\
  ∀ s:MkS,(∀ i,a<=i->i<e->s.code[i]? = (MkS.goS bs bg s2 ls).1.code[i]?)->(∃ z,s.code[e]? = some z/\z.pos=xe.pos)->(MkS.goS bs bg s2 ls).1.cs <+: s.cs->PosOk s ->
   ∀ (x:SNum) (o:Wd) (g:τ) (stk:List (SNum×SNum)),(b=true->∃ n,stk.getLast? = some (n,x))->Res (stepM E s) a ⟨o,stk,g⟩ e stk (sayF E bs K x o g)
section
variable {τ:Type} {E:EnvF τ}
theorem msg_cons {r:Fo} (hr:MsgOk E r) (hm:r.isMsg=true) {b:Bool} (hv:r.vok b) {s0 s1 s:MkS} {x:InL} (h1:s1.code=s0.code++[x]) (ha:∀ i,s0.code.length<=i->i<(MkS.mes r s1).code.length->s.code[i]? = (MkS.mes r s1).code[i]?) (hcs:(MkS.mes r s1).cs <+: s.cs) (hp:PosOk s)
  (hn:∃ x,s.code[(MkS.mes r s1).code.length]? = some x/\x.pos=(MkS.mes r s1).pos) {z:SNum} {stk:List (SNum×SNum)} (hs:b=true->∃ n,stk.getLast? = some (n,z)) (k:Wd) :
  s.code[s0.code.length]? = some x/\s1.cs <+: s.cs/\s0.code.length<(MkS.mes r s1).code.length/\∀ (o:Wd) (g:τ),Res (stepM E s) (s0.code.length+1) ⟨o,stk,g⟩ (MkS.mes r s1).code.length stk (sayF E r k z o g):=by
 have hl:s1.code.length=s0.code.length+1:=by rw [h1];simp
 obtain ⟨a1,a2⟩:=mes_facts r s1;refine ⟨?_,(mes_inv (cs_inv s1.cs) r s1 (List.prefix_refl _)).trans hcs,by omega,fun o g=>?_⟩
 ·rw [ha _ (Nat.le_refl _) (by omega),a2 _ (by omega),h1,List.getElem?_append_right (Nat.le_refl _)];simp
 ·have:=hr hm b hv s1 s (fun i h1 h2=>ha i (by omega) h2) hcs hp hn k z o g stk hs;rw [hl] at this;exact this
theorem con_hit {s0 s:MkS} (t:Wd) (h:(s0.const t).cs <+: s.cs):s.cs[s0.num t]? = some t:=by
 obtain ⟨u,hu⟩:=h;have h1:(s0.const t).cs[s0.num t]? = some t:=by
  unfold MkS.const MkS.num;by_cases ht:t∈s0.cs
  ·rw [if_pos ht];rw [List.getElem?_eq_getElem (List.idxOf_lt_length_of_mem ht),List.getElem_idxOf]
  ·rw [if_neg ht];simp only;rw [List.idxOf_eq_length ht,List.getElem?_append_right (Nat.le_refl _)];simp
 rw [←hu,List.getElem?_append_left (List.getElem?_eq_some_iff.1 h1).1];exact h1
theorem sel_cons:∀ (bs:Fo) (s:MkS) (acc:List Nat) (c:List Wd),bs.isLegs=true->(MkS.selK bs s acc).1.cs <+: c->∃ t,(MkS.selK bs s acc).2=acc++t/\t.map (fun j=>c[j]?)=(bs.keys.filter (· ≠ othC)).map some
 | .leg k a m r,s,acc,c,hl,hc=>by
  rw [MkS.selK] at hc ⊢;rw [show (Fo.leg k a m r).keys=k::r.keys from rfl];by_cases hk:k=othC
  ·rw [if_pos hk] at hc ⊢;rw [List.filter_cons_of_neg (by simp [hk])];exact sel_cons r s acc c hl hc
  ·rw [if_neg hk] at hc ⊢;rw [List.filter_cons_of_pos (by simp [hk])];obtain ⟨t,h1,h2⟩:=sel_cons r (s.const k) (acc++[s.num k]) c hl hc;have h3:(s.const k).cs <+: c:=((cs_inv (s.const k).cs).selK r (s.const k) _ (List.prefix_refl _)).trans hc;refine ⟨s.num k::t,by rw [h1];simp,?_⟩;rw [List.map_cons,List.map_cons,h2,con_hit (s:=⟨c,[],0⟩) k h3]
 | .nil,s,acc,c,_,_=>⟨[],by simp [MkS.selK],rfl⟩
 | .text _ _,_,_,_,h,_=>by cases h
 | .hash _,_,_,_,h,_=>by cases h
 | .put _ _ _,_,_,_,h,_=>by cases h
 | .num _ _ _,_,_,_,h,_=>by cases h
 | .br _ _ _ _ _ _ _,_,_,_,h,_=>by cases h
theorem idx_some (l:List Wd) (t:Wd):(l.map some).idxOf (some t)=l.idxOf t:=by
 induction l with
 | nil=>rfl
 | cons a l ih =>
  rw [List.map_cons,List.idxOf_cons,List.idxOf_cons,ih];rfl
theorem place_inj {ks:List Wd} {k k':Wd} (h:k∈ks) (h':k'∈ks) (he:MkS.place ks k=MkS.place ks k'):k=k':=by
 unfold MkS.place at he;have hin:∀ {x},x∈ks->¬x=othC->x∈ks.filter (· ≠ othC):=fun hx hn=>List.mem_filter.2 ⟨hx,by simpa using hn⟩
 split at he
 ·next h1 =>
  split at he
  ·next h2=>rw [h1,h2]
  ·next h2=>have:=List.idxOf_lt_length_of_mem (hin h' h2);omega
 ·next h1 =>
  split at he
  ·next h2=>have:=List.idxOf_lt_length_of_mem (hin h h1);omega
  ·next h2 =>
   have e1:=List.getElem_idxOf (List.idxOf_lt_length_of_mem (hin h h1));have e2:=List.getElem_idxOf (List.idxOf_lt_length_of_mem (hin h' h2));rw [←e1,←e2];congr 1
theorem place_le {ks:List Wd} (k:Wd):MkS.place ks k<=(ks.filter (· ≠ othC)).length:=by
 unfold MkS.place;split
 ·exact Nat.le_refl _
 ·exact List.idxOf_le_length
theorem sel_place (ks:List Wd) (t:Wd):(ks.filter (· ≠ othC)).idxOf t=MkS.place ks (selKey ks t):=by
 unfold MkS.place selKey;by_cases h:t∈ks
 ·rw [if_pos h];by_cases h2:t=othC
  ·rw [if_pos h2,List.idxOf_eq_length (by simp [h2])]
  ·rw [if_neg h2]
 ·rw [if_neg h,if_pos rfl,List.idxOf_eq_length (fun q=>h (List.mem_filter.1 q).1)]
theorem slot_some {s:MkS} {i j p:Nat} (h:slot s (i,j)=some p):∃ x,s.code[i]? = some x/\x.tg[j]? = some p:=by
 unfold slot at h
 cases hc:s.code[i]? with
 | none=>rw [hc] at h;cases h
 | some x=>rw [hc] at h;exact ⟨x,rfl,h⟩
end
section
variable {τ:Type} {E:EnvF τ}
theorem conF_hit {s0 s:MkS} (t:Wd) (h:(s0.const t).cs <+: s.cs) (x:InL) {l:List Nat} (hx:x.k=s0.num t::l):conF s x=some t:=by
 unfold conF;rw [hx];exact con_hit t h
theorem legs_run {bs:Fo} (hb:LegOk E bs) (hl:bs.isLegs=true) {b:Bool} (hv:bs.vok b) {sl:Wd->List (Nat×Nat)} {bg:Wd->MkS->MkS} (hbg:∀ k x,bg k x=leaps (sl k) x) {s2:MkS} {K:Wd} (hd:bs.keys.Nodup) (hK:K∈bs.keys) (hs2:∀ k,∀ p∈sl k,p.1<s2.code.length)
  {s:MkS} (hp:PosOk s) {sE:MkS} (hsE:sE=leaps ((MkS.goS bs bg s2 []).2.map fun i=>(i,0)) (MkS.goS bs bg s2 []).1) (hse:∀ i,s2.code.length<=i->i<sE.code.length->s.code[i]? = sE.code[i]?) (hcs:sE.cs <+: s.cs) (hn:∃ x,s.code[sE.code.length]? = some x/\x.pos=sE.pos) :
  ∃ (a:Nat) (xa:InL),s2.code.length<=a/\s.code[a]? = some xa/\(∀ q∈sl K,(slot s2 q).isSome->(∀ k'∈bs.keys,k'≠K->q ∉ sl k')->slot sE q=some xa.pos)/\∀ (x:SNum) (o:Wd) (g:τ) (stk:List (SNum×SNum)),(b=true->∃ n,stk.getLast? = some (n,x))->Res (stepM E s) a ⟨o,stk,g⟩ sE.code.length stk (sayF E bs K x o g):=by
 obtain ⟨a,p,e,xa,xe,h1,h2,h3,h4,h5,h6,h7,h8,h9,h10,h11,h12⟩:=hb hl b hv sl bg hbg s2 [] K hd hK hs2 (fun e he=>by cases he);obtain ⟨f1,f2,f3,f4⟩:=go_facts bs sl bg hbg s2 [];have hlen:sE.code.length=(MkS.goS bs bg s2 []).1.code.length:=by rw [hsE,(leaps_len _ _).1]
 have hpos:sE.pos=(MkS.goS bs bg s2 []).1.pos:=by rw [hsE,(leaps_len _ _).2.1]
 have hcE:sE.cs=(MkS.goS bs bg s2 []).1.cs:=by rw [hsE,(leaps_len _ _).2.2]
 have shE:=leaps_inv (sh_inv (MkS.goS bs bg s2 []).1) ((MkS.goS bs bg s2 []).2.map fun i=>(i,0)) _ (sh_refl _);rw [←hsE] at shE;obtain ⟨ya,ha1,ha2⟩:=shE a xa h9;obtain ⟨ye,he1,he2⟩:=shE e xe h6;have sa:s.code[a]? = some ya:=(hse a h1 (by omega)).trans ha1;have se:s.code[e]? = some ye:=(hse e (by omega) (by omega)).trans he1;obtain ⟨_,pa,_⟩:=shx_parts ha2;obtain ⟨oe,pe,_,_,te⟩:=shx_parts he2;refine ⟨a,ya,h1,sa,fun q hq hq1 hq2=>?_,fun x o g stk hst=>?_⟩
 ·rw [hsE,slot_leaps,if_neg (fun h=>?_),h11 q hq hq1 hq2,pa,h10];obtain ⟨e',he',rfl⟩:=List.mem_map.1 h.1;have:=hs2 K _ hq;rcases f2 e' he' with r | r
  ·cases r
  ·simp only at this;omega
 ·have run:=h12 s (fun i hi1 hi2=>by
   rw [hse i (by omega) (by omega),hsE,leaps_other];intro p hp;obtain ⟨e',he',rfl⟩:=List.mem_map.1 hp;exact fun q=>h5 i hi1 hi2 (by simp only at q;rw [←q];exact he')) ⟨ye,se,pe⟩ (by rw [←hcE];exact hcs) hp x o g stk hst
  cases hr:sayF E bs K x o g with
  | error er=>rw [hr] at run;exact run.far (by omega)
  | ok pr =>
   rw [hr] at run;refine Steps.trans run (Steps.one ?_);have hslot:slot sE (e,0)=some sE.pos:=by
    have hsm:(slot (MkS.goS bs bg s2 []).1 (e,0)).isSome=true:=by
     unfold slot;rw [h6];show (xe.tg[0]?).isSome=true;rw [List.getElem?_eq_getElem (by omega)];rfl
    rw [hpos,hsE,slot_leaps,if_pos ⟨List.mem_map.2 ⟨e,h4,rfl⟩,hsm⟩]
   obtain ⟨z,hz1,hz2⟩:=slot_some ((slot_at (p:=(e,0)) (hse e (by omega) (by omega))).trans hslot);rw [se] at hz1
   cases hz1;rw [step_at se];unfold insF;rw [oe,h7,hz2];obtain ⟨xn,hn1,hn2⟩:=hn;exact toF_hit hp hn1 hn2 _
end
theorem slot_tab {s2:MkS} {i j:Nat} {x:InL} (h:s2.code[i]? = some x) (hj:j<x.tg.length):(slot s2 (i,j)).isSome=true:=by
 unfold slot;rw [h];show (x.tg[j]?).isSome=true;rw [List.getElem?_eq_getElem hj];rfl
section
variable {τ:Type} {E:EnvF τ} (hE:∀ b d,E.sort b d<6)
include hE
theorem say_run:∀ f:Fo,MsgOk E f/\LegOk E f
 | .nil=>⟨fun _ b _ s0 s _ _ _ _ k x o g stk _=>Steps.refl _ _,fun _ _ _ _ _ _ _ _ _ _ hK=>by cases hK⟩
 | .text t r=>⟨fun hm b hv s0 s ha hcs hp hn k x o g stk hs=>by
   obtain ⟨c1,c2,c4,c3⟩:=msg_cons (say_run r).1 hm hv (s0:=s0) (s1:=s0.one 1 t) (x:=⟨1,(s0.const t).pos,0,[s0.num t],[]⟩) (by rw [MkS.one,code_put,(sz_const s0 t).2.1]) ha hcs hp hn hs k;refine Res.after (Steps.one ?_) (c3 (o++t) g);rw [step_at c1];unfold insF;simp only [conF_hit (s0:=s0) t c2 ⟨1,(s0.const t).pos,0,[s0.num t],[]⟩ rfl];,fun h=>by cases h⟩
 | .hash r=>⟨fun hm b hv s0 s ha hcs hp hn k x o g stk hs=>by
   obtain ⟨c1,c2,c4,c3⟩:=msg_cons (say_run r).1 hm hv.2 (s0:=s0) (s1:=s0.put 6 0 [] []) rfl ha hcs hp hn hs k;refine Res.after (Steps.one ?_) (c3 (o++E.wr x) g);obtain ⟨n,htop⟩:=hs hv.1;rw [step_at c1];unfold insF;simp only [htop];,fun h=>by cases h⟩
 | .put n a r=>⟨fun hm b hv s0 s ha hcs hp hn k x o g stk hs=>by
   obtain ⟨c1,c2,c4,c3⟩:=msg_cons (say_run r).1 hm hv (s0:=s0) (s1:=s0.one 2 n) (x:=⟨2,(s0.const n).pos,0,[s0.num n],[]⟩) (by rw [MkS.one,code_put,(sz_const s0 n).2.1]) ha hcs hp hn hs k;have hc:=conF_hit (s0:=s0) n c2 ⟨2,(s0.const n).pos,0,[s0.num n],[]⟩ rfl;simp only [sayF]
   cases h:argF E n g with
   | error e =>
    obtain ⟨e,g'⟩:=e;refine Res.err (r':=⟨o,stk,g'⟩) ?_ c4;rw [step_at c1];unfold insF;simp only [hc,h]
   | ok p =>
    obtain ⟨⟨t,num⟩,g'⟩:=p;refine Res.after (Steps.one ?_) (c3 _ g');rw [step_at c1];unfold insF;simp only [hc,h]
   ,fun h=>by cases h⟩
 | .num n a r=>⟨fun hm b hv s0 s ha hcs hp hn k x o g stk hs=>by
   obtain ⟨c1,c2,c4,c3⟩:=msg_cons (say_run r).1 hm hv (s0:=s0) (s1:=s0.one 3 n) (x:=⟨3,(s0.const n).pos,0,[s0.num n],[]⟩) (by rw [MkS.one,code_put,(sz_const s0 n).2.1]) ha hcs hp hn hs k;have hc:=conF_hit (s0:=s0) n c2 ⟨3,(s0.const n).pos,0,[s0.num n],[]⟩ rfl;simp only [sayF]
   cases h:numF E n g with
   | error e =>
    obtain ⟨e,g'⟩:=e;refine Res.err (r':=⟨o,stk,g'⟩) ?_ c4;rw [step_at c1];unfold insF;simp only [hc,h]
   | ok p =>
    obtain ⟨v,g'⟩:=p;refine Res.after (Steps.one ?_) (c3 _ g');rw [step_at c1];unfold insF;simp only [hc,h]
   ,fun h=>by cases h⟩
 | .br n a f off c bs r=>⟨fun hm b hv s0 s ha hcs hp hn k x o g stk hs=>by
   obtain ⟨v1,v2,v3,v4,v5⟩:=hv;by_cases h0:f=0
   ·subst h0;obtain ⟨sE,hsE⟩:∃ sE,sE=leaps ((MkS.goS bs (MkS.selB n bs s0) (MkS.selS n bs s0) []).2.map fun i=>(i,0)) (MkS.goS bs (MkS.selB n bs s0) (MkS.selS n bs s0) []).1:=⟨_,rfl⟩;have hms:=mes_sel n a off c bs r s0 hm;rw [←hsE] at hms;rw [hms] at ha hcs hn ⊢;obtain ⟨m1,m2⟩:=mes_facts r sE;obtain ⟨f1,f2,f3,f4⟩:=go_facts bs (selSl n bs s0) (MkS.selB n bs s0) (selB_leaps n bs s0) (MkS.selS n bs s0) [];have hS:=selS_code n bs s0;have hSl:(MkS.selS n bs s0).code.length=s0.code.length+1:=by rw [hS];simp
    have hSE:sE.code.length=(MkS.goS bs (MkS.selB n bs s0) (MkS.selS n bs s0) []).1.code.length:=by rw [hsE,(leaps_len _ _).1]
    have hT:(MkS.sel1 n bs s0).1.code.length=s0.code.length:=by rw [(sel1_code n bs s0).1]
    have hcE:sE.cs <+: s.cs:=(mes_inv (cs_inv sE.cs) r sE (List.prefix_refl _)).trans hcs;have hagr:∀ i,s0.code.length<=i->i<sE.code.length->s.code[i]? = sE.code[i]? := fun i h1 h2=>(ha i h1 (by omega)).trans (m2 i h2)
    have hc1:(MkS.sel1 n bs s0).1.cs <+: s.cs:=(leaps_inv (cs_inv _) _ _ (go_inv (cs_inv (MkS.sel1 n bs s0).1.cs) bs (selB_leaps n bs s0) (MkS.selS n bs s0) [] (List.prefix_refl _)):(MkS.sel1 n bs s0).1.cs <+: (leaps ((MkS.goS bs (MkS.selB n bs s0) (MkS.selS n bs s0) []).2.map fun i=>(i,0)) (MkS.goS bs (MkS.selB n bs s0) (MkS.selS n bs s0) []).1).cs).trans (hsE▸hcE);have hc0:(s0.const n).cs <+: s.cs:=((cs_inv (s0.const n).cs).selK bs (s0.const n) [s0.num n] (List.prefix_refl _)).trans hc1;obtain ⟨tl,ht1,ht2⟩:=sel_cons bs (s0.const n) [s0.num n] s.cs v1 hc1;have htab:(MkS.selS n bs s0).code[s0.code.length]? = some ⟨10,s0.pos,0,s0.num n::tl,List.replicate (tl.length+1) 0⟩:=by
     rw [hS,List.getElem?_append_right (Nat.le_refl _)];have:(MkS.sel1 n bs s0).2=s0.num n::tl:=ht1;rw [this];simp
    obtain ⟨y,hy,hsh⟩:=leaps_inv (sh_inv (MkS.selS n bs s0)) ((MkS.goS bs (MkS.selB n bs s0) (MkS.selS n bs s0) []).2.map fun i=>(i,0)) _ (go_inv (sh_inv (MkS.selS n bs s0)) bs (selB_leaps n bs s0) _ [] (sh_refl _)) _ _ htab;rw [←hsE] at hy;have sy:s.code[s0.code.length]? = some y:=(hagr _ (Nat.le_refl _) (by omega)).trans hy;obtain ⟨y1,y2,y3,y4,y5⟩:=shx_parts hsh;have hcon:=conF_hit (s0:=s0) n hc0 y y4;have htl:tl.length=(bs.keys.filter (· ≠ othC)).length:=by have:=congrArg List.length ht2;simpa using this
    have hall:y.k.tail.all (fun j=>decide (j<s.cs.length))=true:=by
     rw [y4,List.tail_cons,List.all_eq_true];intro j hj;have h1:s.cs[j]?∈(bs.keys.filter (· ≠ othC)).map some:=by rw [←ht2];exact List.mem_map.2 ⟨j,hj,rfl⟩
     obtain ⟨u,_,hu⟩:=List.mem_map.1 h1;exact decide_eq_true (List.getElem?_eq_some_iff.1 hu.symm).1
    have htI:∀ t,tabI s y t=MkS.place bs.keys (selKey bs.keys t):=by
     intro t;unfold tabI;rw [y4,List.tail_cons,ht2,idx_some,sel_place]
    have hnE:∃ x,s.code[sE.code.length]? = some x/\x.pos=sE.pos:=by
     rcases mes_first r hm sE with ⟨q1,q2⟩ | ⟨x,q1,q2⟩
     ·rw [q1,q2] at hn;exact hn
     ·exact ⟨x,(ha _ (by omega) (List.getElem?_eq_some_iff.1 q1).1).trans q1,q2⟩
    have hK:∀ t,selKey bs.keys t∈bs.keys:=by intro t;unfold selKey;split<;>assumption
    simp only [sayF,↓reduceIte]
    cases h:wdF E n g with
    | error e =>
     obtain ⟨e,g'⟩:=e;refine Res.err (r':=⟨o,stk,g'⟩) ?_;rw [step_at sy];unfold insF;simp only [y1,hcon,h]
    | ok pr =>
     obtain ⟨t,g'⟩:=pr;dsimp only;have hsl0:∀ k,∀ p∈selSl n bs s0 k,p.1<(MkS.selS n bs s0).code.length:=by
      intro k p hp;rw [selSl,List.mem_singleton] at hp;subst hp;show (MkS.sel1 n bs s0).1.code.length<_;omega
     obtain ⟨A,xa,hA0,hA1,hA2,hA3⟩:=legs_run (s:=s) (say_run bs).2 v1 v4 (selB_leaps n bs s0) v2 (hK t) hsl0 hp hsE (fun i h1 h2=>hagr i (by omega) h2) hcE hnE
     ·have hsl:=hA2 (s0.code.length,MkS.place bs.keys (selKey bs.keys t)) (by rw [selSl,hT];exact List.mem_singleton.2 rfl) (slot_tab htab (by have:=place_le (ks:=bs.keys) (selKey bs.keys t);simp;omega))
       (fun k' hk' hne hq=>by
        rw [selSl,List.mem_singleton] at hq;exact hne (place_inj hk' (hK t) (Prod.mk.inj hq).2.symm))
      obtain ⟨z,hz1,hz2⟩:=slot_some hsl;rw [hy] at hz1
      cases hz1;refine Res.after (k1:=A) (r1:=⟨o,stk,g'⟩) (Steps.one ?_) ?_
      ·rw [step_at sy];unfold insF;simp only [y1,hcon,h,hall,↓reduceIte,htI,hz2];exact toF_hit hp hA1 rfl _
      ·have run:=hA3 x o g' stk (fun q=>by cases q)
       cases hr:sayF E bs (selKey bs.keys t) x o g' with
       | error er=>rw [hr] at run;exact run.far (by omega)
       | ok pr =>
        obtain ⟨o2,g2⟩:=pr;rw [hr] at run;exact Res.after run ((say_run r).1 hm b v5 sE s (fun i h1 h2=>ha i (by omega) h2) hcs hp hn k x o2 g2 stk hs)
   ·obtain ⟨sL,hsL⟩:∃ sL,sL=leaps ((MkS.goS bs (MkS.pluB n off bs s0) (MkS.pluS n off f bs s0) []).2.map fun i=>(i,0)) (MkS.goS bs (MkS.pluB n off bs s0) (MkS.pluS n off f bs s0) []).1:=⟨_,rfl⟩;have hms:=mes_plu n a f off c bs r s0 h0 hm;rw [←hsL] at hms;rw [hms] at ha hcs hn ⊢;obtain ⟨m1,m2⟩:=mes_facts r (sL.put 5 0 [] []);have hPl:(sL.put 5 0 [] []).code.length=sL.code.length+1:=by rw [code_put];simp
    rw [hPl] at m1 m2;obtain ⟨b1,b2,b3⟩:=plu_facts n off bs s0;obtain ⟨f1,f2,f3,f4⟩:=go_facts bs (pluSl n off bs s0) (MkS.pluB n off bs s0) (pluB_leaps n off bs s0) (MkS.pluS n off f bs s0) [];have hS:=pluS_code n off f bs s0;have hSl:(MkS.pluS n off f bs s0).code.length=(MkS.plu1 n off bs s0).1.code.length+1:=by rw [hS];simp
    have hSL:sL.code.length=(MkS.goS bs (MkS.pluB n off bs s0) (MkS.pluS n off f bs s0) []).1.code.length:=by rw [hsL,(leaps_len _ _).1]
    have hcE:sL.cs <+: s.cs:=(mes_inv (cs_inv sL.cs) r (sL.put 5 0 [] []) (List.prefix_refl _)).trans hcs;have hagr:∀ i,s0.code.length<=i->i<sL.code.length+1->s.code[i]? = (sL.put 5 0 [] []).code[i]? := fun i h1 h2=>(ha i h1 (by omega)).trans (m2 i h2)
    have hagL:∀ i,s0.code.length<=i->i<sL.code.length->s.code[i]? = sL.code[i]? := fun i h1 h2=>(hagr i h1 (by omega)).trans (by rw [code_put,List.getElem?_append_left h2])
    have hleave:s.code[sL.code.length]? = some ⟨5,sL.pos,0,[],[]⟩:=by
     rw [hagr _ (by omega) (by omega),code_put,List.getElem?_append_right (Nat.le_refl _)];simp
    have hc1:(MkS.plu1 n off bs s0).1.cs <+: s.cs:=(leaps_inv (cs_inv _) _ _ (go_inv (cs_inv (MkS.plu1 n off bs s0).1.cs) bs (pluB_leaps n off bs s0) (MkS.pluS n off f bs s0) [] (List.prefix_refl _)):(MkS.plu1 n off bs s0).1.cs <+: (leaps ((MkS.goS bs (MkS.pluB n off bs s0) (MkS.pluS n off f bs s0) []).2.map fun i=>(i,0)) (MkS.goS bs (MkS.pluB n off bs s0) (MkS.pluS n off f bs s0) []).1).cs).trans (hsL▸hcE);have hc0:(s0.const n).cs <+: s.cs:=((cs_inv (s0.const n).cs).askS bs ((s0.const n).put 4 (offV off) [s0.num n] []) [] (List.prefix_refl _)).trans hc1;have sh0:=leaps_inv (sh_inv (MkS.pluS n off f bs s0)) ((MkS.goS bs (MkS.pluB n off bs s0) (MkS.pluS n off f bs s0) []).2.map fun i=>(i,0)) _ (go_inv (sh_inv (MkS.pluS n off f bs s0)) bs (pluB_leaps n off bs s0) _ [] (sh_refl _));rw [←hsL] at sh0;have sh1:∀ (i:Nat) (x:InL),s0.code.length<=i->(MkS.pluS n off f bs s0).code[i]? = some x->∃ y,s.code[i]? = some y/\sL.code[i]? = some y/\shx y=shx x:=by
     intro i x hi hx;obtain ⟨y,h1,h2⟩:=sh0 i x hx;exact ⟨y,(hagL i hi (List.getElem?_eq_some_iff.1 h1).1).trans h1,h1,h2⟩
    have hpre:∀ (i:Nat) (x:InL),(MkS.plu1 n off bs s0).1.code[i]? = some x->(MkS.pluS n off f bs s0).code[i]? = some x:=by
     intro i x hx;rw [hS,List.getElem?_append_left (List.getElem?_eq_some_iff.1 hx).1];exact hx
    obtain ⟨y,hy,_,hsh⟩:=sh1 _ _ (Nat.le_refl _) (hpre _ _ (plu1_at n off bs s0));obtain ⟨y1,y2,y3,y4,y5⟩:=shx_parts hsh;have hcon:=conF_hit (s0:=s0) n hc0 y y4;have hle0:((s0.const n).put 4 (offV off) [s0.num n] []).code.length=s0.code.length+1:=by rw [code_put,(sz_const s0 n).2.1];simp
    have htab:(MkS.pluS n off f bs s0).code[(MkS.plu1 n off bs s0).1.code.length]? = some ⟨if f=2 then 9 else 8,(MkS.plu1 n off bs s0).1.pos,0,[],List.replicate 6 0⟩:=by
     rw [hS,List.getElem?_append_right (Nat.le_refl _)];simp
    obtain ⟨_,k2,k3⟩:=ask_facts bs ((s0.const n).put 4 (offV off) [s0.num n] []) [];simp only [sayF,if_neg h0]
    cases h:numF E n g with
    | error e =>
     obtain ⟨e,g'⟩:=e;refine Res.err (r':=⟨o,stk,g'⟩) ?_;rw [step_at hy];unfold insF;simp only [y1,hcon,h]
    | ok pr =>
     obtain ⟨v,g'⟩:=pr;dsimp only;obtain ⟨z,hz⟩:∃ z,lessN v (offV off)=z:=⟨_,rfl⟩;rw [hz];have htop:(stk++[(v,z)]).getLast? = some (v,z):=by simp
     have st1:Steps (stepM E s) s0.code.length ⟨o,stk,g⟩ (s0.code.length+1) ⟨o,stk++[(v,z)],g'⟩:=by
      refine Steps.one ?_;rw [step_at hy];unfold insF;simp only [y1,hcon,h,y3,hz]
     have ask:=ask_run (E:=E) (s:=s) v z bs ((s0.const n).put 4 (offV off) [s0.num n] []) [] v1 v2 (fun _ _=>rfl) (fun i x hi hx=>by
      obtain ⟨y,h1,_,h3⟩:=sh1 i x (by omega) (hpre i x hx);exact ⟨y,h1,h3⟩)
     rw [hle0] at ask;have hsl0:∀ k,∀ p∈pluSl n off bs s0 k,p.1<(MkS.pluS n off f bs s0).code.length:=by
      intro k p hp;have:=b3 k p hp;omega
     have key:∃ A,Steps (stepM E s) s0.code.length ⟨o,stk,g⟩ A ⟨o,stk++[(v,z)],g'⟩/\Res (stepM E s) A ⟨o,stk++[(v,z)],g'⟩ sL.code.length (stk++[(v,z)]) (sayF E bs (pluKey E f bs.keys v z) z o g'):=by
      unfold pluKey;rw [show (bs.keys.find? fun k=>decide (k.head? = some 61) && sameN v (offV k.tail))=bs.keys.find? (eqP v) from rfl]
      cases hf:bs.keys.find? (eqP v) with
      | some K =>
       rw [hf] at ask;obtain ⟨i,x0,q1,q2,q3,q4,q5,q6⟩:=ask;have hKm:=List.mem_of_find?_eq_some hf;obtain ⟨A,xa,hA0,hA1,hA2,hA3⟩:=legs_run (s:=s) (say_run bs).2 v1 v4 (pluB_leaps n off bs s0) v2 hKm hsl0 hp hsL (fun i h1 h2=>hagL i (by omega) h2) hcE ⟨_,hleave,rfl⟩;have hi0:s0.code.length+1<=i:=by
        rcases k3 _ (look_mem q1) with w | w
        ·cases w
        ·simp only [hle0] at w;omega
       have hslK:pluSl n off bs s0 K=[(i,0)]:=by
        unfold pluSl;rw [show (MkS.plu1 n off bs s0).2.lookup K=some i from q1]
       have hsl:=hA2 (i,0) (by rw [hslK];exact List.mem_singleton.2 rfl) (slot_tab (hpre i x0 q2) (by omega)) (fun k' hk' hne hq=>by
        unfold pluSl at hq
        cases hl:(MkS.plu1 n off bs s0).2.lookup k' with
        | some i' =>
         rw [hl,List.mem_singleton] at hq;have e:=(Prod.mk.inj hq).1;have:=ask_inj bs _ [] (fun p hp=>by cases hp) (fun p hp=>by cases hp) _ (look_mem q1) _ (look_mem hl) e;exact hne (Prod.mk.inj this).1.symm
        | none =>
         rw [hl] at hq;obtain ⟨cc,_,e⟩:=List.mem_map.1 hq;have e1:=(Prod.mk.inj e).1;have:=(List.getElem?_eq_some_iff.1 q2).1;rw [show (MkS.askS bs ((s0.const n).put 4 (offV off) [s0.num n] []) []).1.code.length=(MkS.plu1 n off bs s0).1.code.length from rfl] at this;omega)
       obtain ⟨yi,w1,w2,w3⟩:=sh1 i x0 (by omega) (hpre i x0 q2);obtain ⟨p1,p2,p3,p4,p5⟩:=shx_parts w3;obtain ⟨yi',u1,u2⟩:=slot_some hsl;rw [w2] at u1
       cases u1;have hiA:i<A:=by have h1:=(List.getElem?_eq_some_iff.1 q2).1;rw [show (MkS.askS bs ((s0.const n).put 4 (offV off) [s0.num n] []) []).1.code.length=(MkS.plu1 n off bs s0).1.code.length from rfl] at h1;omega
       refine ⟨A,st1.trans ((q6 o g' _ htop).trans (Steps.one ?_ hiA)),hA3 z o g' _ (fun _=>⟨v,htop⟩)⟩;rw [step_at w1];unfold insF;simp only [p1,q3,htop,p3,q5,↓reduceIte,u2];exact toF_hit hp hA1 rfl _
      | none =>
       rw [hf] at ask;dsimp only;have hso:=hE (decide (f=2)) z.2;obtain ⟨cn,hcn⟩:∃ cn,E.sort (decide (f=2)) z.2=cn:=⟨_,rfl⟩;rw [hcn] at hso ⊢;obtain ⟨K,hKe⟩:∃ K,(if catC.getD cn []∈bs.keys then catC.getD cn [] else othC)=K:=⟨_,rfl⟩;rw [hKe];have hKm:K∈bs.keys:=by rw [←hKe];split<;>assumption
       have hcat:(catC.getD cn []).head?≠some 61:=by
        rcases cn with _ | _ | _ | _ | _ | _ | cn
        ·decide
        ·decide
        ·decide
        ·decide
        ·decide
        ·decide
        ·omega
       have hKh:K.head?≠some 61:=by rw [←hKe];split;exact hcat;decide
       have hlk:(MkS.plu1 n off bs s0).2.lookup K=none:=by
        cases hl:(MkS.plu1 n off bs s0).2.lookup K with
        | none=>rfl
        | some i =>
         rcases ask_head bs _ [] _ (look_mem hl) with w | w
         ·cases w
         ·exact absurd w hKh
       have hslK:pluSl n off bs s0 K=catSl bs.keys (MkS.plu1 n off bs s0).1.code.length K:=by
        unfold pluSl;rw [hlk]
       obtain ⟨A,xa,hA0,hA1,hA2,hA3⟩:=legs_run (s:=s) (say_run bs).2 v1 v4 (pluB_leaps n off bs s0) v2 hKm hsl0 hp hsL (fun i h1 h2=>hagL i (by omega) h2) hcE ⟨_,hleave,rfl⟩;have hsl:=hA2 ((MkS.plu1 n off bs s0).1.code.length,cn) (by
        rw [hslK];refine List.mem_map.2 ⟨cn,List.mem_filter.2 ⟨List.mem_range.2 hso,?_⟩,rfl⟩;rw [decide_eq_true_eq,←hKe];split
        ·next h=>exact .inl rfl
        ·next h=>exact .inr ⟨rfl,h⟩) (slot_tab htab (by simp;omega)) (fun k' hk' hne hq=>by
        unfold pluSl at hq
        cases hl:(MkS.plu1 n off bs s0).2.lookup k' with
        | some i' =>
         rw [hl,List.mem_singleton] at hq;have e:=(Prod.mk.inj hq).1;rcases k3 _ (look_mem hl) with w | w
         ·cases w
         ·have w2:=w.2;rw [show (MkS.askS bs ((s0.const n).put 4 (offV off) [s0.num n] []) []).1.code.length=(MkS.plu1 n off bs s0).1.code.length from rfl] at w2;simp only at w2;omega
        | none =>
         rw [hl] at hq;obtain ⟨cc,hcc,e⟩:=List.mem_map.1 hq;have e1:=(Prod.mk.inj e).2;subst e1;have hcd:=of_decide_eq_true (List.mem_filter.1 hcc).2;rw [←hKe] at hne;by_cases hin:catC.getD cc []∈bs.keys
         ·rw [if_pos hin] at hne;rcases hcd with w | w
          ·exact hne w.symm
          ·exact w.2 hin
         ·rw [if_neg hin] at hne;rcases hcd with w | w
          ·exact hin (by rw [w];exact hk')
          ·exact hne w.1)
       obtain ⟨yt,w1,w2,w3⟩:=sh1 _ _ (by omega) htab;obtain ⟨p1,p2,p3,p4,p5⟩:=shx_parts w3;obtain ⟨yt',u1,u2⟩:=slot_some hsl;rw [w2] at u1
       cases u1;have hiA:(MkS.plu1 n off bs s0).1.code.length<A:=by omega
       refine ⟨A,st1.trans ((ask o g' _ htop).trans (Steps.one ?_ hiA)),hA3 z o g' _ (fun _=>⟨v,htop⟩)⟩;rw [show (MkS.askS bs ((s0.const n).put 4 (offV off) [s0.num n] []) []).1.code.length=(MkS.plu1 n off bs s0).1.code.length from rfl,step_at w1];unfold insF;by_cases hf2:f=2
       ·rw [if_pos hf2] at p1;rw [decide_eq_true hf2] at hcn;simp only [p1,htop,hcn,u2];exact toF_hit hp hA1 rfl _
       ·rw [if_neg hf2] at p1;rw [decide_eq_false hf2] at hcn;simp only [p1,htop,hcn,u2];exact toF_hit hp hA1 rfl _
     obtain ⟨A,hA,run⟩:=key;refine Res.after hA ?_
     cases hr:sayF E bs (pluKey E f bs.keys v z) z o g' with
     | error er=>rw [hr] at run;exact run.far (by omega)
     | ok pr =>
      obtain ⟨o2,g2⟩:=pr;rw [hr] at run;refine Res.after (Steps.trans run (Steps.one (k':=sL.code.length+1) (r':=⟨o2,stk,g2⟩) ?_)) ?_
      ·rw [step_at hleave];unfold insF;simp
      ·have:=(say_run r).1 hm b v5 (sL.put 5 0 [] []) s (fun i h1 h2=>ha i (by omega) h2) hcs hp hn k x o2 g2 stk hs;rw [hPl] at this;exact this
   ,fun h=>by cases h⟩
 | .leg k a m r=>⟨fun h=>(by cases h),fun hl b hv sl bg hb s2 ls K hd hK hsl hls=>by
   obtain ⟨v1,v2,v3⟩:=hv;have hd':=List.nodup_cons.1 (show (k::r.keys).Nodup from hd);rw [MkS.goS,hb];obtain ⟨sb,hsb⟩:∃ sb,leaps (sl k) s2=sb:=⟨_,rfl⟩;obtain ⟨l1,l2,l3⟩:=leaps_len (sl k) s2;rw [hsb] at l1 l2 l3 ⊢;obtain ⟨sm,hsm⟩:∃ sm,MkS.mes m sb=sm:=⟨_,rfl⟩;rw [show (MkS.goS m (fun _ s=>s) sb []).1=sm from hsm];obtain ⟨m1,m2⟩:=mes_facts m sb;rw [hsm] at m1 m2;have hpl:(sm.put 11 0 [] [0]).code.length=sm.code.length+1:=by rw [code_put];simp
   obtain ⟨g1,g2,g3,g4⟩:=go_facts r sl bg hb (sm.put 11 0 [] [0]) (ls++[sm.code.length]);rw [hpl] at g1 g2 g4;have kp:∀ i,s2.code.length<=i->i<sm.code.length+1->(MkS.goS r bg (sm.put 11 0 [] [0]) (ls++[sm.code.length])).1.code[i]? = (sm.put 11 0 [] [0]).code[i]? := fun i h1 h2=>g4 i h2 (fun k' p hp=>by have:=hsl k' p hp;omega)
   by_cases hkK:k=K
   ·subst hkK;have he:(MkS.goS r bg (sm.put 11 0 [] [0]) (ls++[sm.code.length])).1.code[sm.code.length]? = some ⟨11,sm.pos,0,[],[0]⟩:=by
     rw [kp _ (by omega) (by omega),code_put,List.getElem?_append_right (Nat.le_refl _)];simp
    have hi:∀ i,s2.code.length<=i->i<sm.code.length->(MkS.goS r bg (sm.put 11 0 [] [0]) (ls++[sm.code.length])).1.code[i]? = sm.code[i]? := fun i h1 h2=>by
     rw [kp _ h1 (by omega),code_put,List.getElem?_append_left h2]
    have hfa:∃ xa,(MkS.goS r bg (sm.put 11 0 [] [0]) (ls++[sm.code.length])).1.code[s2.code.length]? = some xa/\xa.pos=s2.pos:=by
     rcases mes_first m v1 sb with ⟨q1,q2⟩ | ⟨x,q1,q2⟩
     ·rw [hsm] at q1 q2;refine ⟨_,by rw [←l1,←q1];exact he,?_⟩;show sm.pos=_;rw [q2,l2]
     ·rw [hsm,l1] at q1;exact ⟨x,by rw [hi _ (Nat.le_refl _) (List.getElem?_eq_some_iff.1 q1).1];exact q1,by rw [q2,l2]⟩
    obtain ⟨xa,hxa,hpa⟩:=hfa;refine ⟨s2.code.length,s2.pos,sm.code.length,xa,_,Nat.le_refl _,by omega,by omega,g3 _ (List.mem_append_right _ (List.mem_singleton.2 rfl)),fun i h1 h2 hm=>?_,he,rfl,rfl,hxa,hpa,fun q hq hq1 hq2=>?_,fun s hs hz hc hp x o g stk hst=>?_⟩
    ·rcases g2 i hm with q | q
     ·rw [List.mem_append,List.mem_singleton] at q;rcases q with q | q
      ·have:=hls i q;omega
      ·omega
     ·omega
    ·have hq0:=hsl k q hq;rw [legs_slot r sl bg hb hl _ _ q (by omega) (fun k' hk'=>hq2 k' (List.mem_cons_of_mem _ hk') (fun e=>hd'.1 (by rw [←e];exact hk'))),slot_put _ _ _ _ _ _ (by omega),←hsm,slot_at ((mes_facts m sb).2 q.1 (by omega)),←hsb,slot_leaps,if_pos ⟨hq,hq1⟩]
    ·have hcm:sm.cs <+: s.cs:=(go_inv (cs_inv sm.cs) r hb (sm.put 11 0 [] [0]) (ls++[sm.code.length]) (List.prefix_refl _)).trans hc;have:=(say_run m).1 v1 b v2 sb s (fun i h1 h2=>by rw [hsm] at h2 ⊢;rw [hs i (by omega) h2,hi i (by omega) h2]) (by rw [hsm];exact hcm) hp (by rw [hsm];exact hz) [] x o g stk hst;rw [hsm,l1] at this;simp only [sayF,↓reduceIte];exact this
   ·have hKr:K∈r.keys:=by
     rcases List.mem_cons.1 (show K∈k::r.keys from hK) with q | q
     ·exact absurd q.symm hkK
     ·exact q
    obtain ⟨A,p,e,xa,xe,h1,h2,h3,h4,h5,h6,h7,h8,h9,h10,h11,h12⟩:=(say_run r).2 hl b v3 sl bg hb (sm.put 11 0 [] [0]) (ls++[sm.code.length]) K hd'.2 hKr (fun k' p hp=>by have:=hsl k' p hp;omega) (fun e he=>by
     rw [List.mem_append,List.mem_singleton] at he;rcases he with he | rfl
     ·have:=hls e he;omega
     ·omega)
    refine ⟨A,p,e,xa,xe,by omega,h2,h3,h4,h5,h6,h7,h8,h9,h10,fun q hq hq1 hq2=>?_,fun s hs hz hc hp x o g stk hst=>?_⟩
    ·have hq0:=hsl K q hq;refine h11 q hq ?_ (fun k' hk'=>hq2 k' (List.mem_cons_of_mem _ hk'));rw [slot_put _ _ _ _ _ _ (by omega),←hsm,slot_at ((mes_facts m sb).2 q.1 (by omega)),←hsb,slot_leaps];split
     ·rfl
     ·exact hq1
    ·have:=h12 s hs hz hc hp x o g stk hst;simp only [sayF,if_neg hkK];exact this⟩
end
theorem all_run {τ:Type} {E:EnvF τ} (hE:∀ b d,E.sort b d<6) (f:Fo) (hm:f.isMsg=true) (hv:f.vok false) (x:SNum) (g:τ) :
  match sayF E f [] x [] g with
  | .ok (o,g')=>∃ fuel,fuel<=(MkS.all f).code.length/\runF (stepM E (MkS.all f)) fuel 0 ⟨[],[],g⟩=some (.ok ⟨o,[],g'⟩)
  | .error (n,g')=>∃ fuel r,fuel<=(MkS.all f).code.length/\runF (stepM E (MkS.all f)) fuel 0 ⟨[],[],g⟩=some (.error (n,r))/\r.gs=g':=by
 have hend:(MkS.all f).code[(MkS.mes f MkS.start).code.length]? = some ⟨0,(MkS.mes f MkS.start).pos,0,[],[]⟩:=by
  rw [MkS.all,code_put,List.getElem?_append_right (Nat.le_refl _)];simp
 have h:=(say_run hE f).1 hm false hv MkS.start (MkS.all f) (fun i _ hi=>by rw [MkS.all,code_put,List.getElem?_append_left hi]) (List.prefix_refl _) (posok_inv.all f ⟨fun i j x y _ hx=>absurd hx (by simp [MkS.start]),fun x hx=>absurd hx (by simp [MkS.start])⟩) ⟨_,hend,rfl⟩ [] x [] g [] (fun h=>by cases h)
 cases hr:sayF E f [] x [] g with
 | error e =>
  obtain ⟨n,g'⟩:=e;rw [hr] at h;obtain ⟨m,r',h0,h1,h2⟩:=h;exact ⟨0+m,r',by rw [MkS.all,code_put,List.length_append];rw [show MkS.start.code.length=0 from rfl] at h0;omega,h1 0,h2⟩
 | ok p =>
  obtain ⟨o,g'⟩:=p;rw [hr] at h;obtain ⟨n,h0,hn⟩:=h;refine ⟨1+n,by rw [MkS.all,code_put,List.length_append,List.length_singleton];rw [show MkS.start.code.length=0 from rfl] at h0;omega,?_⟩;rw [show (0:Nat)=MkS.start.code.length from rfl,hn 1,runF,step_at hend];rfl
def ProgR {τ:Type} (G:Nat->Prop) (Inv:τ->World->Prop) (res:Except (Nat×τ) (Wd×τ)) (w:World) (e:Ending) (w':World):Prop :=
 (match res with
  | .ok (o,g')=>e = .returned (.tuple #[strv o,.nilIface])/\Inv g' w'
  | .error (n,g')=>e = .returned (.tuple #[strv [],errnoV n])/\Inv g' w')/\Fr G G w w'
section
variable {τ:Type} {w:World} {A q mb g:Nat} {G:Nat->Prop} {vC vI:Value} {rs:List (Value×Value)} {E:EnvF τ} {F S:τ->Nat->Prop} {Inv:τ->World->Prop}
theorem runat_new {s:MkS} {gf:Fn} {g1 g2:Array Value} (hE:EnvM w (A+2) (A+2) G q mb g s vC vI rs (.func gf g1 g2) E F S Inv) (hA:w.heap.size=A) {g0:τ} (hi:Inv g0 w) (hF0:∀ k,F g0 k->G k) :
  RunAt (A+2) (A+2) q g (.func gf g1 g2) G F S Inv ⟨[],[],g0⟩ (runW w (.pointer (some ⟨q,0,none⟩)) (.pointer (some ⟨g,0,none⟩)) (.func gf g1 g2)):=by
 have hf:Fr noF noF w (runW w (.pointer (some ⟨q,0,none⟩)) (.pointer (some ⟨g,0,none⟩)) (.func gf g1 g2)):=(((Fr.refl _ _).alloc _).alloc _).alloc _;refine ⟨.slice none 0 0,.slice none 0 0,[],?_,?_,rfl,hE.get.fr hi hf (fun _ q=>q.elim),(by intro h;cases h),fun k hk=>(by cases hk),fun k hk=>⟨.inl ?_,(fun h=>by cases h),fun h=>by cases h⟩,fun k hk=>hk.elim (fun h=>by cases h) (fun h=>by cases h),hF0⟩
 ·have h:=out_new ((w.alloc (.cells #[strv []] 9)).alloc (.cells #[.nilIface] 73)) (.pointer (some ⟨q,0,none⟩)) (.pointer (some ⟨g,0,none⟩)) (.func gf g1 g2);rw [show ((w.alloc (.cells #[strv []] 9)).alloc (.cells #[.nilIface] 73)).heap.size=A+2 by simp [hA]] at h;exact h
 ·exact World.ownsRow_nil _ _ _ _
 ·have:=hE.get.supp g0 w k hi hk;omega
theorem run_prog {f:Fo} (hm:f.isMsg=true) (hv:f.vok false) {gf:Fn} {g1 g2:Array Value} (hE:EnvM w (A+2) (A+2) G q mb g (MkS.all f) vC vI rs (.func gf g1 g2) E F S Inv) (hT:TabOk (MkS.all f)) (hc:(MkS.all f).code.length<=100000) (hA:w.heap.size=A) (hGA:¬G A) (hGB:¬G (A+1)) (x:SNum) {g0:τ} (hi:Inv g0 w) (hF0:∀ k,F g0 k->G k) :
  Calls Tryz.prog 53 #[.pointer (some ⟨q,0,none⟩),.pointer (some ⟨g,0,none⟩),.func gf g1 g2] w (ProgR G Inv (sayF E f [] x [] g0) w):=by
 have key:∀ (fuel:Nat) (r:Except (Nat×RSt τ) (RSt τ)),fuel<=(MkS.all f).code.length->runF (stepM E (MkS.all f)) fuel 0 ⟨[],[],g0⟩=some r ->
   Calls Tryz.prog 53 #[.pointer (some ⟨q,0,none⟩),.pointer (some ⟨g,0,none⟩),.func gf g1 g2] w (RunE G (fun r=>r.out) (fun r W=>Inv r.gs W) r w):=by
  intro fuel r hfu hr;refine run_any G (VmI w (A+2) (A+2) q g (.func gf g1 g2) G F S Inv) (VmJ w (A+2) (A+2) q g (.func gf g1 g2) G F S Inv) (ErrQ Inv S (A+2)) (fun r W=>Inv r.gs W) (fun r=>r.out) (stepM E (MkS.all f)) fuel ⟨[],[],g0⟩ r w (some ⟨q,0,none⟩) (some ⟨g,0,none⟩) gf g1 g2 (by rw [hA];exact hGA) (by rw [hA];exact hGB) (fun k hk=>hE.gA k (by rw [hA] at hk;exact hk)) ?_ ?_ ?_ ?_ hr
  ·exact ⟨runat_new hE hA hi hF0,(((Fr.refl _ _).alloc _).alloc _).alloc _,by show 0+fuel*5000<=_;omega,by show 0+fuel<=_;omega⟩
  ·rintro s W ⟨⟨v,st,cs,hO,hst,hen,hI,hsb,hsv,hS,hAA,hF⟩,hl⟩;rw [hA];refine ⟨v,_,_,_,_,hO,fun k hk=>hAA k (.inl hk),by show s.out.length<=_;omega,fun W' hf=>hE.get.fr hI hf fun k hk hs=>?_⟩;have h1:=hS k hs;rcases hk with rfl | rfl | hk
   ·have:=h1.1;omega
   ·have:=h1.1;omega
   ·exact h1.2.1 hk
  ·rintro s W W' ⟨hI,hS⟩ hf;rw [hA] at hf;refine hE.get.fr hI hf fun k hk hs=>?_
   have h1:=hS k hs;rcases hk with rfl | rfl<;>omega
  ·intro m k s W hI hb;rw [hA];exact vm_step hE hT hI hb
 have h:=all_run (E:=E) hE.srt f hm hv x g0
 cases hr:sayF E f [] x [] g0 with
 | error e =>
  obtain ⟨n,g'⟩:=e;rw [hr] at h;obtain ⟨fuel,r,h1,h2,h3⟩:=h;refine (key fuel _ h1 h2).mono fun e w' h=>?_
  subst h3;exact h
 | ok p =>
  obtain ⟨o,g'⟩:=p;rw [hr] at h;obtain ⟨fuel,h1,h2⟩:=h;exact (key fuel _ h1 h2).mono fun e w' h=>h
end
def Fo.sh:Fo->Prop
 | .nil=>True
 | .text t r=>t.length<=5000/\r.sh
 | .hash r=>r.sh
 | .put _ _ r=>r.sh
 | .num _ _ r=>r.sh
 | .br _ _ _ _ _ bs r=>bs.sh/\r.sh
 | .leg _ _ m r=>m.sh/\r.sh
def OkX (N c p:Nat) (x:InL):Prop:=(∀ j∈x.k,j<c)/\x.k.length<=N/\x.v<=1000000000/\(∀ y∈x.tg,y<=p)/\(x.op=7->0<x.tg.length)/\(x.op=10->x.k≠[]/\x.k.length<=x.tg.length)
def OkS (N:Nat) (s:MkS):Prop:=(∀ x∈s.code,OkX N s.cs.length s.pos x)/\∀ t∈s.cs,t.length<=5000
theorem OkX.more {N c p c' p':Nat} {x:InL} (h:OkX N c p x) (hc:c<=c') (hp:p<=p'):OkX N c' p' x :=
 ⟨fun j hj=>Nat.lt_of_lt_of_le (h.1 j hj) hc,h.2.1,h.2.2.1,fun y hy=>Nat.le_trans (h.2.2.2.1 y hy) hp,h.2.2.2.2⟩
section
variable {N:Nat} {s:MkS}
theorem OkS.put (h:OkS N s) (op v:Nat) (k tg:List Nat) (h1:∀ j∈k,j<s.cs.length) (h2:k.length<=N) (h3:v<=1000000000) (h4:∀ y∈tg,y=0) (h5:op=7->0<tg.length) (h6:op=10->k≠[]/\k.length<=tg.length):OkS N (s.put op v k tg):=by
 refine ⟨fun x hx=>?_,h.2⟩;rw [code_put,List.mem_append,List.mem_singleton] at hx;rcases hx with hx | rfl
 ·exact (h.1 x hx).more (Nat.le_refl _) (Nat.le_add_right _ _)
 ·exact ⟨h1,h2,h3,fun y hy=>by rw [h4 y hy];exact Nat.zero_le _,h5,h6⟩
theorem OkS.const (h:OkS N s) (t:Wd) (ht:t.length<=5000):OkS N (s.const t):=by
 unfold MkS.const;split
 ·exact h
 ·refine ⟨fun x hx=>(h.1 x hx).more (by simp) (Nat.le_refl _),fun u hu=>?_⟩;simp only [List.mem_append,List.mem_singleton] at hu;rcases hu with hu | rfl
  ·exact h.2 u hu
  ·exact ht
theorem OkS.leap (h:OkS N s) (i j:Nat):OkS N (s.leap i j):=by
 refine ⟨fun x hx=>?_,h.2⟩;obtain ⟨n,hn,e⟩:=List.mem_iff_getElem.1 hx;have hx':(s.leap i j).code[n]? = some x:=by rw [List.getElem?_eq_getElem hn,e]
 rw [code_leap] at hx';split at hx'
 ·cases hc:s.code[n]? with
  | none=>rw [hc] at hx';cases hx'
  | some y =>
   rw [hc] at hx'
   cases hx';have hy:=h.1 y (List.mem_of_getElem? hc);refine ⟨hy.1,hy.2.1,hy.2.2.1,fun z hz=>?_,fun q=>by rw [List.length_set];exact hy.2.2.2.2.1 q,fun q=>by rw [List.length_set];exact hy.2.2.2.2.2 q⟩;rcases List.mem_or_eq_of_mem_set hz with hz | rfl
   ·exact hy.2.2.2.1 z hz
   ·exact Nat.le_refl _
 ·exact h.1 x (List.mem_of_getElem? hx')
theorem num_lt (s:MkS) (t:Wd):s.num t<(s.const t).cs.length:=(List.getElem?_eq_some_iff.1 (con_hit (s0:=s) t (List.prefix_refl _))).1
theorem cs_le (s:MkS) (t:Wd):s.cs.length<=(s.const t).cs.length:=by unfold MkS.const;split<;>simp
theorem OkS.one (h:OkS N s) (op:Nat) (t:Wd) (ht:t.length<=5000) (hop:op<7) (hN:1<=N):OkS N (s.one op t) :=
 (h.const t ht).put op 0 [s.num t] [] (fun j hj=>by rw [List.mem_singleton.1 hj];exact num_lt s t) hN (Nat.zero_le _) (fun y hy=>by cases hy) (fun q=>by omega) (fun q=>by omega)
theorem OkS.selK:∀ (f:Fo) (s:MkS) (acc:List Nat),(∀ k∈f.keys,k.length<=5000)->OkS N s->(∀ j∈acc,j<s.cs.length)->acc≠[]->OkS N (MkS.selK f s acc).1/\(∀ j∈(MkS.selK f s acc).2,j<(MkS.selK f s acc).1.cs.length)/\(MkS.selK f s acc).2≠[]
 | .leg k _ _ r,s,acc,hk,h,ha,hn=>by
  rw [MkS.selK];have hk':∀ k∈r.keys,k.length<=5000:=fun x hx=>hk x (List.mem_cons_of_mem _ hx)
  split
  ·exact OkS.selK r s acc hk' h ha hn
  ·refine OkS.selK r _ _ hk' (h.const _ (hk k (List.mem_cons_self ..))) (fun j hj=>?_) (by simp);rw [List.mem_append,List.mem_singleton] at hj;rcases hj with hj | rfl
   ·exact Nat.lt_of_lt_of_le (ha j hj) (cs_le s k)
   ·exact num_lt s k
 | .nil,_,_,_,h,ha,hn=>⟨h,ha,hn⟩
 | .text _ _,_,_,_,h,ha,hn=>⟨h,ha,hn⟩
 | .hash _,_,_,_,h,ha,hn=>⟨h,ha,hn⟩
 | .put _ _ _,_,_,_,h,ha,hn=>⟨h,ha,hn⟩
 | .num _ _ _,_,_,_,h,ha,hn=>⟨h,ha,hn⟩
 | .br _ _ _ _ _ _ _,_,_,_,h,ha,hn=>⟨h,ha,hn⟩
theorem OkS.askS:∀ (f:Fo) (s:MkS) (acc:List (Wd×Nat)),(∀ k∈f.keys,k.head? = some 61->offV k.tail<=1000000000)->OkS N s->OkS N (MkS.askS f s acc).1
 | .leg k _ _ r,s,acc,hk,h=>by
  rw [MkS.askS];have hk':∀ k∈r.keys,k.head? = some 61->offV k.tail<=1000000000:=fun x hx=>hk x (List.mem_cons_of_mem _ hx)
  split
  ·rename_i h61;exact OkS.askS r _ _ hk' (h.put _ _ _ _ (fun j hj=>by cases hj) (Nat.zero_le _) (hk k (List.mem_cons_self ..) h61) (fun y hy=>List.mem_singleton.1 hy) (fun _=>Nat.one_pos) (fun q=>by cases q))
  ·exact OkS.askS r s acc hk' h
 | .nil,_,_,_,h=>h
 | .text _ _,_,_,_,h=>h
 | .hash _,_,_,_,h=>h
 | .put _ _ _,_,_,_,h=>h
 | .num _ _ _,_,_,_,h=>h
 | .br _ _ _ _ _ _ _,_,_,_,h=>h
theorem OkS.plu (n o:Wd) (bs:Fo) (s0:MkS) (k:Wd) (h:OkS N s):OkS N (MkS.pluB n o bs s0 k s):=by
 unfold MkS.pluB;split
 ·exact h.leap _ _
 ·exact MkS.foldl_inv (OkS N) _ (fun s c h=>by split;exact h.leap _ _;exact h) _ _ h
theorem OkS.leaps (h:OkS N s) (l:List Nat):OkS N (l.foldl (fun s i=>MkS.leap s i 0) s):=MkS.foldl_inv (OkS N) _ (fun _ _ h=>h.leap _ _) _ _ h
theorem OkS.go (hN:20<=N):∀ (f:Fo) (bg:Wd->MkS->MkS) (s:MkS) (ls:List Nat),(∀ k s,OkS N s->OkS N (bg k s))->f.cok->f.sh->f.cw<=N->OkS N s->OkS N (MkS.goS f bg s ls).1
 | .nil,_,_,_,_,_,_,_,h=>h
 | .text t r,bg,s,ls,hb,hc,hs,hw,h=>OkS.go hN r bg _ ls hb hc.2 hs.2 (by simp only [Fo.cw] at hw;omega) (h.one _ _ hs.1 (by omega) (by omega))
 | .hash r,bg,s,ls,hb,hc,hs,hw,h=>OkS.go hN r bg _ ls hb hc hs (by simp only [Fo.cw] at hw;omega) (h.put _ _ _ _ (fun j hj=>by cases hj) (Nat.zero_le _) (Nat.zero_le _) (fun y hy=>by cases hy) (fun q=>by cases q) (fun q=>by cases q))
 | .put n _ r,bg,s,ls,hb,hc,hs,hw,h=>OkS.go hN r bg _ ls hb hc.2 hs (by simp only [Fo.cw] at hw;omega) (h.one _ _ (by have:=hc.1;omega) (by omega) (by omega))
 | .num n _ r,bg,s,ls,hb,hc,hs,hw,h=>OkS.go hN r bg _ ls hb hc.2 hs (by simp only [Fo.cw] at hw;omega) (h.one _ _ (by have:=hc.1;omega) (by omega) (by omega))
 | .br n _ f o _ bs r,bg,s,ls,hb,hc,hs,hw,h=>by
  obtain ⟨c1,c2,c3,c4,c5,c6,c7,c8⟩:=hc;have hw':=hw;simp only [Fo.cw] at hw;have hn:n.length<=5000:=by omega
  have hkl:=Fo.gw_keys bs;rw [MkS.goS];split
  ·obtain ⟨a1,a2,a3⟩:=OkS.selK bs (s.const n) [s.num n] (fun k hk=>by have:=(c6 k hk).1;omega) (h.const n hn) (fun j hj=>by rw [List.mem_singleton.1 hj];exact num_lt s n) (by simp);have hl:=(MkS.selK_le bs (s.const n) [s.num n]).2.2.1;refine OkS.go hN r bg _ ls hb c8 hs.2 (by omega) (OkS.leaps (OkS.go hN bs _ _ _ (fun k x hx=>hx.leap _ _) c7 hs.1 (by omega) ?_) _);exact a1.put _ _ _ _ a2 (by rw [List.length_singleton] at hl;simp only [MkS.sel1];omega) (Nat.zero_le _) (fun y hy=>(List.mem_replicate.1 hy).2) (fun q=>by cases q) (fun _=>⟨a3,by rw [List.length_replicate];exact Nat.le_refl _⟩)
  ·rename_i hf;refine OkS.go hN r bg _ ls hb c8 hs.2 (by omega) (OkS.put (OkS.leaps (OkS.go hN bs _ _ _ (fun k x hx=>hx.plu n o bs s k) c7 hs.1 (by omega) ?_) _) _ _ _ _ (fun j hj=>by cases hj) (Nat.zero_le _) (Nat.zero_le _) (fun y hy=>by cases hy) (fun q=>by cases q) (fun q=>by cases q));refine OkS.put (OkS.askS bs _ _ (fun k hk h61=>?_) ((h.const n hn).put _ _ _ _ (fun j hj=>by rw [List.mem_singleton.1 hj];exact num_lt s n) (by simp;omega) (by omega) (fun y hy=>by cases hy) (fun q=>by cases q) (fun q=>by cases q))) _ _ _ _ (fun j hj=>by cases hj) (Nat.zero_le _) (Nat.zero_le _) (fun y hy=>(List.mem_replicate.1 hy).2) (fun q=>by split at q<;>cases q) (fun q=>by split at q<;>cases q);obtain ⟨-,e2,e3⟩:=(c6 k hk).2 hf h61;have h1:=offV_lt _ e3;have h2:10 ^ k.tail.length<=10 ^ 9:=Nat.pow_le_pow_right (by omega) e2;omega
 | .leg k _ m r,bg,s,ls,hb,hc,hs,hw,h=>by
  simp only [Fo.cw] at hw;exact OkS.go hN r bg _ _ hb hc.2.2 hs.2 (by omega) (OkS.put (OkS.go hN m _ _ _ (fun _ _ h=>h) hc.2.1 hs.1 (by omega) (hb k s h)) _ _ _ _ (fun j hj=>by cases hj) (Nat.zero_le _) (Nat.zero_le _) (fun y hy=>List.mem_singleton.1 hy) (fun q=>by cases q) (fun q=>by cases q))
end
theorem all_ok {f:Fo} (hc:f.cok) (hs:f.sh):OkS (f.cw+20) (MkS.all f) :=
 OkS.put (OkS.go (N:=f.cw+20) (by omega) f _ _ [] (fun _ _ h=>h) hc hs (by omega) ⟨fun x hx=>(by cases hx),fun t ht=>(by cases ht)⟩) _ _ _ _ (fun j hj=>by cases hj) (Nat.zero_le _) (Nat.zero_le _) (fun y hy=>by cases hy) (fun q=>by cases q) (fun q=>by cases q)
theorem all_sz (f:Fo):(MkS.all f).sz<=f.cw+3:=by
 have h:=(mes_le f MkS.start).2;have h1:(insX ⟨0,(MkS.mes f MkS.start).pos,0,[],[]⟩).length=1:=by rfl
 rw [show MkS.start.sz=0 from rfl] at h;rw [MkS.all,sz_put,h1];omega
theorem all_fits {f:Fo} (hc:f.cok) (hs:f.sh) (hw:f.cw<=90000):TabOk (MkS.all f)/\(MkS.all f).code.length<=100000/\(MkS.all f).cs.length<=1000000/\(∀ t∈(MkS.all f).cs,t.length<=5000)/\∀ x∈(MkS.all f).code,x.v<=1000000000/\∀ y∈x.tg,y<=4000000000:=by
 obtain ⟨h1,h2⟩:=all_ok hc hs;have hz:=all_sz f;simp only [MkS.sz] at hz;refine ⟨fun x hx=>⟨(h1 x hx).2.2.2.2.1,fun hop=>?_⟩,by omega,by omega,h2,fun x hx=>⟨(h1 x hx).2.2.1,fun y hy=>by have:=(h1 x hx).2.2.2.1 y hy;omega⟩⟩;obtain ⟨a1,a2,-,-,-,a3⟩:=h1 x hx;obtain ⟨b1,b2⟩:=a3 hop;refine ⟨by omega,List.all_eq_true.2 fun j hj=>decide_eq_true (a1 j (List.mem_of_mem_tail hj)),?_⟩
 cases hk:x.k with
 | nil=>exact absurd hk b1
 | cons a l=>rw [hk] at b2;simp only [List.tail_cons,List.length_cons] at b2 ⊢;omega
end Go.Proofs.YthpldolmpinnhaaGreatDoor
