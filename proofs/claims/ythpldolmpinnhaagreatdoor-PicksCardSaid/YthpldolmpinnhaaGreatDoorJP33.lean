import Derived.Test.YthpldolmpinnhaaGreatDoorJP32
open List renaming mem_singleton→z7,getElem?_eq_some_iff→z8,getElem?_append_left→zy,prefix_refl→zx,getElem?_append_right→zv,getElem?_eq_getElem→zk,mem_cons_of_mem→zj,mem_append→zg,lookup_cons→zZ,mem_map→zY,idxOf_lt_length_of_mem→zX,mem_cons_self→zV,length_append→zU,replicate→zQ,mem_of_getElem?→zJ,mem_filter→zF,idxOf_eq_length→zD,prefix_append→zE,getElem_idxOf→zH,cons_append→zL,tail_cons→zM,map_cons→zN,length_singleton→zO,mem_iff_getElem→zP,mem_replicate→zR,append_assoc→zW,length_cons→zc,all_eq_true→ze,nodup_cons→zi,nil_append→zl,length_set→zm,idxOf_cons→zn,foldl_map→zo
open Nat renaming le_refl→zu,zero_le→zf,lt_of_lt_of_le→zS
open Prod.mk renaming inj→zG,injEq→za
namespace Go.Proofs.YthpldolmpinnhaaGreatDoor
open Go Go.RowKit
set_option maxRecDepth 10000
def Fo.BI:Bool->Fo->Prop
 | _,.nil=>True
 | b,.text _ r=>r.BI b
 | b,.hash r=>b=true/\r.BI b
 | b,.put _ _ r=>r.BI b
 | b,.num _ _ r=>r.BI b
 | b,.br _ _ f _ _ bs r=>bs.ub=true/\bs.keys.Nodup/\qb∈bs.keys/\bs.BI (decide (f≠0))/\r.BI b
 | b,.uq _ _ m r=>m.vD=true/\m.BI b/\r.BI b
def Rv(x:jC):Nat×Nat×Nat×List Nat×Nat:=(x.op,x.pos,x.v,x.k,x.tg.length)
theorem Yv(s:MkS)(i j n:Nat):(s.uv i j).code[n]? = if i=n then (s.code[n]?).map (fun x=>{ x with tg:=x.tg.set j s.pos }) else s.code[n]? := by
 simp only[MkS.uv];rw[List.getElem?_modify];by_cases h:i=n
 ·simp[h]
 ·simp[h]
theorem eS(s:MkS)(i j:Nat):(s.uv i j).code.length=s.code.length:=by simp[MkS.uv]
theorem xA(s:MkS)(op v:Nat)(k tg:List Nat):(s.put op v k tg).code=s.code++[⟨op,s.pos,v,k,tg⟩]:=rfl
theorem Zc(s:MkS):qp fun s'=>∀ (i:Nat) (x:jC),s.code[i]? = some x->∃ y,s'.code[i]? = some y/\Rv y=Rv x:=by
 refine⟨fun a op v k tg h i x hx=>?_,fun a t h i x hx=>?_,fun a i j h n x hx=>?_⟩
 ·obtain⟨y,h1,h2⟩:=h i x hx;exact⟨y,by rw[xA,zy (z8.1 h1).1];exact h1,h2⟩
 ·rw[(vY a t).2.1];exact h i x hx
 ·obtain⟨y,h1,h2⟩:=h n x hx;rw[Yv];split
  ·exact⟨_,by rw[h1];rfl,by rw[←h2];simp[Rv]⟩
  ·exact⟨y,h1,h2⟩
theorem Zz(c:List Wd):qp fun s=>c <+: s.cs:=by
 refine⟨fun a op v k tg h=>h,fun a t h=>?_,fun a i j h=>h⟩;unfold MkS.const;split
 ·exact h
 ·exact h.trans (zE _ _)
def Kt(s:MkS):Prop:=(∀ (i j:Nat) (x y:jC),i<j->s.code[i]? = some x->s.code[j]? = some y->x.pos<y.pos)/\∀ x∈s.code,x.pos<s.pos
theorem eT(x:jC):0<(uG x).length:=by simp[uG]
theorem TC:qp Kt:=by
 refine⟨fun s op v k tg h=>?_,fun s t h=>?_,fun s i j h=>?_⟩
 ·have hp:=eT ⟨op,s.pos,v,k,tg⟩;refine⟨fun i j x y hij hx hy=>?_,fun x hx=>?_⟩
  ·rw[xA] at hx hy;rw[List.getElem?_append] at hx hy;split at hy
   ·rw[if_pos (by omega)] at hx;exact h.1 i j x y hij hx hy
   ·have hj:j - s.code.length=0:=by
     have:=(z8.1 hy).1;simp at this;omega
    rw[hj] at hy;simp at hy;subst hy;rw[if_pos (by omega)] at hx;exact h.2 x (zJ hx)
  ·show x.pos<s.pos+_;rw[xA,zg,z7] at hx;rcases hx with hx|rfl
   ·have:=h.2 x hx;omega
   ·show s.pos<_;omega
 ·obtain⟨-,z2,z3⟩:=vY s t;unfold Kt;rw[z2,z3];exact h
 ·have js:∀ (n:Nat) (x:jC),(s.uv i j).code[n]? = some x->∃ y,s.code[n]? = some y/\y.pos=x.pos:=by
   intro n x hx;rw[Yv] at hx;split at hx
   ·cases hc:s.code[n]? with
    | none=>rw[hc] at hx;cases hx
    | some y=>rw[hc] at hx;cases hx;exact⟨y,rfl,rfl⟩
   ·exact⟨x,hx,rfl⟩
  refine⟨fun a b x y hab hx hy=>?_,fun x hx=>?_⟩
  ·obtain⟨x',h1,h2⟩:=js a x hx;obtain⟨y',h3,h4⟩:=js b y hy;rw[←h2,←h4];exact h.1 a b x' y' hab h1 h3
  ·obtain⟨n,hn,e⟩:=zP.1 hx;obtain⟨x',h1,h2⟩:=js n x (by rw[zk hn,e]);rw[←h2];exact h.2 x' (zJ h1)
theorem eW{s:MkS}(h:Kt s){k:Nat}{x:jC}(hx:s.code[k]? = some x):dK s.code s.code.length x.pos=some k:=by
 have key:∀ n,k<n->n<=s.code.length->dK s.code n x.pos=some k:=by
  intro n;induction n with
  | zero=>intro h;omega
  | succ n ih =>
   intro h1 h2;simp only[dK];by_cases hk:k=n
   ·subst hk;simp[hx]
   ·obtain⟨y,hy⟩:∃ y,s.code[n]? = some y:=⟨_,zk (by omega)⟩;have:=h.1 k n x y (by omega) hx hy;rw[hy];rw[if_neg (by simp;omega)];exact ih (by omega) (by omega)
 exact key _ (z8.1 hx).1 (zu _)
def uX(l:List (Nat×Nat))(s:MkS):MkS:=l.foldl (fun s p=>s.uv p.1 p.2) s
theorem qL:∀ (l:List (Nat×Nat)) (s:MkS),(uX l s).code.length=s.code.length/\(uX l s).pos=s.pos/\(uX l s).cs=s.cs
 | [],s=>⟨rfl,rfl,rfl⟩
 | p::l,s=>by
  obtain⟨a,b,c⟩:=qL l (s.uv p.1 p.2);exact⟨a.trans (eS _ _ _),b,c⟩
theorem dD:∀ (l:List (Nat×Nat)) (s:MkS) (n:Nat),(∀ p∈l,p.1≠n)->(uX l s).code[n]? = s.code[n]?
 | [],s,n,_=>rfl
 | p::l,s,n,h=>by
  show(uX l (s.uv p.1 p.2)).code[n]? = _;rw[dD l _ n (fun q hq=>h q (zj _ hq)),Yv,if_neg (h p (zV ..))]
def slot(s:MkS)(p:Nat×Nat):Option Nat:=(s.code[p.1]?).bind fun x=>x.tg[p.2]?
theorem TE(s:MkS)(i j:Nat)(p:Nat×Nat):slot (s.uv i j) p=if (i,j)=p/\(slot s p).isSome then some s.pos else slot s p:=by
 unfold slot;rw[Yv];by_cases h1:i=p.1
 ·rw[if_pos h1]
  cases hc:s.code[p.1]? with
  | none=>simp
  | some x =>
   simp only[Option.map_some,Option.bind_some];rw[List.getElem?_set];by_cases h2:j=p.2
   ·rw[if_pos h2];have:(i,j)=p:=by rw[h1,h2]
    by_cases h3:j<x.tg.length
    ·rw[if_pos h3,if_pos ⟨this,by rw[←h2,zk h3];rfl⟩]
    ·have h4:x.tg[p.2]? = none:=List.getElem?_eq_none (by omega);rw[if_neg h3,h4,if_neg (by simp)]
   ·rw[if_neg h2,if_neg (fun q=>h2 (by rw[←q.1]))]
 ·rw[if_neg h1,if_neg (fun q=>h1 (by rw[←q.1]))]
theorem fR:∀ (l:List (Nat×Nat)) (s:MkS) (p:Nat×Nat),slot (uX l s) p=if p∈l/\(slot s p).isSome then some s.pos else slot s p
 | [],s,p=>by simp[uX]
 | q::l,s,p=>by
  show slot (uX l (s.uv q.1 q.2)) p=_;rw[fR l,TE];have hp:(s.uv q.1 q.2).pos=s.pos:=rfl;rw[hp];by_cases h1:(slot s p).isSome
  ·by_cases h2:(q.1,q.2)=p
   ·have:p∈q::l:=by rw[←h2];exact zV ..
    simp[h1,h2,this]
   ·have h3:¬q=p:=fun e=>h2 (by rw[←e])
    have h4:¬p=q:=fun e=>h3 e.symm
    simp[h1,h2,h4]
  ·have h5:slot s p=none:=by simpa using h1
   simp[h5]
theorem FX(s:MkS)(op v:Nat)(k tg:List Nat)(p:Nat×Nat)(h:p.1<s.code.length):slot (s.put op v k tg) p=slot s p:=by
 unfold slot;rw[xA,zy h]
theorem Ja{s s':MkS}{p:Nat×Nat}(h:s'.code[p.1]? = s.code[p.1]?):slot s' p=slot s p:=by unfold slot;rw[h]
def Steps{σ:Type}(F:Nat->σ->SB σ)(k:Nat)(r:σ)(k':Nat)(r':σ):Prop:=∃ n,n+k<=k'/\∀ fuel,Q9 F (fuel+n) k r=Q9 F fuel k' r'
section
variable {σ:Type} {F:Nat->σ->SB σ}
theorem Steps.refl(k:Nat)(r:σ):Steps F k r k r:=⟨0,by omega,fun _=>rfl⟩
theorem Steps.trans{k k1 k2:Nat}{r r1 r2:σ}(h:Steps F k r k1 r1)(h2:Steps F k1 r1 k2 r2):Steps F k r k2 r2:=by
 obtain⟨n,hk,hn⟩:=h;obtain⟨m,P5,hm⟩:=h2;exact⟨m+n,by omega,fun fuel=>by rw[←Nat.add_assoc,hn,hm]⟩
theorem Steps.one{k k':Nat}{r r':σ}(h:F k r = .go k' r')(hk:k<k':=by omega):Steps F k r k' r':=⟨1,by omega,fun fuel=>by rw[Q9,h]⟩
end
section
variable {τ:Type} {F:Nat->bh τ->SB (bh τ)}
def JQ(F:Nat->bh τ->SB (bh τ))(k:Nat)(r:bh τ)(k':Nat)(stk:List (vv×vv)):Except (Nat×τ) (Wd×τ)->Prop
 | .ok (o,g)=>Steps F k r k' ⟨o,stk,g⟩
 | .error (n,g)=>∃ m r',m+k<=k'/\(∀ fuel,Q9 F (fuel+m) k r=some (.error (n,r')))/\r'.gs=g
theorem JQ.after{k k1 k':Nat}{r r1:bh τ}{stk:List (vv×vv)}{res:Except (Nat×τ) (Wd×τ)}(h:Steps F k r k1 r1)(h2:JQ F k1 r1 k' stk res):JQ F k r k' stk res:=by
 cases res with
 | ok p=>exact h.trans h2
 | error e =>
  obtain⟨n,hk,hn⟩:=h;obtain⟨m,r',P5,hm,hg⟩:=h2;exact⟨m+n,r',by omega,fun fuel=>by rw[←Nat.add_assoc,hn,hm],hg⟩
theorem JQ.err{k k' n:Nat}{r r':bh τ}{stk:List (vv×vv)}(h:F k r = .err n r')(hk:k<k':=by omega):JQ F k r k' stk (.error (n,r'.gs)):=⟨1,r',by omega,fun fuel=>by rw[Q9,h],rfl⟩
theorem JQ.far{k k1 k':Nat}{r:bh τ}{stk:List (vv×vv)}{e:Nat×τ}{yak:List (vv×vv)}(h:JQ F k r k1 stk (.error e))(hk:k1<=k'):JQ F k r k' yak (.error e):=by
 obtain⟨m,r',h1,h2,h3⟩:=h;exact⟨m,r',by omega,h2,h3⟩
end
theorem go_msg:∀ (f:Fo),f.vD=true->∀ (bg:Wd->MkS->MkS) (s:MkS) (ls:List Nat),MkS.qZ f bg s ls=(MkS.dM f s,ls)
 | .nil,_,_,_,_=>rfl
 | .text t r,h,bg,s,ls=>go_msg r h bg _ ls
 | .hash r,h,bg,s,ls=>go_msg r h bg _ ls
 | .put n a r,h,bg,s,ls=>go_msg r h bg _ ls
 | .num n a r,h,bg,s,ls=>go_msg r h bg _ ls
 | .br n a f o c bs r,h,bg,s,ls=>by
  rw[MkS.dM,MkS.qZ,MkS.qZ];split
  ·dsimp only;rw[go_msg r h bg,go_msg r h (fun _ s=>s)]
  ·dsimp only;rw[go_msg r h bg,go_msg r h (fun _ s=>s)]
 | .uq k a m r,h,bg,s,ls=>by cases h
theorem ZL(l:List Nat)(s:MkS):l.foldl (fun s i=>MkS.uv s i 0) s=uX (l.map fun i=>(i,0)) s:=by
 unfold uX;rw[zo]
def Ru(ks:List Wd)(t:Nat)(key:Wd):List (Nat×Nat):=((List.range 6).filter fun c=>decide (Un.getD c []=key\/key=qb/\Un.getD c [] ∉ ks)).map fun c=>(t,c)
theorem Ob(ks:List Wd)(t:Nat)(key:Wd)(s:MkS):MkS.I0 ks t key s=uX (Ru ks t key) s:=by
 unfold uX Ru MkS.I0;rw[zo,List.foldl_filter];congr 1;funext s c;simp only[decide_eq_true_eq]
def Kh(n:Wd)(bs:Fo)(s:MkS)(k:Wd):List (Nat×Nat):=[((MkS.ff n bs s).1.code.length,MkS.place bs.keys k)]
theorem fS(n:Wd)(bs:Fo)(s:MkS)(k:Wd)(x:MkS):MkS.bz n bs s k x=uX (Kh n bs s k) x:=rfl
def Yu(n o:Wd)(bs:Fo)(s:MkS)(k:Wd):List (Nat×Nat) :=
 match (MkS.kP n o bs s).2.lookup k with
 | some i=>[(i,0)]
 | none=>Ru bs.keys (MkS.kP n o bs s).1.code.length k
theorem gq(n o:Wd)(bs:Fo)(s:MkS)(k:Wd)(x:MkS):MkS.jD n o bs s k x=uX (Yu n o bs s k) x:=by
 unfold MkS.jD Yu
 cases h:(MkS.kP n o bs s).2.lookup k with
 | some i=>rfl
 | none=>exact Ob _ _ _ _
theorem Yq(n:Wd)(bs:Fo)(s:MkS):(MkS.ff n bs s).1.code=s.code/\(MkS.ff n bs s).1.pos=s.pos:=by
 obtain⟨_,_,_,d,e⟩:=MkS.Ur bs (s.const n) [s.num n];obtain⟨_,z2,z3⟩:=vY s n;exact⟨d.trans z2,e.trans z3⟩
theorem bC:∀ (f:Fo) (s:MkS) (acc:List (Wd×Nat)),s.code <+: (MkS.qH f s acc).1.code/\acc <+: (MkS.qH f s acc).2/\∀ p∈(MkS.qH f s acc).2,p∈acc\/s.code.length<=p.2/\p.2<(MkS.qH f s acc).1.code.length
 | .uq k a m r,s,acc=>by
  rw[MkS.qH];split
  ·obtain⟨h1,h2,h3⟩:=bC r (s.put 7 (xL k.tail) [] [0]) (acc++[(k,s.code.length)]);have hl:(s.put 7 (xL k.tail) [] [0]).code.length=s.code.length+1:=by simp[xA]
   have:=h1.length_le;refine⟨(show s.code <+: (s.put 7 (xL k.tail) [] [0]).code from zE _ _).trans h1,(zE _ _).trans h2,fun p hp=>?_⟩;rcases h3 p hp with q|q
   ·rw[zg,z7] at q;rcases q with q|rfl
    ·exact .inl q
    ·exact .inr ⟨zu _,by show s.code.length<_;omega⟩
   ·exact .inr ⟨by omega,q.2⟩
  ·exact bC r s acc
 | .nil,s,acc=>⟨zx _,zx _,fun p hp => .inl hp⟩
 | .text _ _,s,acc=>⟨zx _,zx _,fun p hp => .inl hp⟩
 | .hash _,s,acc=>⟨zx _,zx _,fun p hp => .inl hp⟩
 | .put _ _ _,s,acc=>⟨zx _,zx _,fun p hp => .inl hp⟩
 | .num _ _ _,s,acc=>⟨zx _,zx _,fun p hp => .inl hp⟩
 | .br _ _ _ _ _ _ _,s,acc=>⟨zx _,zx _,fun p hp => .inl hp⟩
theorem Yk{l:List (Wd×Nat)}{k:Wd}{i:Nat}(h:l.lookup k=some i):(k,i)∈l:=by
 induction l with
 | nil=>cases h
 | cons p l ih =>
  obtain⟨a,b⟩:=p;rw[zZ] at h
  cases hk:k==a
  ·rw[hk] at h;exact zj _ (ih h)
  ·rw[hk] at h;cases h;rw[beq_iff_eq] at hk;subst hk;exact zV ..
theorem ee{l l':List (Wd×Nat)}{k:Wd}{i:Nat}(h:l.lookup k=some i)(hp:l <+: l'):l'.lookup k=some i:=by
 obtain⟨t,rfl⟩:=hp;induction l with
 | nil=>cases h
 | cons p l ih =>
  obtain⟨a,b⟩:=p;rw[zZ] at h;rw[zL,zZ]
  cases hk:k==a
  ·rw[hk] at h;exact ih h
  ·rw[hk] at h;exact h
theorem TH{l:List (Wd×Nat)}{k:Wd}(h:l.lookup k=none)(i:Nat):(l++[(k,i)]).lookup k=some i:=by
 induction l with
 | nil=>rw[zl,zZ,beq_self_eq_true]
 | cons p l ih =>
  obtain⟨a,b⟩:=p;rw[zZ] at h;rw[zL,zZ]
  cases hk:k==a
  ·rw[hk] at h;exact ih h
  ·rw[hk] at h;cases h
theorem Ez{l:List (Wd×Nat)}{k k':Wd}(h:l.lookup k=none)(hn:k≠k')(i:Nat):(l++[(k',i)]).lookup k=none:=by
 induction l with
 | nil =>
  rw[zl,zZ,show(k==k')=false from beq_eq_false_iff_ne.2 hn];rfl
 | cons p l ih =>
  obtain⟨a,b⟩:=p;rw[zZ] at h;rw[zL,zZ]
  cases hk:k==a
  ·rw[hk] at h;exact ih h
  ·rw[hk] at h;cases h
theorem KC(n o:Wd)(bs:Fo)(s:MkS):s.code.length+1<=(MkS.kP n o bs s).1.code.length/\(∀ (i:Nat) (x:jC),s.code[i]? = some x->(MkS.kP n o bs s).1.code[i]? = some x)/\∀ k,∀ p∈Yu n o bs s k,s.code.length+1<=p.1/\p.1<=(MkS.kP n o bs s).1.code.length:=by
 obtain⟨h1,h2,h3⟩:=bC bs ((s.const n).put 4 (xL o) [s.num n] []) [];have hl:((s.const n).put 4 (xL o) [s.num n] []).code.length=s.code.length+1:=by simp[xA,(vY s n).2.1]
 have hle:=h1.length_le;rw[hl] at hle h3;refine⟨hle,fun i x hx=>?_,fun k p hp=>?_⟩
 ·obtain⟨t,ht⟩:=h1;show(MkS.qH bs ((s.const n).put 4 (xL o) [s.num n] []) []).1.code[i]? = some x;rw[←ht,zy (by rw[hl];have:=(z8.1 hx).1;omega),xA,(vY s n).2.1,zy (z8.1 hx).1];exact hx
 ·unfold Yu at hp;split at hp
  ·next i hi =>
   rw[z7] at hp;subst hp;rcases h3 _ (Yk hi) with q|q
   ·cases q
   ·exact⟨q.1,Nat.le_of_lt q.2⟩
  ·obtain⟨c,_,rfl⟩:=zY.1 hp;exact⟨hle,zu _⟩
theorem go_facts:∀ (f:Fo) (sl:Wd->List (Nat×Nat)) (bg:Wd->MkS->MkS),(∀ k x,bg k x=uX (sl k) x)->∀ (s:MkS) (ls:List Nat),
  s.code.length<=(MkS.qZ f bg s ls).1.code.length/\(∀ e∈(MkS.qZ f bg s ls).2,e∈ls\/s.code.length<=e/\e<(MkS.qZ f bg s ls).1.code.length)/\(∀ e∈ls,e∈(MkS.qZ f bg s ls).2) /\
  ∀ i,i<s.code.length->(∀ k,∀ p∈sl k,p.1≠i)->(MkS.qZ f bg s ls).1.code[i]? = s.code[i]?
 | .nil,sl,bg,hb,s,ls=>⟨zu _,fun e he => .inl he,fun e he=>he,fun _ _ _=>rfl⟩
 | .text t r,sl,bg,hb,s,ls=>by
  have hl:(s.one 1 t).code=s.code++[⟨1,(s.const t).pos,0,[s.num t],[]⟩]:=by rw[MkS.one,xA,(vY s t).2.1]
  exact go_more (x:=⟨1,(s.const t).pos,0,[s.num t],[]⟩) hl (go_facts r sl bg hb (s.one 1 t) ls)
 | .hash r,sl,bg,hb,s,ls=>go_more rfl (go_facts r sl bg hb (s.put 6 0 [] []) ls)
 | .put n a r,sl,bg,hb,s,ls=>by
  have hl:(s.one 2 n).code=s.code++[⟨2,(s.const n).pos,0,[s.num n],[]⟩]:=by rw[MkS.one,xA,(vY s n).2.1]
  exact go_more hl (go_facts r sl bg hb (s.one 2 n) ls)
 | .num n a r,sl,bg,hb,s,ls=>by
  have hl:(s.one 3 n).code=s.code++[⟨3,(s.const n).pos,0,[s.num n],[]⟩]:=by rw[MkS.one,xA,(vY s n).2.1]
  exact go_more hl (go_facts r sl bg hb (s.one 3 n) ls)
 | .br n a f o c bs r,sl,bg,hb,s,ls=>by
  rw[MkS.qZ];split
  ·have hS:(MkS.kV n bs s).code=s.code++[⟨10,(MkS.ff n bs s).1.pos,0,(MkS.ff n bs s).2,zQ (MkS.ff n bs s).2.length 0⟩]:=by rw[MkS.kV,xA,(Yq n bs s).1]
   have hlen:(MkS.kV n bs s).code.length=s.code.length+1:=by rw[hS];simp
   obtain⟨a1,a2,a3,a4⟩:=go_facts bs (Kh n bs s) (MkS.bz n bs s) (fS n bs s) (MkS.kV n bs s) [];dsimp only;rw[ZL];refine go_join (n:=s.code.length) ?_ ?_ (go_facts r sl bg hb _ ls)
   ·rw[(qL _ _).1];omega
   ·intro i hi;rw[dD _ _ _ (fun p hp=>?_),a4 i (by omega) (fun k p hp=>?_),hS,zy hi]
    ·rw[Kh,z7] at hp;subst hp;show(MkS.ff n bs s).1.code.length≠i;rw[(Yq n bs s).1];omega
    ·obtain⟨e,he,rfl⟩:=zY.1 hp;rcases a2 e he with q|q
     ·cases q
     ·show e≠i;omega
  ·obtain⟨b1,b2,b3⟩:=KC n o bs s;have hS:(MkS.qW n o f bs s).code=(MkS.kP n o bs s).1.code++[⟨if f=2 then 9 else 8,(MkS.kP n o bs s).1.pos,0,[],zQ 6 0⟩]:=by rw[MkS.qW,xA]
   have hlen:(MkS.qW n o f bs s).code.length=(MkS.kP n o bs s).1.code.length+1:=by rw[hS];simp
   obtain⟨a1,a2,a3,a4⟩:=go_facts bs (Yu n o bs s) (MkS.jD n o bs s) (gq n o bs s) (MkS.qW n o f bs s) [];dsimp only;rw[ZL];refine go_join (n:=s.code.length) ?_ ?_ (go_facts r sl bg hb _ ls)
   ·rw[xA,zU,(qL _ _).1];omega
   ·intro i hi;obtain⟨x,hx⟩:∃ x,s.code[i]? = some x:=⟨_,zk hi⟩;rw[xA,zy (by rw[(qL _ _).1];omega),dD _ _ _ (fun p hp=>?_),a4 i (by omega) (fun k p hp=>?_),hS,zy (by omega),b2 i x hx,hx]
    ·have:=b3 k p hp;omega
    ·obtain⟨e,he,rfl⟩:=zY.1 hp;rcases a2 e he with q|q
     ·cases q
     ·show e≠i;omega
 | .uq k a m r,sl,bg,hb,s,ls=>by
  rw[MkS.qZ];rw[hb];obtain⟨a1,a2,a3,a4⟩:=go_facts m (fun _=>[]) (fun _ s=>s) (fun _ _=>rfl) (uX (sl k) s) [];rw[(qL _ _).1] at a1 a2 a4;obtain⟨c1,c2,c3,c4⟩:=go_facts r sl bg hb ((MkS.qZ m (fun _ s=>s) (uX (sl k) s) []).1.put 11 0 [] [0]) (ls++[(MkS.qZ m (fun _ s=>s) (uX (sl k) s) []).1.code.length]);rw[xA,zU] at c1 c2 c4;simp only[zc,List.length_nil] at c1 c2 c4;refine⟨by omega,fun e he=>?_,fun e he=>c3 e (List.mem_append_left _ he),fun i hi hp=>?_⟩
  ·rcases c2 e he with q|q
   ·rw[zg,z7] at q;rcases q with q|rfl
    ·exact .inl q
    ·exact .inr ⟨by omega,by omega⟩
   ·exact .inr ⟨by omega,q.2⟩
  ·rw[c4 i (by omega) hp,zy (by omega),a4 i hi (fun _ _ q=>by cases q),dD _ _ _ (fun p h=>hp k p h)]
where
 go_join {n:Nat} {s s':MkS} {ls:List Nat} {r:MkS×List Nat} {sl:Wd->List (Nat×Nat)} (h1:s.code.length<=s'.code.length) (h2:∀ i,i<s.code.length->s'.code[i]? = s.code[i]?)
   (h:s'.code.length<=r.1.code.length/\(∀ e∈r.2,e∈ls\/s'.code.length<=e/\e<r.1.code.length)/\(∀ e∈ls,e∈r.2)/\∀ i,i<s'.code.length->(∀ k,∀ p∈sl k,p.1≠i)->r.1.code[i]? = s'.code[i]?) :
   s.code.length<=r.1.code.length/\(∀ e∈r.2,e∈ls\/s.code.length<=e/\e<r.1.code.length)/\(∀ e∈ls,e∈r.2)/\∀ i,i<s.code.length->(∀ k,∀ p∈sl k,p.1≠i)->r.1.code[i]? = s.code[i]? := by
  obtain⟨a,b,c,d⟩:=h;exact⟨by omega,fun e he=>(b e he).imp id (fun q=>⟨by omega,q.2⟩),c,fun i hi hp=>(d i (by omega) hp).trans (h2 i hi)⟩
 go_more {s s':MkS} {x:jC} {ls:List Nat} {r:MkS×List Nat} {sl:Wd->List (Nat×Nat)} (hx:s'.code=s.code++[x])
   (h:s'.code.length<=r.1.code.length/\(∀ e∈r.2,e∈ls\/s'.code.length<=e/\e<r.1.code.length)/\(∀ e∈ls,e∈r.2)/\∀ i,i<s'.code.length->(∀ k,∀ p∈sl k,p.1≠i)->r.1.code[i]? = s'.code[i]?) :
   s.code.length<=r.1.code.length/\(∀ e∈r.2,e∈ls\/s.code.length<=e/\e<r.1.code.length)/\(∀ e∈ls,e∈r.2)/\∀ i,i<s.code.length->(∀ k,∀ p∈sl k,p.1≠i)->r.1.code[i]? = s.code[i]? :=
  go_join (n:=0) (by rw[hx];simp) (fun i hi=>by rw[hx,zy hi]) h
theorem gD{P:MkS->Prop}(I:qp P)(l:List (Nat×Nat))(s:MkS)(h:P s):P (uX l s):=MkS.fE P _ (fun s p hs=>I.uv s p.1 p.2 hs) l s h
theorem go_inv{P:MkS->Prop}(I:qp P)(f:Fo){sl:Wd->List (Nat×Nat)}{bg:Wd->MkS->MkS}(hb:∀ k x,bg k x=uX (sl k) x)(s:MkS)(ls:List Nat)(h:P s):P (MkS.qZ f bg s ls).1 :=
 I.go f bg s ls (fun k s hs=>by rw[hb];exact gD I _ _ hs) h
theorem Ey{P:MkS->Prop}(I:qp P)(f:Fo)(s:MkS)(h:P s):P (MkS.dM f s):=I.go f _ s [] (fun _ _ h=>h) h
theorem QU(s:MkS):∀ (i:Nat) (x:jC),s.code[i]? = some x->∃ y,s.code[i]? = some y/\Rv y=Rv x:=fun i x h=>⟨x,h,rfl⟩
theorem gB(f:Fo)(s:MkS):s.code.length<=(MkS.dM f s).code.length/\∀ i,i<s.code.length->(MkS.dM f s).code[i]? = s.code[i]? := by
 obtain⟨a,_,_,d⟩:=go_facts f (fun _=>[]) (fun _ s=>s) (fun _ _=>rfl) s [];exact⟨a,fun i hi=>d i hi (fun _ _ q=>by cases q)⟩
theorem Rq(n:Wd)(a:Nat)(o:Wd)(c:Nat)(bs r:Fo)(s:MkS)(hr:r.vD=true) :
  MkS.dM (.br n a 0 o c bs r) s=MkS.dM r (uX ((MkS.qZ bs (MkS.bz n bs s) (MkS.kV n bs s) []).2.map fun i=>(i,0)) (MkS.qZ bs (MkS.bz n bs s) (MkS.kV n bs s) []).1):=by
 rw[MkS.dM,MkS.qZ,if_pos rfl,go_msg r hr,←ZL]
theorem Rk(n:Wd)(a f:Nat)(o:Wd)(c:Nat)(bs r:Fo)(s:MkS)(hf:f≠0)(hr:r.vD=true) :
  MkS.dM (.br n a f o c bs r) s=MkS.dM r ((uX ((MkS.qZ bs (MkS.jD n o bs s) (MkS.qW n o f bs s) []).2.map fun i=>(i,0)) (MkS.qZ bs (MkS.jD n o bs s) (MkS.qW n o f bs s) []).1).put 5 0 [] []):=by
 rw[MkS.dM,MkS.qZ,if_neg hf,go_msg r hr,←ZL]
theorem BL(n:Wd)(bs:Fo)(s:MkS):(MkS.kV n bs s).code=s.code++[⟨10,s.pos,0,(MkS.ff n bs s).2,zQ (MkS.ff n bs s).2.length 0⟩]:=by
 rw[MkS.kV,xA,(Yq n bs s).1,(Yq n bs s).2]
theorem BM(n o:Wd)(f:Nat)(bs:Fo)(s:MkS):(MkS.qW n o f bs s).code=(MkS.kP n o bs s).1.code++[⟨if f=2 then 9 else 8,(MkS.kP n o bs s).1.pos,0,[],zQ 6 0⟩]:=rfl
theorem Rj(n o:Wd)(bs:Fo)(s:MkS):(MkS.kP n o bs s).1.code[s.code.length]? = some ⟨4,s.pos,xL o,[s.num n],[]⟩:=by
 obtain⟨⟨t,ht⟩,_⟩:=bC bs ((s.const n).put 4 (xL o) [s.num n] []) [];rw[MkS.kP,←ht,xA,(vY s n).2.1,(vY s n).2.2];rw[zW,zv (zu _)];simp
theorem BN:∀ (f:Fo),f.vD=true->∀ (s:MkS),((MkS.dM f s).code.length=s.code.length/\(MkS.dM f s).pos=s.pos)\/∃ x,(MkS.dM f s).code[s.code.length]? = some x/\x.pos=s.pos:=by
 have key:∀ (r:Fo) (s s':MkS) (x:jC),s'.code[s.code.length]? = some x->x.pos=s.pos->∃ x,(MkS.dM r s').code[s.code.length]? = some x/\x.pos=s.pos:=by
  intro r s s' x hx hp;exact⟨x,by rw[(gB r s').2 _ (z8.1 hx).1];exact hx,hp⟩
 have r7:∀ (s s':MkS) (op v:Nat) (k tg:List Nat),s'.code=s.code->s'.pos=s.pos->(s'.put op v k tg).code[s.code.length]? = some ⟨op,s.pos,v,k,tg⟩:=by
  intro s s' op v k tg h1 h2;rw[xA,h1,h2,zv (zu _)];simp
 intro f hf s
 cases f with
 | nil=>exact .inl ⟨rfl,rfl⟩
 | text t r=>exact .inr (key r s (s.one 1 t) _ (r7 s (s.const t) _ _ _ _ (vY s t).2.1 (vY s t).2.2) rfl)
 | hash r=>exact .inr (key r s (s.put 6 0 [] []) _ (r7 s s _ _ _ _ rfl rfl) rfl)
 | put n a r=>exact .inr (key r s (s.one 2 n) _ (r7 s (s.const n) _ _ _ _ (vY s n).2.1 (vY s n).2.2) rfl)
 | num n a r=>exact .inr (key r s (s.one 3 n) _ (r7 s (s.const n) _ _ _ _ (vY s n).2.1 (vY s n).2.2) rfl)
 | br n a f o c bs r =>
  right;by_cases h0:f=0
  ·subst h0;rw[Rq n a o c bs r s hf];have h1:(MkS.kV n bs s).code[s.code.length]? = some ⟨10,s.pos,0,(MkS.ff n bs s).2,zQ (MkS.ff n bs s).2.length 0⟩:=by
    rw[BL,zv (zu _)];simp
   obtain⟨y,h2,h3⟩:=gD (Zc (MkS.kV n bs s)) ((MkS.qZ bs (MkS.bz n bs s) (MkS.kV n bs s) []).2.map fun i=>(i,0)) _ (go_inv (Zc (MkS.kV n bs s)) bs (fS n bs s) _ [] (QU _)) _ _ h1;exact key r s _ y h2 (by simp only[Rv,za] at h3;exact h3.2.1)
  ·rw[Rk n a f o c bs r s h0 hf];have h1:(MkS.qW n o f bs s).code[s.code.length]? = some ⟨4,s.pos,xL o,[s.num n],[]⟩:=by
    have:=(KC n o bs s).1;rw[BM,zy (by omega)];exact Rj n o bs s
   obtain⟨y,h2,h3⟩:=(Zc (MkS.qW n o f bs s)).put _ 5 0 [] [] (gD (Zc (MkS.qW n o f bs s)) ((MkS.qZ bs (MkS.jD n o bs s) (MkS.qW n o f bs s) []).2.map fun i=>(i,0)) _ (go_inv (Zc (MkS.qW n o f bs s)) bs (gq n o bs s) _ [] (QU _))) _ _ h1;exact key r s _ y h2 (by simp only[Rv,za] at h3;exact h3.2.1)
 | uq k a m r=>cases hf
theorem BO:∀ (f:Fo) (sl:Wd->List (Nat×Nat)) (bg:Wd->MkS->MkS),(∀ k x,bg k x=uX (sl k) x)->f.ub=true->∀ (s:MkS) (ls:List Nat) (q:Nat×Nat),q.1<s.code.length->(∀ k∈f.keys,q ∉ sl k)->slot (MkS.qZ f bg s ls).1 q=slot s q
 | .uq k a m r,sl,bg,hb,hl,s,ls,q,hq,hk=>by
  rw[MkS.qZ,hb];obtain⟨a1,a2⟩:=gB m (uX (sl k) s);rw[(qL _ _).1] at a1 a2;show slot (MkS.qZ r bg ((MkS.dM m (uX (sl k) s)).put 11 0 [] [0]) _).1 q=_;rw[BO r sl bg hb hl _ _ q (by rw[xA,zU];omega) (fun k' h'=>hk k' (zj _ h')),FX _ _ _ _ _ _ (by omega),Ja (a2 _ hq),fR,if_neg (fun e=>hk k (zV ..) e.1)]
 | .nil,_,_,_,_,_,_,_,_,_=>rfl
 | .text _ _,_,_,_,h,_,_,_,_,_=>by cases h
 | .hash _,_,_,_,h,_,_,_,_,_=>by cases h
 | .put _ _ _,_,_,_,h,_,_,_,_,_=>by cases h
 | .num _ _ _,_,_,_,h,_,_,_,_,_=>by cases h
 | .br _ _ _ _ _ _ _,_,_,_,h,_,_,_,_,_=>by cases h
theorem FV:∀ (f:Fo) (s:MkS) (acc:List (Wd×Nat)),∀ p∈(MkS.qH f s acc).2,p∈acc\/p.1.head? = some 61
 | .uq k a m r,s,acc,p,hp=>by
  rw[MkS.qH] at hp;split at hp
  ·next hk =>
   rcases FV r _ _ p hp with q|q
   ·rw[zg,z7] at q;rcases q with q|rfl
    ·exact .inl q
    ·exact .inr hk
   ·exact .inr q
  ·exact FV r s acc p hp
 | .nil,_,_,_,hp => .inl hp
 | .text _ _,_,_,_,hp => .inl hp
 | .hash _,_,_,_,hp => .inl hp
 | .put _ _ _,_,_,_,hp => .inl hp
 | .num _ _ _,_,_,_,hp => .inl hp
 | .br _ _ _ _ _ _ _,_,_,_,hp => .inl hp
theorem Ex:∀ (f:Fo) (s:MkS) (acc:List (Wd×Nat)),(∀ p∈acc,p.2<s.code.length)->(∀ p∈acc,∀ q∈acc,p.2=q.2->p=q)->∀ p∈(MkS.qH f s acc).2,∀ q∈(MkS.qH f s acc).2,p.2=q.2->p=q
 | .uq k a m r,s,acc,h1,h2=>by
  rw[MkS.qH];split
  ·refine Ex r _ _ (fun p hp=>?_) (fun p hp q hq e=>?_)
   ·rw[xA,zU];rw[zg,z7] at hp;rcases hp with hp|rfl
    ·have:=h1 p hp;simp;omega
    ·simp
   ·rw[zg,z7] at hp hq;rcases hp with hp|rfl
    ·rcases hq with hq|rfl
     ·exact h2 p hp q hq e
     ·have:=h1 p hp;simp only at e;omega
    ·rcases hq with hq|rfl
     ·have:=h1 q hq;simp only at e;omega
     ·rfl
  ·exact Ex r s acc h1 h2
 | .nil,_,_,_,h2=>h2
 | .text _ _,_,_,_,h2=>h2
 | .hash _,_,_,_,h2=>h2
 | .put _ _ _,_,_,_,h2=>h2
 | .num _ _ _,_,_,_,h2=>h2
 | .br _ _ _ _ _ _ _,_,_,_,h2=>h2
section
variable {τ:Type} {E:qq τ} {s:MkS}
def eqP(v:vv)(k:Wd):Bool:=decide (k.head? = some 61) && qE v (xL k.tail)
theorem qh{k:Nat}{x:jC}(h:s.code[k]? = some x)(r:bh τ):jA E s k r=qy E s x k r:=by unfold jA;rw[h]
theorem QQ(h:Kt s){k:Nat}{x:jC}(hx:s.code[k]? = some x){p:Nat}(hp:x.pos=p)(r:bh τ):Mj s (some p) r = .go k r:=by
 subst hp;simp only[Mj,eW h hx]
theorem fT{x y:jC}(h:Rv y=Rv x):y.op=x.op/\y.pos=x.pos/\y.v=x.v/\y.k=x.k/\y.tg.length=x.tg.length:=by
 simpa[Rv] using h
theorem Ev(v z:vv):∀ (bs:Fo) (s0:MkS) (acc:List (Wd×Nat)),bs.ub=true->bs.keys.Nodup->(∀ k∈bs.keys,acc.lookup k=none)->(∀ (i:Nat) (x:jC),s0.code.length<=i->(MkS.qH bs s0 acc).1.code[i]? = some x->∃ y,s.code[i]? = some y/\Rv y=Rv x) ->
  match bs.keys.find? (eqP v) with
  | none=>∀ (o:Wd) (g:τ) (stk:List (vv×vv)),stk.getLast? = some (v,z)->Steps (jA E s) s0.code.length ⟨o,stk,g⟩ (MkS.qH bs s0 acc).1.code.length ⟨o,stk,g⟩
  | some k=>∃ i x,(MkS.qH bs s0 acc).2.lookup k=some i/\(MkS.qH bs s0 acc).1.code[i]? = some x/\x.op=7/\x.tg.length=1/\qE v x.v=true /\
    ∀ (o:Wd) (g:τ) (stk:List (vv×vv)),stk.getLast? = some (v,z)->Steps (jA E s) s0.code.length ⟨o,stk,g⟩ i ⟨o,stk,g⟩
 | .uq k a m r,s0,acc,hl,hd,ha,hs=>by
  have mD:=zi.1 (show(k::r.keys).Nodup from hd);rw[show(Fo.uq k a m r).keys=k::r.keys from rfl,List.find?_cons];rw[MkS.qH] at hs ⊢;by_cases hk:k.head? = some 61
  ·rw[if_pos hk] at hs ⊢;obtain⟨⟨t,ht⟩,h2,h3⟩:=bC r (s0.put 7 (xL k.tail) [] [0]) (acc++[(k,s0.code.length)]);have hx:(MkS.qH r (s0.put 7 (xL k.tail) [] [0]) (acc++[(k,s0.code.length)])).1.code[s0.code.length]? = some ⟨7,s0.pos,xL k.tail,[],[0]⟩:=by
    rw[←ht,xA,zW,zv (zu _)];simp
   obtain⟨y,hy,Jh⟩:=hs _ _ (zu _) hx;obtain⟨e1,e2,e3,e4,e5⟩:=fT Jh;have hp:eqP v k=qE v (xL k.tail):=by unfold eqP;simp[hk]
   cases gK:qE v (xL k.tail)
   ·rw[hp,gK];have ih:=Ev v z r (s0.put 7 (xL k.tail) [] [0]) (acc++[(k,s0.code.length)]) hl mD.2 (fun k' h'=>Ez (ha k' (zj _ h')) (fun e=>mD.1 (by rw[←e];exact h')) _) (fun i x hi=>hs i x (by rw[xA] at hi;simp at hi;omega));have hlen:(s0.put 7 (xL k.tail) [] [0]).code.length=s0.code.length+1:=by rw[xA];simp
    rw[hlen] at ih;have vR:∀ (o:Wd) (g:τ) (stk:List (vv×vv)),stk.getLast? = some (v,z)->Steps (jA E s) s0.code.length ⟨o,stk,g⟩ (s0.code.length+1) ⟨o,stk,g⟩:=by
     intro o g stk X9;refine Steps.one ?_;rw[qh hy];unfold qy;rw[e1];simp only[X9,e3,gK];rfl
    dsimp only;split at ih
    ·next hf=>rw[hf];exact fun o g stk X9=>(vR o g stk X9).trans (ih o g stk X9)
    ·next k' hf =>
     rw[hf];obtain⟨i,x,h1,h2,h3,h4,h5,h6⟩:=ih;exact⟨i,x,h1,h2,h3,h4,h5,fun o g stk X9=>(vR o g stk X9).trans (h6 o g stk X9)⟩
   ·rw[hp,gK];exact⟨s0.code.length,_,ee (TH (ha k (zV ..)) _) h2,hx,rfl,rfl,gK,fun o g stk X9=>Steps.refl _ _⟩
  ·rw[if_neg hk] at hs ⊢;have hp:eqP v k=false:=by unfold eqP;simp[hk]
   rw[hp];exact Ev v z r s0 acc hl mD.2 (fun k' h'=>ha k' (zj _ h')) hs
 | .nil,s0,acc,_,_,_,_=>fun o g stk _=>Steps.refl _ _
 | .text _ _,_,_,h,_,_,_=>by cases h
 | .hash _,_,_,h,_,_,_=>by cases h
 | .put _ _ _,_,_,h,_,_,_=>by cases h
 | .num _ _ _,_,_,h,_,_,_=>by cases h
 | .br _ _ _ _ _ _ _,_,_,h,_,_,_=>by cases h
end
def wY{τ:Type}(E:qq τ)(f:Fo):Prop:=f.vD=true->∀ (b:Bool),f.BI b->∀ (s0 s:MkS),
 (∀ i,s0.code.length<=i->i<(MkS.dM f s0).code.length->s.code[i]? = (MkS.dM f s0).code[i]?)->(MkS.dM f s0).cs <+: s.cs->Kt s->(∃ x,s.code[(MkS.dM f s0).code.length]? = some x/\x.pos=(MkS.dM f s0).pos) ->
 ∀ (k:Wd) (x:vv) (o:Wd) (g:τ) (stk:List (vv×vv)),(b=true->∃ n,stk.getLast? = some (n,x))->JQ (jA E s) s0.code.length ⟨o,stk,g⟩ (MkS.dM f s0).code.length stk (qx E f k x o g)
def wV{τ:Type}(E:qq τ)(bs:Fo):Prop:=bs.ub=true->∀ (b:Bool),bs.BI b->∀ (sl:Wd->List (Nat×Nat)) (bg:Wd->MkS->MkS),(∀ k x,bg k x=uX (sl k) x)->∀ (s2:MkS) (ls:List Nat) (K:Wd),bs.keys.Nodup->K∈bs.keys ->
 (∀ k,∀ p∈sl k,p.1<s2.code.length)->(∀ e∈ls,e<s2.code.length) ->
 ∃ a p e xa xe,s2.code.length<=a/\a<=e/\e<(MkS.qZ bs bg s2 ls).1.code.length/\e∈(MkS.qZ bs bg s2 ls).2/\(∀ i,a<=i->i<e->i ∉ (MkS.qZ bs bg s2 ls).2) /\
  (MkS.qZ bs bg s2 ls).1.code[e]? = some xe/\xe.op=11/\xe.tg.length=1/\(MkS.qZ bs bg s2 ls).1.code[a]? = some xa/\xa.pos=p /\
  (∀ q∈sl K,(slot s2 q).isSome->(∀ k'∈bs.keys,k'≠K->q ∉ sl k')->slot (MkS.qZ bs bg s2 ls).1 q=some p) /\
  ∀ s:MkS,(∀ i,a<=i->i<e->s.code[i]? = (MkS.qZ bs bg s2 ls).1.code[i]?)->(∃ z,s.code[e]? = some z/\z.pos=xe.pos)->(MkS.qZ bs bg s2 ls).1.cs <+: s.cs->Kt s ->
   ∀ (x:vv) (o:Wd) (g:τ) (stk:List (vv×vv)),(b=true->∃ n,stk.getLast? = some (n,x))->JQ (jA E s) a ⟨o,stk,g⟩ e stk (qx E bs K x o g)
section
variable {τ:Type} {E:qq τ}
theorem QK{r:Fo}(hr:wY E r)(hm:r.vD=true){b:Bool}(hv:r.BI b){s0 s1 s:MkS}{x:jC}(h1:s1.code=s0.code++[x])(ha:∀ i,s0.code.length<=i->i<(MkS.dM r s1).code.length->s.code[i]? = (MkS.dM r s1).code[i]?)(dT:(MkS.dM r s1).cs <+: s.cs)(hp:Kt s)
  (hn:∃ x,s.code[(MkS.dM r s1).code.length]? = some x/\x.pos=(MkS.dM r s1).pos) {z:vv} {stk:List (vv×vv)} (hs:b=true->∃ n,stk.getLast? = some (n,z)) (k:Wd) :
  s.code[s0.code.length]? = some x/\s1.cs <+: s.cs/\s0.code.length<(MkS.dM r s1).code.length/\∀ (o:Wd) (g:τ),JQ (jA E s) (s0.code.length+1) ⟨o,stk,g⟩ (MkS.dM r s1).code.length stk (qx E r k z o g):=by
 have hl:s1.code.length=s0.code.length+1:=by rw[h1];simp
 obtain⟨a1,a2⟩:=gB r s1;refine⟨?_,(Ey (Zz s1.cs) r s1 (zx _)).trans dT,by omega,fun o g=>?_⟩
 ·rw[ha _ (zu _) (by omega),a2 _ (by omega),h1,zv (zu _)];simp
 ·have:=hr hm b hv s1 s (fun i h1 h2=>ha i (by omega) h2) dT hp hn k z o g stk hs;rw[hl] at this;exact this
theorem Eu{s0 s:MkS}(t:Wd)(h:(s0.const t).cs <+: s.cs):s.cs[s0.num t]? = some t:=by
 obtain⟨u,hu⟩:=h;have h1:(s0.const t).cs[s0.num t]? = some t:=by
  unfold MkS.const MkS.num;by_cases ht:t∈s0.cs
  ·rw[if_pos ht];rw[zk (zX ht),zH]
  ·rw[if_neg ht];simp only;rw[zD ht,zv (zu _)];simp
 rw[←hu,zy (z8.1 h1).1];exact h1
theorem FU:∀ (bs:Fo) (s:MkS) (acc:List Nat) (c:List Wd),bs.ub=true->(MkS.j4 bs s acc).1.cs <+: c->∃ t,(MkS.j4 bs s acc).2=acc++t/\t.map (fun j=>c[j]?)=(bs.keys.filter (· ≠ qb)).map some
 | .uq k a m r,s,acc,c,hl,hc=>by
  rw[MkS.j4] at hc ⊢;rw[show(Fo.uq k a m r).keys=k::r.keys from rfl];by_cases hk:k=qb
  ·rw[if_pos hk] at hc ⊢;rw[List.filter_cons_of_neg (by simp[hk])];exact FU r s acc c hl hc
  ·rw[if_neg hk] at hc ⊢;rw[List.filter_cons_of_pos (by simp[hk])];obtain⟨t,h1,h2⟩:=FU r (s.const k) (acc++[s.num k]) c hl hc;have h3:(s.const k).cs <+: c:=((Zz (s.const k).cs).j4 r (s.const k) _ (zx _)).trans hc;refine⟨s.num k::t,by rw[h1];simp,?_⟩;rw[zN,zN,h2,Eu (s:=⟨c,[],0⟩) k h3]
 | .nil,s,acc,c,_,_=>⟨[],by simp[MkS.j4],rfl⟩
 | .text _ _,_,_,_,h,_=>by cases h
 | .hash _,_,_,_,h,_=>by cases h
 | .put _ _ _,_,_,_,h,_=>by cases h
 | .num _ _ _,_,_,_,h,_=>by cases h
 | .br _ _ _ _ _ _ _,_,_,_,h,_=>by cases h
theorem ep(l:List Wd)(t:Wd):(l.map some).idxOf (some t)=l.idxOf t:=by
 induction l with
 | nil=>rfl
 | cons a l ih =>
  rw[zN,zn,zn,ih];rfl
theorem TI{ks:List Wd}{k k':Wd}(h:k∈ks)(h':k'∈ks)(he:MkS.place ks k=MkS.place ks k'):k=k':=by
 unfold MkS.place at he;have b7:∀ {x},x∈ks->¬x=qb->x∈ks.filter (· ≠ qb):=fun hx hn=>zF.2 ⟨hx,by simpa using hn⟩
 split at he
 ·next h1 =>
  split at he
  ·next h2=>rw[h1,h2]
  ·next h2=>have:=zX (b7 h' h2);omega
 ·next h1 =>
  split at he
  ·next h2=>have:=zX (b7 h h1);omega
  ·next h2 =>
   have e1:=zH (zX (b7 h h1));have e2:=zH (zX (b7 h' h2));rw[←e1,←e2];congr 1
theorem eh{ks:List Wd}(k:Wd):MkS.place ks k<=(ks.filter (· ≠ qb)).length:=by
 unfold MkS.place;split
 ·exact zu _
 ·exact List.idxOf_le_length
theorem TL(ks:List Wd)(t:Wd):(ks.filter (· ≠ qb)).idxOf t=MkS.place ks (Z0 ks t):=by
 unfold MkS.place Z0;by_cases h:t∈ks
 ·rw[if_pos h];by_cases h2:t=qb
  ·rw[if_pos h2,zD (by simp[h2])]
  ·rw[if_neg h2]
 ·rw[if_neg h,if_pos rfl,zD (fun q=>h (zF.1 q).1)]
theorem Vq{s:MkS}{i j p:Nat}(h:slot s (i,j)=some p):∃ x,s.code[i]? = some x/\x.tg[j]? = some p:=by
 unfold slot at h
 cases hc:s.code[i]? with
 | none=>rw[hc] at h;cases h
 | some x=>rw[hc] at h;exact⟨x,rfl,h⟩
end
section
variable {τ:Type} {E:qq τ}
theorem Xe{s0 s:MkS}(t:Wd)(h:(s0.const t).cs <+: s.cs)(x:jC){l:List Nat}(hx:x.k=s0.num t::l):Y7 s x=some t:=by
 unfold Y7;rw[hx];exact Eu t h
theorem FQ{bs:Fo}(hb:wV E bs)(hl:bs.ub=true){b:Bool}(hv:bs.BI b){sl:Wd->List (Nat×Nat)}{bg:Wd->MkS->MkS}(Dj:∀ k x,bg k x=uX (sl k) x){s2:MkS}{K:Wd}(hd:bs.keys.Nodup)(hK:K∈bs.keys)(qU:∀ k,∀ p∈sl k,p.1<s2.code.length)
  {s:MkS} (hp:Kt s) {sE:MkS} (TM:sE=uX ((MkS.qZ bs bg s2 []).2.map fun i=>(i,0)) (MkS.qZ bs bg s2 []).1) (hse:∀ i,s2.code.length<=i->i<sE.code.length->s.code[i]? = sE.code[i]?) (dT:sE.cs <+: s.cs) (hn:∃ x,s.code[sE.code.length]? = some x/\x.pos=sE.pos) :
  ∃ (a:Nat) (xa:jC),s2.code.length<=a/\s.code[a]? = some xa/\(∀ q∈sl K,(slot s2 q).isSome->(∀ k'∈bs.keys,k'≠K->q ∉ sl k')->slot sE q=some xa.pos)/\∀ (x:vv) (o:Wd) (g:τ) (stk:List (vv×vv)),(b=true->∃ n,stk.getLast? = some (n,x))->JQ (jA E s) a ⟨o,stk,g⟩ sE.code.length stk (qx E bs K x o g):=by
 obtain⟨a,p,e,xa,xe,h1,h2,h3,h4,h5,h6,h7,h8,h9,dV,Qm,UL⟩:=hb hl b hv sl bg Dj s2 [] K hd hK qU (fun e he=>by cases he);obtain⟨f1,f2,f3,f4⟩:=go_facts bs sl bg Dj s2 [];have hlen:sE.code.length=(MkS.qZ bs bg s2 []).1.code.length:=by rw[TM,(qL _ _).1]
 have js:sE.pos=(MkS.qZ bs bg s2 []).1.pos:=by rw[TM,(qL _ _).2.1]
 have wQ:sE.cs=(MkS.qZ bs bg s2 []).1.cs:=by rw[TM,(qL _ _).2.2]
 have shE:=gD (Zc (MkS.qZ bs bg s2 []).1) ((MkS.qZ bs bg s2 []).2.map fun i=>(i,0)) _ (QU _);rw[←TM] at shE;obtain⟨ya,sG,sF⟩:=shE a xa h9;obtain⟨ye,CK,CQ⟩:=shE e xe h6;have sa:s.code[a]? = some ya:=(hse a h1 (by omega)).trans sG;have se:s.code[e]? = some ye:=(hse e (by omega) (by omega)).trans CK;obtain⟨_,pa,_⟩:=fT sF;obtain⟨oe,pe,_,_,te⟩:=fT CQ;refine⟨a,ya,h1,sa,fun q hq Ql ju=>?_,fun x o g stk vR=>?_⟩
 ·rw[TM,fR,if_neg (fun h=>?_),Qm q hq Ql ju,pa,dV];obtain⟨e',he',rfl⟩:=zY.1 h.1;have:=qU K _ hq;rcases f2 e' he' with r|r
  ·cases r
  ·simp only at this;omega
 ·have run:=UL s (fun i Vc C6=>by
   rw[hse i (by omega) (by omega),TM,dD];intro p hp;obtain⟨e',he',rfl⟩:=zY.1 hp;exact fun q=>h5 i Vc C6 (by simp only at q;rw[←q];exact he')) ⟨ye,se,pe⟩ (by rw[←wQ];exact dT) hp x o g stk vR
  cases hr:qx E bs K x o g with
  | error er=>rw[hr] at run;exact run.far (by omega)
  | ok pr =>
   rw[hr] at run;refine Steps.trans run (Steps.one ?_);have zoj:slot sE (e,0)=some sE.pos:=by
    have Vx:(slot (MkS.qZ bs bg s2 []).1 (e,0)).isSome=true:=by
     unfold slot;rw[h6];show(xe.tg[0]?).isSome=true;rw[zk (by omega)];rfl
    rw[js,TM,fR,if_pos ⟨zY.2 ⟨e,h4,rfl⟩,Vx⟩]
   obtain⟨z,Ul,VO⟩:=Vq ((Ja (p:=(e,0)) (hse e (by omega) (by omega))).trans zoj);rw[se] at Ul
   cases Ul;rw[qh se];unfold qy;rw[oe,h7,VO];obtain⟨xn,ZK,dE⟩:=hn;exact QQ hp ZK dE _
end
theorem FK{s2:MkS}{i j:Nat}{x:jC}(h:s2.code[i]? = some x)(hj:j<x.tg.length):(slot s2 (i,j)).isSome=true:=by
 unfold slot;rw[h];show(x.tg[j]?).isSome=true;rw[zk hj];rfl
section
variable {τ:Type} {E:qq τ} (hE:∀ b d,E.sort b d<6)
include hE
theorem jm:∀ f:Fo,wY E f/\wV E f
 | .nil=>⟨fun _ b _ s0 s _ _ _ _ k x o g stk _=>Steps.refl _ _,fun _ _ _ _ _ _ _ _ _ _ hK=>by cases hK⟩
 | .text t r=>⟨fun hm b hv s0 s ha dT hp hn k x o g stk hs=>by
   obtain⟨c1,c2,c4,c3⟩:=QK (jm r).1 hm hv (s0:=s0) (s1:=s0.one 1 t) (x:=⟨1,(s0.const t).pos,0,[s0.num t],[]⟩) (by rw[MkS.one,xA,(vY s0 t).2.1]) ha dT hp hn hs k;refine JQ.after (Steps.one ?_) (c3 (o++t) g);rw[qh c1];unfold qy;simp only[Xe (s0:=s0) t c2 ⟨1,(s0.const t).pos,0,[s0.num t],[]⟩ rfl];,fun h=>by cases h⟩
 | .hash r=>⟨fun hm b hv s0 s ha dT hp hn k x o g stk hs=>by
   obtain⟨c1,c2,c4,c3⟩:=QK (jm r).1 hm hv.2 (s0:=s0) (s1:=s0.put 6 0 [] []) rfl ha dT hp hn hs k;refine JQ.after (Steps.one ?_) (c3 (o++E.wr x) g);obtain⟨n,X9⟩:=hs hv.1;rw[qh c1];unfold qy;simp only[X9];,fun h=>by cases h⟩
 | .put n a r=>⟨fun hm b hv s0 s ha dT hp hn k x o g stk hs=>by
   obtain⟨c1,c2,c4,c3⟩:=QK (jm r).1 hm hv (s0:=s0) (s1:=s0.one 2 n) (x:=⟨2,(s0.const n).pos,0,[s0.num n],[]⟩) (by rw[MkS.one,xA,(vY s0 n).2.1]) ha dT hp hn hs k;have hc:=Xe (s0:=s0) n c2 ⟨2,(s0.const n).pos,0,[s0.num n],[]⟩ rfl;simp only[qx]
   cases h:bw E n g with
   | error e =>
    obtain⟨e,g'⟩:=e;refine JQ.err (r':=⟨o,stk,g'⟩) ?_ c4;rw[qh c1];unfold qy;simp only[hc,h]
   | ok p =>
    obtain⟨⟨t,num⟩,g'⟩:=p;refine JQ.after (Steps.one ?_) (c3 _ g');rw[qh c1];unfold qy;simp only[hc,h]
   ,fun h=>by cases h⟩
 | .num n a r=>⟨fun hm b hv s0 s ha dT hp hn k x o g stk hs=>by
   obtain⟨c1,c2,c4,c3⟩:=QK (jm r).1 hm hv (s0:=s0) (s1:=s0.one 3 n) (x:=⟨3,(s0.const n).pos,0,[s0.num n],[]⟩) (by rw[MkS.one,xA,(vY s0 n).2.1]) ha dT hp hn hs k;have hc:=Xe (s0:=s0) n c2 ⟨3,(s0.const n).pos,0,[s0.num n],[]⟩ rfl;simp only[qx]
   cases h:ZW E n g with
   | error e =>
    obtain⟨e,g'⟩:=e;refine JQ.err (r':=⟨o,stk,g'⟩) ?_ c4;rw[qh c1];unfold qy;simp only[hc,h]
   | ok p =>
    obtain⟨v,g'⟩:=p;refine JQ.after (Steps.one ?_) (c3 _ g');rw[qh c1];unfold qy;simp only[hc,h]
   ,fun h=>by cases h⟩
 | .br n a f off c bs r=>⟨fun hm b hv s0 s ha dT hp hn k x o g stk hs=>by
   obtain⟨v1,v2,v3,v4,v5⟩:=hv;by_cases h0:f=0
   ·subst h0;obtain⟨sE,TM⟩:∃ sE,sE=uX ((MkS.qZ bs (MkS.bz n bs s0) (MkS.kV n bs s0) []).2.map fun i=>(i,0)) (MkS.qZ bs (MkS.bz n bs s0) (MkS.kV n bs s0) []).1:=⟨_,rfl⟩;have hms:=Rq n a off c bs r s0 hm;rw[←TM] at hms;rw[hms] at ha dT hn ⊢;obtain⟨m1,m2⟩:=gB r sE;obtain⟨f1,f2,f3,f4⟩:=go_facts bs (Kh n bs s0) (MkS.bz n bs s0) (fS n bs s0) (MkS.kV n bs s0) [];have hS:=BL n bs s0;have hSl:(MkS.kV n bs s0).code.length=s0.code.length+1:=by rw[hS];simp
    have hSE:sE.code.length=(MkS.qZ bs (MkS.bz n bs s0) (MkS.kV n bs s0) []).1.code.length:=by rw[TM,(qL _ _).1]
    have hT:(MkS.ff n bs s0).1.code.length=s0.code.length:=by rw[(Yq n bs s0).1]
    have wQ:sE.cs <+: s.cs:=(Ey (Zz sE.cs) r sE (zx _)).trans dT;have iz:∀ i,s0.code.length<=i->i<sE.code.length->s.code[i]? = sE.code[i]? := fun i h1 h2=>(ha i h1 (by omega)).trans (m2 i h2)
    have qD:(MkS.ff n bs s0).1.cs <+: s.cs:=(gD (Zz _) _ _ (go_inv (Zz (MkS.ff n bs s0).1.cs) bs (fS n bs s0) (MkS.kV n bs s0) [] (zx _)):(MkS.ff n bs s0).1.cs <+: (uX ((MkS.qZ bs (MkS.bz n bs s0) (MkS.kV n bs s0) []).2.map fun i=>(i,0)) (MkS.qZ bs (MkS.bz n bs s0) (MkS.kV n bs s0) []).1).cs).trans (TM▸wQ);have fk:(s0.const n).cs <+: s.cs:=((Zz (s0.const n).cs).j4 bs (s0.const n) [s0.num n] (zx _)).trans qD;obtain⟨tl,ht1,sU⟩:=FU bs (s0.const n) [s0.num n] s.cs v1 qD;have JU:(MkS.kV n bs s0).code[s0.code.length]? = some ⟨10,s0.pos,0,s0.num n::tl,zQ (tl.length+1) 0⟩:=by
     rw[hS,zv (zu _)];have:(MkS.ff n bs s0).2=s0.num n::tl:=ht1;rw[this];simp
    obtain⟨y,hy,Jh⟩:=gD (Zc (MkS.kV n bs s0)) ((MkS.qZ bs (MkS.bz n bs s0) (MkS.kV n bs s0) []).2.map fun i=>(i,0)) _ (go_inv (Zc (MkS.kV n bs s0)) bs (fS n bs s0) _ [] (QU _)) _ _ JU;rw[←TM] at hy;have sy:s.code[s0.code.length]? = some y:=(iz _ (zu _) (by omega)).trans hy;obtain⟨y1,y2,y3,y4,y5⟩:=fT Jh;have Xc:=Xe (s0:=s0) n fk y y4;have JC:tl.length=(bs.keys.filter (· ≠ qb)).length:=by have:=congrArg List.length sU;simpa using this
    have uN:y.k.tail.all (fun j=>decide (j<s.cs.length))=true:=by
     rw[y4,zM,ze];intro j hj;have h1:s.cs[j]?∈(bs.keys.filter (· ≠ qb)).map some:=by rw[←sU];exact zY.2 ⟨j,hj,rfl⟩
     obtain⟨u,_,hu⟩:=zY.1 h1;exact decide_eq_true (z8.1 hu.symm).1
    have wZ:∀ t,VU s y t=MkS.place bs.keys (Z0 bs.keys t):=by
     intro t;unfold VU;rw[y4,zM,sU,ep,TL]
    have hnE:∃ x,s.code[sE.code.length]? = some x/\x.pos=sE.pos:=by
     rcases BN r hm sE with⟨q1,q2⟩|⟨x,q1,q2⟩
     ·rw[q1,q2] at hn;exact hn
     ·exact⟨x,(ha _ (by omega) (z8.1 q1).1).trans q1,q2⟩
    have hK:∀ t,Z0 bs.keys t∈bs.keys:=by intro t;unfold Z0;split<;>assumption
    simp only[qx,↓reduceIte]
    cases h:CM E n g with
    | error e =>
     obtain⟨e,g'⟩:=e;refine JQ.err (r':=⟨o,stk,g'⟩) ?_;rw[qh sy];unfold qy;simp only[y1,Xc,h]
    | ok pr =>
     obtain⟨t,g'⟩:=pr;dsimp only;have r8:∀ k,∀ p∈Kh n bs s0 k,p.1<(MkS.kV n bs s0).code.length:=by
      intro k p hp;rw[Kh,z7] at hp;subst hp;show(MkS.ff n bs s0).1.code.length<_;omega
     obtain⟨A,xa,hA0,hA1,PE,nL⟩:=FQ (s:=s) (jm bs).2 v1 v4 (fS n bs s0) v2 (hK t) r8 hp TM (fun i h1 h2=>iz i (by omega) h2) wQ hnE
     ·have dm:=PE (s0.code.length,MkS.place bs.keys (Z0 bs.keys t)) (by rw[Kh,hT];exact z7.2 rfl) (FK JU (by have:=eh (ks:=bs.keys) (Z0 bs.keys t);simp;omega))
       (fun k' QI xw hq=>by
        rw[Kh,z7] at hq;exact xw (TI QI (hK t) (zG hq).2.symm))
      obtain⟨z,Ul,VO⟩:=Vq dm;rw[hy] at Ul
      cases Ul;refine JQ.after (k1:=A) (r1:=⟨o,stk,g'⟩) (Steps.one ?_) ?_
      ·rw[qh sy];unfold qy;simp only[y1,Xc,h,uN,↓reduceIte,wZ,VO];exact QQ hp hA1 rfl _
      ·have run:=nL x o g' stk (fun q=>by cases q)
       cases hr:qx E bs (Z0 bs.keys t) x o g' with
       | error er=>rw[hr] at run;exact run.far (by omega)
       | ok pr =>
        obtain⟨o2,g2⟩:=pr;rw[hr] at run;exact JQ.after run ((jm r).1 hm b v5 sE s (fun i h1 h2=>ha i (by omega) h2) dT hp hn k x o2 g2 stk hs)
   ·obtain⟨sL,hsL⟩:∃ sL,sL=uX ((MkS.qZ bs (MkS.jD n off bs s0) (MkS.qW n off f bs s0) []).2.map fun i=>(i,0)) (MkS.qZ bs (MkS.jD n off bs s0) (MkS.qW n off f bs s0) []).1:=⟨_,rfl⟩;have hms:=Rk n a f off c bs r s0 h0 hm;rw[←hsL] at hms;rw[hms] at ha dT hn ⊢;obtain⟨m1,m2⟩:=gB r (sL.put 5 0 [] []);have hPl:(sL.put 5 0 [] []).code.length=sL.code.length+1:=by rw[xA];simp
    rw[hPl] at m1 m2;obtain⟨b1,b2,b3⟩:=KC n off bs s0;obtain⟨f1,f2,f3,f4⟩:=go_facts bs (Yu n off bs s0) (MkS.jD n off bs s0) (gq n off bs s0) (MkS.qW n off f bs s0) [];have hS:=BM n off f bs s0;have hSl:(MkS.qW n off f bs s0).code.length=(MkS.kP n off bs s0).1.code.length+1:=by rw[hS];simp
    have hSL:sL.code.length=(MkS.qZ bs (MkS.jD n off bs s0) (MkS.qW n off f bs s0) []).1.code.length:=by rw[hsL,(qL _ _).1]
    have wQ:sL.cs <+: s.cs:=(Ey (Zz sL.cs) r (sL.put 5 0 [] []) (zx _)).trans dT;have iz:∀ i,s0.code.length<=i->i<sL.code.length+1->s.code[i]? = (sL.put 5 0 [] []).code[i]? := fun i h1 h2=>(ha i h1 (by omega)).trans (m2 i h2)
    have zkg:∀ i,s0.code.length<=i->i<sL.code.length->s.code[i]? = sL.code[i]? := fun i h1 h2=>(iz i h1 (by omega)).trans (by rw[xA,zy h2])
    have OZ:s.code[sL.code.length]? = some ⟨5,sL.pos,0,[],[]⟩:=by
     rw[iz _ (by omega) (by omega),xA,zv (zu _)];simp
    have qD:(MkS.kP n off bs s0).1.cs <+: s.cs:=(gD (Zz _) _ _ (go_inv (Zz (MkS.kP n off bs s0).1.cs) bs (gq n off bs s0) (MkS.qW n off f bs s0) [] (zx _)):(MkS.kP n off bs s0).1.cs <+: (uX ((MkS.qZ bs (MkS.jD n off bs s0) (MkS.qW n off f bs s0) []).2.map fun i=>(i,0)) (MkS.qZ bs (MkS.jD n off bs s0) (MkS.qW n off f bs s0) []).1).cs).trans (hsL▸wQ);have fk:(s0.const n).cs <+: s.cs:=((Zz (s0.const n).cs).qH bs ((s0.const n).put 4 (xL off) [s0.num n] []) [] (zx _)).trans qD;have sh0:=gD (Zc (MkS.qW n off f bs s0)) ((MkS.qZ bs (MkS.jD n off bs s0) (MkS.qW n off f bs s0) []).2.map fun i=>(i,0)) _ (go_inv (Zc (MkS.qW n off f bs s0)) bs (gq n off bs s0) _ [] (QU _));rw[←hsL] at sh0;have sh1:∀ (i:Nat) (x:jC),s0.code.length<=i->(MkS.qW n off f bs s0).code[i]? = some x->∃ y,s.code[i]? = some y/\sL.code[i]? = some y/\Rv y=Rv x:=by
     intro i x hi hx;obtain⟨y,h1,h2⟩:=sh0 i x hx;exact⟨y,(zkg i hi (z8.1 h1).1).trans h1,h1,h2⟩
    have Iv:∀ (i:Nat) (x:jC),(MkS.kP n off bs s0).1.code[i]? = some x->(MkS.qW n off f bs s0).code[i]? = some x:=by
     intro i x hx;rw[hS,zy (z8.1 hx).1];exact hx
    obtain⟨y,hy,_,Jh⟩:=sh1 _ _ (zu _) (Iv _ _ (Rj n off bs s0));obtain⟨y1,y2,y3,y4,y5⟩:=fT Jh;have Xc:=Xe (s0:=s0) n fk y y4;have zod:((s0.const n).put 4 (xL off) [s0.num n] []).code.length=s0.code.length+1:=by rw[xA,(vY s0 n).2.1];simp
    have JU:(MkS.qW n off f bs s0).code[(MkS.kP n off bs s0).1.code.length]? = some ⟨if f=2 then 9 else 8,(MkS.kP n off bs s0).1.pos,0,[],zQ 6 0⟩:=by
     rw[hS,zv (zu _)];simp
    obtain⟨_,k2,k3⟩:=bC bs ((s0.const n).put 4 (xL off) [s0.num n] []) [];simp only[qx,if_neg h0]
    cases h:ZW E n g with
    | error e =>
     obtain⟨e,g'⟩:=e;refine JQ.err (r':=⟨o,stk,g'⟩) ?_;rw[qh hy];unfold qy;simp only[y1,Xc,h]
    | ok pr =>
     obtain⟨v,g'⟩:=pr;dsimp only;obtain⟨z,hz⟩:∃ z,VT v (xL off)=z:=⟨_,rfl⟩;rw[hz];have X9:(stk++[(v,z)]).getLast? = some (v,z):=by simp
     have st1:Steps (jA E s) s0.code.length ⟨o,stk,g⟩ (s0.code.length+1) ⟨o,stk++[(v,z)],g'⟩:=by
      refine Steps.one ?_;rw[qh hy];unfold qy;simp only[y1,Xc,h,y3,hz]
     have ask:=Ev (E:=E) (s:=s) v z bs ((s0.const n).put 4 (xL off) [s0.num n] []) [] v1 v2 (fun _ _=>rfl) (fun i x hi hx=>by
      obtain⟨y,h1,_,h3⟩:=sh1 i x (by omega) (Iv i x hx);exact⟨y,h1,h3⟩)
     rw[zod] at ask;have r8:∀ k,∀ p∈Yu n off bs s0 k,p.1<(MkS.qW n off f bs s0).code.length:=by
      intro k p hp;have:=b3 k p hp;omega
     have key:∃ A,Steps (jA E s) s0.code.length ⟨o,stk,g⟩ A ⟨o,stk++[(v,z)],g'⟩/\JQ (jA E s) A ⟨o,stk++[(v,z)],g'⟩ sL.code.length (stk++[(v,z)]) (qx E bs (Ku E f bs.keys v z) z o g'):=by
      unfold Ku;rw[show(bs.keys.find? fun k=>decide (k.head? = some 61) && qE v (xL k.tail))=bs.keys.find? (eqP v) from rfl]
      cases hf:bs.keys.find? (eqP v) with
      | some K =>
       rw[hf] at ask;obtain⟨i,x0,q1,q2,q3,q4,q5,q6⟩:=ask;have hKm:=List.mem_of_find?_eq_some hf;obtain⟨A,xa,hA0,hA1,PE,nL⟩:=FQ (s:=s) (jm bs).2 v1 v4 (gq n off bs s0) v2 hKm r8 hp hsL (fun i h1 h2=>zkg i (by omega) h2) wQ ⟨_,OZ,rfl⟩;have wo:s0.code.length+1<=i:=by
        rcases k3 _ (Yk q1) with w|w
        ·cases w
        ·simp only[zod] at w;omega
       have zkf:Yu n off bs s0 K=[(i,0)]:=by
        unfold Yu;rw[show(MkS.kP n off bs s0).2.lookup K=some i from q1]
       have dm:=PE (i,0) (by rw[zkf];exact z7.2 rfl) (FK (Iv i x0 q2) (by omega)) (fun k' QI xw hq=>by
        unfold Yu at hq
        cases hl:(MkS.kP n off bs s0).2.lookup k' with
        | some i' =>
         rw[hl,z7] at hq;have e:=(zG hq).1;have:=Ex bs _ [] (fun p hp=>by cases hp) (fun p hp=>by cases hp) _ (Yk q1) _ (Yk hl) e;exact xw (zG this).1.symm
        | none =>
         rw[hl] at hq;obtain⟨cc,_,e⟩:=zY.1 hq;have e1:=(zG e).1;have:=(z8.1 q2).1;rw[show(MkS.qH bs ((s0.const n).put 4 (xL off) [s0.num n] []) []).1.code.length=(MkS.kP n off bs s0).1.code.length from rfl] at this;omega)
       obtain⟨yi,w1,w2,w3⟩:=sh1 i x0 (by omega) (Iv i x0 q2);obtain⟨p1,p2,p3,p4,p5⟩:=fT w3;obtain⟨yi',u1,u2⟩:=Vq dm;rw[w2] at u1
       cases u1;have hiA:i<A:=by have h1:=(z8.1 q2).1;rw[show(MkS.qH bs ((s0.const n).put 4 (xL off) [s0.num n] []) []).1.code.length=(MkS.kP n off bs s0).1.code.length from rfl] at h1;omega
       refine⟨A,st1.trans ((q6 o g' _ X9).trans (Steps.one ?_ hiA)),nL z o g' _ (fun _=>⟨v,X9⟩)⟩;rw[qh w1];unfold qy;simp only[p1,q3,X9,p3,q5,↓reduceIte,u2];exact QQ hp hA1 rfl _
      | none =>
       rw[hf] at ask;dsimp only;have At:=hE (decide (f=2)) z.2;obtain⟨cn,Jf⟩:∃ cn,E.sort (decide (f=2)) z.2=cn:=⟨_,rfl⟩;rw[Jf] at At ⊢;obtain⟨K,hKe⟩:∃ K,(if Un.getD cn []∈bs.keys then Un.getD cn [] else qb)=K:=⟨_,rfl⟩;rw[hKe];have hKm:K∈bs.keys:=by rw[←hKe];split<;>assumption
       have nE:(Un.getD cn []).head?≠some 61:=by
        rcases cn with _|_|_|_|_|_|cn
        ·decide
        ·decide
        ·decide
        ·decide
        ·decide
        ·decide
        ·omega
       have hKh:K.head?≠some 61:=by rw[←hKe];split;exact nE;decide
       have Vd:(MkS.kP n off bs s0).2.lookup K=none:=by
        cases hl:(MkS.kP n off bs s0).2.lookup K with
        | none=>rfl
        | some i =>
         rcases FV bs _ [] _ (Yk hl) with w|w
         ·cases w
         ·exact absurd w hKh
       have zkf:Yu n off bs s0 K=Ru bs.keys (MkS.kP n off bs s0).1.code.length K:=by
        unfold Yu;rw[Vd]
       obtain⟨A,xa,hA0,hA1,PE,nL⟩:=FQ (s:=s) (jm bs).2 v1 v4 (gq n off bs s0) v2 hKm r8 hp hsL (fun i h1 h2=>zkg i (by omega) h2) wQ ⟨_,OZ,rfl⟩;have dm:=PE ((MkS.kP n off bs s0).1.code.length,cn) (by
        rw[zkf];refine zY.2 ⟨cn,zF.2 ⟨List.mem_range.2 At,?_⟩,rfl⟩;rw[decide_eq_true_eq,←hKe];split
        ·next h=>exact .inl rfl
        ·next h=>exact .inr ⟨rfl,h⟩) (FK JU (by simp;omega)) (fun k' QI xw hq=>by
        unfold Yu at hq
        cases hl:(MkS.kP n off bs s0).2.lookup k' with
        | some i' =>
         rw[hl,z7] at hq;have e:=(zG hq).1;rcases k3 _ (Yk hl) with w|w
         ·cases w
         ·have w2:=w.2;rw[show(MkS.qH bs ((s0.const n).put 4 (xL off) [s0.num n] []) []).1.code.length=(MkS.kP n off bs s0).1.code.length from rfl] at w2;simp only at w2;omega
        | none =>
         rw[hl] at hq;obtain⟨cc,Pv,e⟩:=zY.1 hq;have e1:=(zG e).2;subst e1;have R0:=of_decide_eq_true (zF.1 Pv).2;rw[←hKe] at xw;by_cases b7:Un.getD cc []∈bs.keys
         ·rw[if_pos b7] at xw;rcases R0 with w|w
          ·exact xw w.symm
          ·exact w.2 b7
         ·rw[if_neg b7] at xw;rcases R0 with w|w
          ·exact b7 (by rw[w];exact QI)
          ·exact xw w.1)
       obtain⟨yt,w1,w2,w3⟩:=sh1 _ _ (by omega) JU;obtain⟨p1,p2,p3,p4,p5⟩:=fT w3;obtain⟨yt',u1,u2⟩:=Vq dm;rw[w2] at u1
       cases u1;have hiA:(MkS.kP n off bs s0).1.code.length<A:=by omega
       refine⟨A,st1.trans ((ask o g' _ X9).trans (Steps.one ?_ hiA)),nL z o g' _ (fun _=>⟨v,X9⟩)⟩;rw[show(MkS.qH bs ((s0.const n).put 4 (xL off) [s0.num n] []) []).1.code.length=(MkS.kP n off bs s0).1.code.length from rfl,qh w1];unfold qy;by_cases vF:f=2
       ·rw[if_pos vF] at p1;rw[decide_eq_true vF] at Jf;simp only[p1,X9,Jf,u2];exact QQ hp hA1 rfl _
       ·rw[if_neg vF] at p1;rw[decide_eq_false vF] at Jf;simp only[p1,X9,Jf,u2];exact QQ hp hA1 rfl _
     obtain⟨A,hA,run⟩:=key;refine JQ.after hA ?_
     cases hr:qx E bs (Ku E f bs.keys v z) z o g' with
     | error er=>rw[hr] at run;exact run.far (by omega)
     | ok pr =>
      obtain⟨o2,g2⟩:=pr;rw[hr] at run;refine JQ.after (Steps.trans run (Steps.one (k':=sL.code.length+1) (r':=⟨o2,stk,g2⟩) ?_)) ?_
      ·rw[qh OZ];unfold qy;simp
      ·have:=(jm r).1 hm b v5 (sL.put 5 0 [] []) s (fun i h1 h2=>ha i (by omega) h2) dT hp hn k x o2 g2 stk hs;rw[hPl] at this;exact this
   ,fun h=>by cases h⟩
 | .uq k a m r=>⟨fun h=>(by cases h),fun hl b hv sl bg hb s2 ls K hd hK dm hls=>by
   obtain⟨v1,v2,v3⟩:=hv;have mD:=zi.1 (show(k::r.keys).Nodup from hd);rw[MkS.qZ,hb];obtain⟨sb,ZT⟩:∃ sb,uX (sl k) s2=sb:=⟨_,rfl⟩;obtain⟨l1,l2,l3⟩:=qL (sl k) s2;rw[ZT] at l1 l2 l3 ⊢;obtain⟨sm,Vx⟩:∃ sm,MkS.dM m sb=sm:=⟨_,rfl⟩;rw[show(MkS.qZ m (fun _ s=>s) sb []).1=sm from Vx];obtain⟨m1,m2⟩:=gB m sb;rw[Vx] at m1 m2;have Ng:(sm.put 11 0 [] [0]).code.length=sm.code.length+1:=by rw[xA];simp
   obtain⟨g1,g2,g3,g4⟩:=go_facts r sl bg hb (sm.put 11 0 [] [0]) (ls++[sm.code.length]);rw[Ng] at g1 g2 g4;have kp:∀ i,s2.code.length<=i->i<sm.code.length+1->(MkS.qZ r bg (sm.put 11 0 [] [0]) (ls++[sm.code.length])).1.code[i]? = (sm.put 11 0 [] [0]).code[i]? := fun i h1 h2=>g4 i h2 (fun k' p hp=>by have:=dm k' p hp;omega)
   by_cases hkK:k=K
   ·subst hkK;have he:(MkS.qZ r bg (sm.put 11 0 [] [0]) (ls++[sm.code.length])).1.code[sm.code.length]? = some ⟨11,sm.pos,0,[],[0]⟩:=by
     rw[kp _ (by omega) (by omega),xA,zv (zu _)];simp
    have hi:∀ i,s2.code.length<=i->i<sm.code.length->(MkS.qZ r bg (sm.put 11 0 [] [0]) (ls++[sm.code.length])).1.code[i]? = sm.code[i]? := fun i h1 h2=>by
     rw[kp _ h1 (by omega),xA,zy h2]
    have hfa:∃ xa,(MkS.qZ r bg (sm.put 11 0 [] [0]) (ls++[sm.code.length])).1.code[s2.code.length]? = some xa/\xa.pos=s2.pos:=by
     rcases BN m v1 sb with⟨q1,q2⟩|⟨x,q1,q2⟩
     ·rw[Vx] at q1 q2;refine⟨_,by rw[←l1,←q1];exact he,?_⟩;show sm.pos=_;rw[q2,l2]
     ·rw[Vx,l1] at q1;exact⟨x,by rw[hi _ (zu _) (z8.1 q1).1];exact q1,by rw[q2,l2]⟩
    obtain⟨xa,hxa,EP⟩:=hfa;refine⟨s2.code.length,s2.pos,sm.code.length,xa,_,zu _,by omega,by omega,g3 _ (List.mem_append_right _ (z7.2 rfl)),fun i h1 h2 hm=>?_,he,rfl,rfl,hxa,EP,fun q hq Ql ju=>?_,fun s hs hz hc hp x o g stk vR=>?_⟩
    ·rcases g2 i hm with q|q
     ·rw[zg,z7] at q;rcases q with q|q
      ·have:=hls i q;omega
      ·omega
     ·omega
    ·have hq0:=dm k q hq;rw[BO r sl bg hb hl _ _ q (by omega) (fun k' QI=>ju k' (zj _ QI) (fun e=>mD.1 (by rw[←e];exact QI))),FX _ _ _ _ _ _ (by omega),←Vx,Ja ((gB m sb).2 q.1 (by omega)),←ZT,fR,if_pos ⟨hq,Ql⟩]
    ·have jM:sm.cs <+: s.cs:=(go_inv (Zz sm.cs) r hb (sm.put 11 0 [] [0]) (ls++[sm.code.length]) (zx _)).trans hc;have:=(jm m).1 v1 b v2 sb s (fun i h1 h2=>by rw[Vx] at h2 ⊢;rw[hs i (by omega) h2,hi i (by omega) h2]) (by rw[Vx];exact jM) hp (by rw[Vx];exact hz) [] x o g stk vR;rw[Vx,l1] at this;simp only[qx,↓reduceIte];exact this
   ·have hKr:K∈r.keys:=by
     rcases List.mem_cons.1 (show K∈k::r.keys from hK) with q|q
     ·exact absurd q.symm hkK
     ·exact q
    obtain⟨A,p,e,xa,xe,h1,h2,h3,h4,h5,h6,h7,h8,h9,dV,Qm,UL⟩:=(jm r).2 hl b v3 sl bg hb (sm.put 11 0 [] [0]) (ls++[sm.code.length]) K mD.2 hKr (fun k' p hp=>by have:=dm k' p hp;omega) (fun e he=>by
     rw[zg,z7] at he;rcases he with he|rfl
     ·have:=hls e he;omega
     ·omega)
    refine⟨A,p,e,xa,xe,by omega,h2,h3,h4,h5,h6,h7,h8,h9,dV,fun q hq Ql ju=>?_,fun s hs hz hc hp x o g stk vR=>?_⟩
    ·have hq0:=dm K q hq;refine Qm q hq ?_ (fun k' QI=>ju k' (zj _ QI));rw[FX _ _ _ _ _ _ (by omega),←Vx,Ja ((gB m sb).2 q.1 (by omega)),←ZT,fR];split
     ·rfl
     ·exact Ql
    ·have:=UL s hs hz hc hp x o g stk vR;simp only[qx,if_neg hkK];exact this⟩
end
theorem r9{τ:Type}{E:qq τ}(hE:∀ b d,E.sort b d<6)(f:Fo)(hm:f.vD=true)(hv:f.BI false)(x:vv)(g:τ) :
  match qx E f [] x [] g with
  | .ok (o,g')=>∃ fuel,fuel<=(MkS.all f).code.length/\Q9 (jA E (MkS.all f)) fuel 0 ⟨[],[],g⟩=some (.ok ⟨o,[],g'⟩)
  | .error (n,g')=>∃ fuel r,fuel<=(MkS.all f).code.length/\Q9 (jA E (MkS.all f)) fuel 0 ⟨[],[],g⟩=some (.error (n,r))/\r.gs=g':=by
 have Zs:(MkS.all f).code[(MkS.dM f MkS.start).code.length]? = some ⟨0,(MkS.dM f MkS.start).pos,0,[],[]⟩:=by
  rw[MkS.all,xA,zv (zu _)];simp
 have h:=(jm hE f).1 hm false hv MkS.start (MkS.all f) (fun i _ hi=>by rw[MkS.all,xA,zy hi]) (zx _) (TC.all f ⟨fun i j x y _ hx=>absurd hx (by simp[MkS.start]),fun x hx=>absurd hx (by simp[MkS.start])⟩) ⟨_,Zs,rfl⟩ [] x [] g [] (fun h=>by cases h)
 cases hr:qx E f [] x [] g with
 | error e =>
  obtain⟨n,g'⟩:=e;rw[hr] at h;obtain⟨m,r',h0,h1,h2⟩:=h;exact⟨0+m,r',by rw[MkS.all,xA,zU];rw[show MkS.start.code.length=0 from rfl] at h0;omega,h1 0,h2⟩
 | ok p =>
  obtain⟨o,g'⟩:=p;rw[hr] at h;obtain⟨n,h0,hn⟩:=h;refine⟨1+n,by rw[MkS.all,xA,zU,zO];rw[show MkS.start.code.length=0 from rfl] at h0;omega,?_⟩;rw[show(0:Nat)=MkS.start.code.length from rfl,hn 1,Q9,qh Zs];rfl
def wK{τ:Type}(G:Nat->Prop)(Inv:τ->World->Prop)(res:Except (Nat×τ) (Wd×τ))(w:World)(e:Ending)(w':World):Prop :=
 (match res with
  | .ok (o,g')=>e = .returned (.tuple #[xf o,.nilIface])/\Inv g' w'
  | .error (n,g')=>e = .returned (.tuple #[xf [],ql n])/\Inv g' w')/\Fr G G w w'
section
variable {τ:Type} {w:World} {A q mb g:Nat} {G:Nat->Prop} {vC vI:Value} {rs:List (Value×Value)} {E:qq τ} {F S:τ->Nat->Prop} {Inv:τ->World->Prop}
theorem TN{s:MkS}{gf:Fn}{g1 g2:Array Value}(hE:bY w (A+2) (A+2) G q mb g s vC vI rs (.func gf g1 g2) E F S Inv)(hA:w.heap.size=A){g0:τ}(hi:Inv g0 w)(hF0:∀ k,F g0 k->G k) :
  uz (A+2) (A+2) q g (.func gf g1 g2) G F S Inv ⟨[],[],g0⟩ (SH w (.pointer (some ⟨q,0,none⟩)) (.pointer (some ⟨g,0,none⟩)) (.func gf g1 g2)):=by
 have hf:Fr xS xS w (SH w (.pointer (some ⟨q,0,none⟩)) (.pointer (some ⟨g,0,none⟩)) (.func gf g1 g2)):=(((Fr.refl _ _).alloc _).alloc _).alloc _;refine⟨.slice none 0 0,.slice none 0 0,[],?_,?_,rfl,hE.get.fr hi hf (fun _ q=>q.elim),(by intro h;cases h),fun k hk=>(by cases hk),fun k hk=>⟨.inl ?_,(fun h=>by cases h),fun h=>by cases h⟩,fun k hk=>hk.elim (fun h=>by cases h) (fun h=>by cases h),hF0⟩
 ·have h:=oC ((w.alloc (.cells #[xf []] 9)).alloc (.cells #[.nilIface] 73)) (.pointer (some ⟨q,0,none⟩)) (.pointer (some ⟨g,0,none⟩)) (.func gf g1 g2);rw[show((w.alloc (.cells #[xf []] 9)).alloc (.cells #[.nilIface] 73)).heap.size=A+2 by simp[hA]] at h;exact h
 ·exact World.ownsRow_nil _ _ _ _
 ·have:=hE.get.E0 g0 w k hi hk;omega
theorem iy{f:Fo}(hm:f.vD=true)(hv:f.BI false){gf:Fn}{g1 g2:Array Value}(hE:bY w (A+2) (A+2) G q mb g (MkS.all f) vC vI rs (.func gf g1 g2) E F S Inv)(hT:eO (MkS.all f))(hc:(MkS.all f).code.length<=100000)(hA:w.heap.size=A)(hGA:¬G A)(hGB:¬G (A+1))(x:vv){g0:τ}(hi:Inv g0 w)(hF0:∀ k,F g0 k->G k) :
  Calls Tryz.prog 53 #[.pointer (some ⟨q,0,none⟩),.pointer (some ⟨g,0,none⟩),.func gf g1 g2] w (wK G Inv (qx E f [] x [] g0) w):=by
 have key:∀ (fuel:Nat) (r:Except (Nat×bh τ) (bh τ)),fuel<=(MkS.all f).code.length->Q9 (jA E (MkS.all f)) fuel 0 ⟨[],[],g0⟩=some r ->
   Calls Tryz.prog 53 #[.pointer (some ⟨q,0,none⟩),.pointer (some ⟨g,0,none⟩),.func gf g1 g2] w (zlv G (fun r=>r.out) (fun r W=>Inv r.gs W) r w):=by
  intro fuel r hfu hr;refine oN G (VmI w (A+2) (A+2) q g (.func gf g1 g2) G F S Inv) (VmJ w (A+2) (A+2) q g (.func gf g1 g2) G F S Inv) (E8 Inv S (A+2)) (fun r W=>Inv r.gs W) (fun r=>r.out) (jA E (MkS.all f)) fuel ⟨[],[],g0⟩ r w (some ⟨q,0,none⟩) (some ⟨g,0,none⟩) gf g1 g2 (by rw[hA];exact hGA) (by rw[hA];exact hGB) (fun k hk=>hE.gA k (by rw[hA] at hk;exact hk)) ?_ ?_ ?_ ?_ hr
  ·exact⟨TN hE hA hi hF0,(((Fr.refl _ _).alloc _).alloc _).alloc _,by show 0+fuel*5000<=_;omega,by show 0+fuel<=_;omega⟩
  ·rintro s W ⟨⟨v,st,cs,hO,vR,fP,hI,ZT,Yr,hS,hAA,hF⟩,hl⟩;rw[hA];refine⟨v,_,_,_,_,hO,fun k hk=>hAA k (.inl hk),by show s.out.length<=_;omega,fun W' hf=>hE.get.fr hI hf fun k hk hs=>?_⟩;have h1:=hS k hs;rcases hk with rfl|rfl|hk
   ·have:=h1.1;omega
   ·have:=h1.1;omega
   ·exact h1.2.1 hk
  ·rintro s W W' ⟨hI,hS⟩ hf;rw[hA] at hf;refine hE.get.fr hI hf fun k hk hs=>?_
   have h1:=hS k hs;rcases hk with rfl|rfl<;>omega
  ·intro m k s W hI hb;rw[hA];exact r6 hE hT hI hb
 have h:=r9 (E:=E) hE.srt f hm hv x g0
 cases hr:qx E f [] x [] g0 with
 | error e =>
  obtain⟨n,g'⟩:=e;rw[hr] at h;obtain⟨fuel,r,h1,h2,h3⟩:=h;refine(key fuel _ h1 h2).mono fun e w' h=>?_
  subst h3;exact h
 | ok p =>
  obtain⟨o,g'⟩:=p;rw[hr] at h;obtain⟨fuel,h1,h2⟩:=h;exact(key fuel _ h1 h2).mono fun e w' h=>h
end
def Fo.sh:Fo->Prop
 | .nil=>True
 | .text t r=>t.length<=5000/\r.sh
 | .hash r=>r.sh
 | .put _ _ r=>r.sh
 | .num _ _ r=>r.sh
 | .br _ _ _ _ _ bs r=>bs.sh/\r.sh
 | .uq _ _ m r=>m.sh/\r.sh
def OkX(N c p:Nat)(x:jC):Prop:=(∀ j∈x.k,j<c)/\x.k.length<=N/\x.v<=1000000000/\(∀ y∈x.tg,y<=p)/\(x.op=7->0<x.tg.length)/\(x.op=10->x.k≠[]/\x.k.length<=x.tg.length)
def fW(N:Nat)(s:MkS):Prop:=(∀ x∈s.code,OkX N s.cs.length s.pos x)/\∀ t∈s.cs,t.length<=5000
theorem OkX.more{N c p c' p':Nat}{x:jC}(h:OkX N c p x)(hc:c<=c')(hp:p<=p'):OkX N c' p' x :=
 ⟨fun j hj=>zS (h.1 j hj) hc,h.2.1,h.2.2.1,fun y hy=>Nat.le_trans (h.2.2.2.1 y hy) hp,h.2.2.2.2⟩
section
variable {N:Nat} {s:MkS}
theorem fW.put(h:fW N s)(op v:Nat)(k tg:List Nat)(h1:∀ j∈k,j<s.cs.length)(h2:k.length<=N)(h3:v<=1000000000)(h4:∀ y∈tg,y=0)(h5:op=7->0<tg.length)(h6:op=10->k≠[]/\k.length<=tg.length):fW N (s.put op v k tg):=by
 refine⟨fun x hx=>?_,h.2⟩;rw[xA,zg,z7] at hx;rcases hx with hx|rfl
 ·exact(h.1 x hx).more (zu _) (Nat.le_add_right _ _)
 ·exact⟨h1,h2,h3,fun y hy=>by rw[h4 y hy];exact zf _,h5,h6⟩
theorem fW.const(h:fW N s)(t:Wd)(ht:t.length<=5000):fW N (s.const t):=by
 unfold MkS.const;split
 ·exact h
 ·refine⟨fun x hx=>(h.1 x hx).more (by simp) (zu _),fun u hu=>?_⟩;simp only[zg,z7] at hu;rcases hu with hu|rfl
  ·exact h.2 u hu
  ·exact ht
theorem fW.uv(h:fW N s)(i j:Nat):fW N (s.uv i j):=by
 refine⟨fun x hx=>?_,h.2⟩;obtain⟨n,hn,e⟩:=zP.1 hx;have P6:(s.uv i j).code[n]? = some x:=by rw[zk hn,e]
 rw[Yv] at P6;split at P6
 ·cases hc:s.code[n]? with
  | none=>rw[hc] at P6;cases P6
  | some y =>
   rw[hc] at P6
   cases P6;have hy:=h.1 y (zJ hc);refine⟨hy.1,hy.2.1,hy.2.2.1,fun z hz=>?_,fun q=>by rw[zm];exact hy.2.2.2.2.1 q,fun q=>by rw[zm];exact hy.2.2.2.2.2 q⟩;rcases List.mem_or_eq_of_mem_set hz with hz|rfl
   ·exact hy.2.2.2.1 z hz
   ·exact zu _
 ·exact h.1 x (zJ P6)
theorem Ek(s:MkS)(t:Wd):s.num t<(s.const t).cs.length:=(z8.1 (Eu (s0:=s) t (zx _))).1
theorem zp0(s:MkS)(t:Wd):s.cs.length<=(s.const t).cs.length:=by unfold MkS.const;split<;>simp
theorem fW.one(h:fW N s)(op:Nat)(t:Wd)(ht:t.length<=5000)(uR:op<7)(hN:1<=N):fW N (s.one op t) :=
 (h.const t ht).put op 0 [s.num t] [] (fun j hj=>by rw[z7.1 hj];exact Ek s t) hN (zf _) (fun y hy=>by cases hy) (fun q=>by omega) (fun q=>by omega)
theorem fW.j4:∀ (f:Fo) (s:MkS) (acc:List Nat),(∀ k∈f.keys,k.length<=5000)->fW N s->(∀ j∈acc,j<s.cs.length)->acc≠[]->fW N (MkS.j4 f s acc).1/\(∀ j∈(MkS.j4 f s acc).2,j<(MkS.j4 f s acc).1.cs.length)/\(MkS.j4 f s acc).2≠[]
 | .uq k _ _ r,s,acc,hk,h,ha,hn=>by
  rw[MkS.j4];have QI:∀ k∈r.keys,k.length<=5000:=fun x hx=>hk x (zj _ hx)
  split
  ·exact fW.j4 r s acc QI h ha hn
  ·refine fW.j4 r _ _ QI (h.const _ (hk k (zV ..))) (fun j hj=>?_) (by simp);rw[zg,z7] at hj;rcases hj with hj|rfl
   ·exact zS (ha j hj) (zp0 s k)
   ·exact Ek s k
 | .nil,_,_,_,h,ha,hn=>⟨h,ha,hn⟩
 | .text _ _,_,_,_,h,ha,hn=>⟨h,ha,hn⟩
 | .hash _,_,_,_,h,ha,hn=>⟨h,ha,hn⟩
 | .put _ _ _,_,_,_,h,ha,hn=>⟨h,ha,hn⟩
 | .num _ _ _,_,_,_,h,ha,hn=>⟨h,ha,hn⟩
 | .br _ _ _ _ _ _ _,_,_,_,h,ha,hn=>⟨h,ha,hn⟩
theorem fW.qH:∀ (f:Fo) (s:MkS) (acc:List (Wd×Nat)),(∀ k∈f.keys,k.head? = some 61->xL k.tail<=1000000000)->fW N s->fW N (MkS.qH f s acc).1
 | .uq k _ _ r,s,acc,hk,h=>by
  rw[MkS.qH];have QI:∀ k∈r.keys,k.head? = some 61->xL k.tail<=1000000000:=fun x hx=>hk x (zj _ hx)
  split
  ·rename_i Pq;exact fW.qH r _ _ QI (h.put _ _ _ _ (fun j hj=>by cases hj) (zf _) (hk k (zV ..) Pq) (fun y hy=>z7.1 hy) (fun _=>Nat.one_pos) (fun q=>by cases q))
  ·exact fW.qH r s acc QI h
 | .nil,_,_,_,h=>h
 | .text _ _,_,_,_,h=>h
 | .hash _,_,_,_,h=>h
 | .put _ _ _,_,_,_,h=>h
 | .num _ _ _,_,_,_,h=>h
 | .br _ _ _ _ _ _ _,_,_,_,h=>h
theorem fW.plu(n o:Wd)(bs:Fo)(s0:MkS)(k:Wd)(h:fW N s):fW N (MkS.jD n o bs s0 k s):=by
 unfold MkS.jD;split
 ·exact h.uv _ _
 ·exact MkS.fE (fW N) _ (fun s c h=>by split;exact h.uv _ _;exact h) _ _ h
theorem fW.uX(h:fW N s)(l:List Nat):fW N (l.foldl (fun s i=>MkS.uv s i 0) s):=MkS.fE (fW N) _ (fun _ _ h=>h.uv _ _) _ _ h
theorem fW.go(hN:20<=N):∀ (f:Fo) (bg:Wd->MkS->MkS) (s:MkS) (ls:List Nat),(∀ k s,fW N s->fW N (bg k s))->f.Uo->f.sh->f.cw<=N->fW N s->fW N (MkS.qZ f bg s ls).1
 | .nil,_,_,_,_,_,_,_,h=>h
 | .text t r,bg,s,ls,hb,hc,hs,hw,h=>fW.go hN r bg _ ls hb hc.2 hs.2 (by simp only[Fo.cw] at hw;omega) (h.one _ _ hs.1 (by omega) (by omega))
 | .hash r,bg,s,ls,hb,hc,hs,hw,h=>fW.go hN r bg _ ls hb hc hs (by simp only[Fo.cw] at hw;omega) (h.put _ _ _ _ (fun j hj=>by cases hj) (zf _) (zf _) (fun y hy=>by cases hy) (fun q=>by cases q) (fun q=>by cases q))
 | .put n _ r,bg,s,ls,hb,hc,hs,hw,h=>fW.go hN r bg _ ls hb hc.2 hs (by simp only[Fo.cw] at hw;omega) (h.one _ _ (by have:=hc.1;omega) (by omega) (by omega))
 | .num n _ r,bg,s,ls,hb,hc,hs,hw,h=>fW.go hN r bg _ ls hb hc.2 hs (by simp only[Fo.cw] at hw;omega) (h.one _ _ (by have:=hc.1;omega) (by omega) (by omega))
 | .br n _ f o _ bs r,bg,s,ls,hb,hc,hs,hw,h=>by
  obtain⟨c1,c2,c3,c4,c5,c6,c7,c8⟩:=hc;have hw':=hw;simp only[Fo.cw] at hw;have hn:n.length<=5000:=by omega
  have M0:=Fo.YC bs;rw[MkS.qZ];split
  ·obtain⟨a1,a2,a3⟩:=fW.j4 bs (s.const n) [s.num n] (fun k hk=>by have:=(c6 k hk).1;omega) (h.const n hn) (fun j hj=>by rw[z7.1 hj];exact Ek s n) (by simp);have hl:=(MkS.Ur bs (s.const n) [s.num n]).2.2.1;refine fW.go hN r bg _ ls hb c8 hs.2 (by omega) (fW.uX (fW.go hN bs _ _ _ (fun k x hx=>hx.uv _ _) c7 hs.1 (by omega) ?_) _);exact a1.put _ _ _ _ a2 (by rw[zO] at hl;simp only[MkS.ff];omega) (zf _) (fun y hy=>(zR.1 hy).2) (fun q=>by cases q) (fun _=>⟨a3,by rw[List.length_replicate];exact zu _⟩)
  ·rename_i hf;refine fW.go hN r bg _ ls hb c8 hs.2 (by omega) (fW.put (fW.uX (fW.go hN bs _ _ _ (fun k x hx=>hx.plu n o bs s k) c7 hs.1 (by omega) ?_) _) _ _ _ _ (fun j hj=>by cases hj) (zf _) (zf _) (fun y hy=>by cases hy) (fun q=>by cases q) (fun q=>by cases q));refine fW.put (fW.qH bs _ _ (fun k hk Pq=>?_) ((h.const n hn).put _ _ _ _ (fun j hj=>by rw[z7.1 hj];exact Ek s n) (by simp;omega) (by omega) (fun y hy=>by cases hy) (fun q=>by cases q) (fun q=>by cases q))) _ _ _ _ (fun j hj=>by cases hj) (zf _) (zf _) (fun y hy=>(zR.1 hy).2) (fun q=>by split at q<;>cases q) (fun q=>by split at q<;>cases q);obtain⟨-,e2,e3⟩:=(c6 k hk).2 hf Pq;have h1:=Qb _ e3;have h2:10 ^ k.tail.length<=10 ^ 9:=Nat.pow_le_pow_right (by omega) e2;omega
 | .uq k _ m r,bg,s,ls,hb,hc,hs,hw,h=>by
  simp only[Fo.cw] at hw;exact fW.go hN r bg _ _ hb hc.2.2 hs.2 (by omega) (fW.put (fW.go hN m _ _ _ (fun _ _ h=>h) hc.2.1 hs.1 (by omega) (hb k s h)) _ _ _ _ (fun j hj=>by cases hj) (zf _) (zf _) (fun y hy=>z7.1 hy) (fun q=>by cases q) (fun q=>by cases q))
end
theorem zkd{f:Fo}(hc:f.Uo)(hs:f.sh):fW (f.cw+20) (MkS.all f) :=
 fW.put (fW.go (N:=f.cw+20) (by omega) f _ _ [] (fun _ _ h=>h) hc hs (by omega) ⟨fun x hx=>(by cases hx),fun t ht=>(by cases ht)⟩) _ _ _ _ (fun j hj=>by cases hj) (zf _) (zf _) (fun y hy=>by cases hy) (fun q=>by cases q) (fun q=>by cases q)
theorem zkb(f:Fo):(MkS.all f).sz<=f.cw+3:=by
 have h:=(N3 f MkS.start).2;have h1:(uG ⟨0,(MkS.dM f MkS.start).pos,0,[],[]⟩).length=1:=by rfl
 rw[show MkS.start.sz=0 from rfl] at h;rw[MkS.all,jt,h1];omega
theorem Lv{f:Fo}(hc:f.Uo)(hs:f.sh)(hw:f.cw<=90000):eO (MkS.all f)/\(MkS.all f).code.length<=100000/\(MkS.all f).cs.length<=1000000/\(∀ t∈(MkS.all f).cs,t.length<=5000)/\∀ x∈(MkS.all f).code,x.v<=1000000000/\∀ y∈x.tg,y<=4000000000:=by
 obtain⟨h1,h2⟩:=zkd hc hs;have hz:=zkb f;simp only[MkS.sz] at hz;refine⟨fun x hx=>⟨(h1 x hx).2.2.2.2.1,fun uR=>?_⟩,by omega,by omega,h2,fun x hx=>⟨(h1 x hx).2.2.1,fun y hy=>by have:=(h1 x hx).2.2.2.1 y hy;omega⟩⟩;obtain⟨a1,a2,-,-,-,a3⟩:=h1 x hx;obtain⟨b1,b2⟩:=a3 uR;refine⟨by omega,ze.2 fun j hj=>decide_eq_true (a1 j (List.mem_of_mem_tail hj)),?_⟩
 cases hk:x.k with
 | nil=>exact absurd hk b1
 | cons a l=>rw[hk] at b2;simp only[zM,zc] at b2 ⊢;omega
end Go.Proofs.YthpldolmpinnhaaGreatDoor
