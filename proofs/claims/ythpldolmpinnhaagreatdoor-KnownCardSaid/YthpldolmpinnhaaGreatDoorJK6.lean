import Derived.Test.YthpldolmpinnhaaGreatDoorJK5
import Derived.Maps.OwnSet
import Derived.Maps.Views
set_option maxHeartbeats 64000000
open Go.Lib renaming hid→z7
open Go.World renaming frozen?_setCell→z8,block_lt_of_cell?→zy,ownsRow_nil→zF
open Option.some renaming inj→zx
open List renaming getElem?_append_right→zv,getElem?_append_left→zu,mem_of_getElem?→zk,getElem?_eq_some_iff→zf,getElem?_eq_getElem→zZ,idxOf_append→zE,nil_append→zM
open Go.WideMaps renaming keyOf_string_mk→zj
open Nat renaming lt_of_lt_of_le→zg,le_trans→zY,le_refl→zX
open Go.RowKit.Below renaming heap_setCell→zV,heap_alloc→zI
open Go.Maps renaming string_keyed→zU
open Array renaming getElem?_eq_some_iff→zQ,getElem?_eq_getElem→zJ
open Go.DataW.lit renaming injEq→zG
open Go.WideAt renaming IsKeyLit→zD
open Go.IntKind renaming signed→zH,bits→zN
open Go.Lit.int renaming injEq→zL
open Go.Proofs.Tryz
namespace Go.Proofs.YthpldolmpinnhaaGreatDoor
open Go Go.RowKit
set_option maxRecDepth 10000
def kP(e:TypeId)(w:World)(b n:Nat)(f:Wd->Option Nat):Prop :=
 ∃ D:DataW Unit,w.ownsMap prog 9 (plainElem prog e) b n D/\Maps.IsMap D/\∀ m:Wd,Maps.has D (.string m)=(f m).isSome/\D.atKey (.string m) (.lit (.int .i64 0)) = .lit (.int .i64 (((f m).getD 0:Nat):Int))
structure Ps(t e:TypeId):Prop where
 map:prog.underlying t=some (.map 9 e)
 el:prog.underlying e=some (.int .i64)
 zero:∀ w,(zeroValue e).run prog w = .ok (.int .i64 0) w
theorem kP.keep{e:TypeId}{w w':World}{b n:Nat}{f:Wd->Option Nat}(h:kP e w b n f)(hb:w'.heap[b]? = w.heap[b]?):kP e w' b n f:=by
 obtain⟨D,h1,h2⟩:=h;obtain⟨es,clock,ho,rest⟩:=h1;exact⟨D,⟨es,clock,hb.trans ho,rest⟩,h2⟩
theorem kP.lt{e:TypeId}{w:World}{b n:Nat}{f:Wd->Option Nat}(h:kP e w b n f):b<w.heap.size:=by
 obtain⟨D,⟨es,clock,ho,_⟩,_⟩:=h;exact(zQ.1 ho).1
theorem kP.below{e:TypeId}{w w':World}{b n:Nat}{f:Wd->Option Nat}(h:kP e w b n f)(hb:Below w.heap.size w w'):kP e w' b n f:=h.keep (hb.block b h.lt)
theorem kP.made(e:TypeId)(w:World):kP e (w.alloc (.map #[] 0)) w.heap.size 0 (fun _=>none) :=
 ⟨.map [],World.ownsMap_made w _ _ _,⟨_,rfl⟩,fun m=>⟨rfl,rfl⟩⟩
section
variable {t e:TypeId}
theorem kP.look{w:World}{b n:Nat}{f:Wd->Option Nat}(T:Ps t e)(h:kP e w b n f)(m:Wd)(hm:m.length<=5000000) :
  (Instr.lookup t (.map (some b)) (xk m) true).run prog w = .ok (.tuple #[.int .i64 (((f m).getD 0:Nat):Int),.bool (f m).isSome]) w:=by
 obtain⟨D,h1,h2,h3⟩:=h;obtain⟨v,ps,vB,hv⟩:=h1.look_ok (zU underlying9) T.map (z := .int .i64 0) (T.zero w) (plainElem_int T.el (by decide))
  (key:=xk m) (zj (s:=⟨m.toArray⟩) underlying9 (by rw[size_mk];unfold maxLen;omega))
 rw[toList_mk] at vB hv;rw[(h3 m).1] at vB;rw[(h3 m).2] at hv;obtain⟨c,rfl,hc,_⟩:=plainElem_int_inv T.el hv;simp only[Prod.mk.injEq,zG,zL] at hc;rw[vB,←hc.1.2]
theorem kP.KZ{w:World}{b n:Nat}{f:Wd->Option Nat}(T:Ps t e)(h:kP e w b n f)(m:Wd)(hm:m.length<=5000000) :
  (Instr.lookup t (.map (some b)) (xk m) false).run prog w = .ok (.int .i64 (((f m).getD 0:Nat):Int)) w:=by
 obtain⟨D,h1,h2,h3⟩:=h;obtain⟨c,vB,U9,_⟩:=h1.lookup_int (zU underlying9) T.map T.el (q := .i64) (T.zero w)
  (key:=xk m) (zj (s:=⟨m.toArray⟩) underlying9 (by rw[size_mk];unfold maxLen;omega))
 rw[toList_mk,(h3 m).2] at U9;simp only[zG,zL,true_and] at U9;rw[vB,←U9]
theorem kP.put{w:World}{b n:Nat}{f:Wd->Option Nat}(T:Ps t e)(h:kP e w b n f)(m:Wd)(hm:m.length<=5000000)(v:Int)(k:Nat)(hv:v=(k:Int))(hk:k<=1000000000)(hn:n<=1000000000) :
  ∃ w',(Instr.mapUpdate t (.map (some b)) (xk m) (.int .i64 v)).run prog w = .ok () w'/\kP e w' b (n+1) (fun x=>if m=x then some k else f x)/\w.grownBy w' (some b):=by
 subst hv;obtain⟨D,h1,h2,h3⟩:=h;obtain⟨w',vB,xV,hg⟩:=h1.update (zU underlying9) T.map (by unfold maxLen;omega) (key:=xk m) (zj (s:=⟨m.toArray⟩) underlying9 (by rw[size_mk];unfold maxLen;omega))
  (plainElem_int T.el (q := .i64) (a:=(k:Int)) (by simp[Lit.wf,IntKind.min,IntKind.max,zH,zN];omega))
 rw[toList_mk] at xV;refine⟨w',vB,⟨_,xV,h2.put _ _,fun x=>?_⟩,hg⟩;by_cases hx:m=x
 ·subst hx;simp only[↓reduceIte];exact⟨by rw[Maps.has_put_same h2 (show zD (.string m) from trivial)];simp,by rw[Maps.atKey_put_same h2 (show zD (.string m) from trivial)];simp⟩
 ·simp only[hx,↓reduceIte];have vx:(Lit.string x) ≠ .string m:=fun q=>hx (by cases q;rfl)
  exact⟨by rw[Maps.has_put_other vx];exact(h3 x).1,by rw[Maps.atKey_put_other vx];exact(h3 x).2⟩
end
structure MkS where
 cs:List Wd
 code:List jf
 pos:Nat
namespace MkS
def const(s:MkS)(t:Wd):MkS:=if t∈s.cs then s else { s with cs:=s.cs++[t] }
def num(s:MkS)(t:Wd):Nat:=s.cs.idxOf t
def put(s:MkS)(op v:Nat)(k tg:List Nat):MkS:={ s with code:=s.code++[⟨op,s.pos,v,k,tg⟩],pos:=s.pos+(uU ⟨op,s.pos,v,k,tg⟩).length }
def u7(s:MkS)(i j:Nat):MkS:={ s with code:=s.code.modify i fun x=>{ x with tg:=x.tg.set j s.pos } }
end MkS
structure dE where
 B:Nat
 q:Nat
 m:Nat
 vC:Value
 vI:Value
 rs:List (Value×Value)
def dE.has(L:dE)(p k:Nat):Prop:=k=p\/k=L.q\/k=L.m\/xX L.vC k\/xX L.vI k\/∃ r∈L.rs,xX r.1 k\/xX r.2 k
def Fc(i:jf)(r:Value×Value):List Value:=[.int .i64 i.op,.int .i64 i.pos,.int .i64 i.v,r.1,r.2]
def dH:List jf->List (Value×Value)->List Value
 | i::l,r::rs=>Fc i r++dH l rs
 | _,_=>[]
def Z2(l:List Nat):List Value:=l.map fun x => .int .i64 (x:Nat)
abbrev qq(w:World)(v:Value)(l:List Nat):Prop:=w.ownsRow 0 3 1 v l.length (Z2 l)
theorem To:ZV prog 123 128 (.agg #[.int .i64 0,.int .i64 0,.int .i64 0,.slice none 0 0,.slice none 0 0]) 5 72 :=
 ⟨underlying123,info_parts (by kernel_rfl),rfl,by decide,by decide⟩
theorem EE:∀ (l:List jf) (rs:List (Value×Value)) (i:jf) (r:Value×Value),rs.length=l.length->dH (l++[i]) (rs++[r])=dH l rs++Fc i r
 | [],[],i,r,_=>by simp[dH]
 | [],r'::rs,i,r,h=>by simp at h
 | i'::l,[],i,r,h=>by simp at h
 | i'::l,r'::rs,i,r,h=>by simp[dH,EE l rs i r (by simpa using h)]
theorem Uf:∀ (l:List jf) (rs:List (Value×Value)),rs.length=l.length->∀ n j (i:jf) (r:Value×Value),l[n]? = some i->rs[n]? = some r->j<5->(dH l rs)[n*5+j]? = (Fc i r)[j]?
 | [],_,_,n,j,i,r,h,_,_=>by simp at h
 | i'::l,[],h,_,_,_,_,_,_,_=>by simp at h
 | i'::l,r'::rs,h,0,j,i,r,h1,h2,hj=>by
  simp at h1 h2;subst h1 h2;simp only[dH,Nat.zero_mul,Nat.zero_add];exact zu (by simpa[Fc] using hj)
 | i'::l,r'::rs,h,n+1,j,i,r,h1,h2,hj=>by
  have:=Uf l rs (by simpa using h) n j i r (by simpa using h1) (by simpa using h2) hj;rw[←this];simp only[dH];rw[zv (by simp[Fc];omega)];congr 1;simp[Fc];omega
theorem EH:∀ (l:List jf) (rs:List (Value×Value)) (n:Nat) (f:List Nat->List Nat),dH (l.modify n fun x=>{ x with tg:=f x.tg }) rs=dH l rs
 | [],_,n,f=>by simp[dH]
 | i::l,[],0,f=>by simp[dH]
 | i::l,[],n+1,f=>by simp[dH]
 | i::l,r::rs,0,f=>by simp[dH,Fc]
 | i::l,r::rs,n+1,f=>by simp[dH,EH l rs n f]
def Vj(w:World)(k:Nat):Option TypeId:=match w.heap[k]? with|some (.cells _ t _)=>some t|_=>none
theorem jd{w:World}{base size n:Nat}{e:TypeId}{v:Value}{xs:List Value}(h:w.ownsRow base e size v n xs){g:Nat}(hg:xX v g):Vj w g=some e:=by
 rcases h.2 with⟨hv,_⟩|⟨g',cap,cur,hv,_,hh,_⟩
 ·rw[hv] at hg;cases hg
 ·rw[hv] at hg;cases hg;simp[Vj,hh]
theorem uE{w w':World}{k:Nat}(h:w'.heap[k]? = w.heap[k]?):Vj w' k=Vj w k:=by unfold Vj;rw[h]
theorem Xi(w:World)(a:Addr)(u:Value)(k:Nat):Vj (w.setCell a u) k=Vj w k:=by
 by_cases hk:k=a.block
 ·subst hk;unfold Vj World.setCell;simp only[Array.getElem?_modify,if_true]
  cases hh:w.heap[a.block]? with
  | none=>rfl
  | some o=>cases o<;>rfl
 ·exact uE (zV _ _ _ _ hk)
theorem Ud(w:World)(c:Array Value)(t:TypeId):Vj (w.alloc (.cells c t)) w.heap.size=some t:=by
 unfold Vj;show(match (w.heap.push (.cells c t (0,0)))[w.heap.size]? with|some (.cells _ t _)=>some t|_=>none)=_;simp
theorem bX{w:World}{k:Nat}{t:TypeId}(h:Vj w k=some t):k<w.heap.size:=by
 unfold Vj at h;split at h
 ·next hh=>exact(zQ.1 hh).1
 ·cases h
theorem Y7{e:TypeId}{w:World}{b n:Nat}{f:Wd->Option Nat}(h:kP e w b n f):Vj w b=none:=by
 obtain⟨D,⟨es,clock,ho,_⟩,_⟩:=h;simp[Vj,ho]
def kg(cs:List Wd)(t:Wd):Option Nat:=if t∈cs then some (cs.idxOf t) else none
structure JO(w:World)(code:List jf)(rs:List (Value×Value)):Prop where
 len:rs.length=code.length
 k:∀ (n:Nat) (i:jf) (r:Value×Value),code[n]? = some i->rs[n]? = some r->qq w r.1 i.k/\qq w r.2 i.tg
 ne:∀ (n m:Nat) (r r':Value×Value),rs[n]? = some r->rs[m]? = some r'->∀ g,xX r.2 g->¬xX r'.1 g/\(xX r'.2 g->n=m)
theorem JO.fr{w w':World}{F F':Nat->Prop}{code:List jf}{rs:List (Value×Value)}(h:JO w code rs)(hf:Fr F F' w w')(hF:∀ k,F k->Vj w k≠some 3):JO w' code rs :=
 ⟨h.len,fun n i r h1 h2=>by
  obtain⟨a,b⟩:=h.k n i r h1 h2;exact⟨hf.own a (fun g hg hq=>hF g hq (jd a hg)),hf.own b (fun g hg hq=>hF g hq (jd b hg))⟩,h.ne⟩
structure uz(p:Nat)(L:dE)(s:MkS)(w:World):Prop where
 p0:w.cell? ⟨p,0,none⟩=some (.pointer (some ⟨L.q,0,none⟩))
 p1:w.cell? ⟨p,1,none⟩=some (.int .i64 s.pos)
 p2:w.cell? ⟨p,2,none⟩=some (.map (some L.m))
 q0:w.cell? ⟨L.q,0,none⟩=some L.vC
 q1:w.cell? ⟨L.q,1,none⟩=some L.vI
 q2:w.cell? ⟨L.q,2,none⟩=some (.map none)
 zp:∀ j,w.frozen? ⟨p,j,none⟩=false
 zq:∀ j,w.frozen? ⟨L.q,j,none⟩=false
 tp:Vj w p=some 187
 tq:Vj w L.q=some 126
 mp:kP 3 w L.m s.cs.length (kg s.cs)
 cC:w.ownsRow 0 9 1 L.vC s.cs.length (s.cs.map xk)
 cI:w.ownsRow 0 128 5 L.vI s.code.length (dH s.code L.rs)
 rows:JO w s.code L.rs
 lo:∀ k,L.has p k->L.B<=k
theorem kP.fr{e:TypeId}{w w':World}{F F':Nat->Prop}{b n:Nat}{f:Wd->Option Nat}(h:kP e w b n f)(hf:Fr F F' w w')(hb:¬F b):kP e w' b n f:=h.keep (hf.keep b h.lt hb)
theorem uz.fr{p:Nat}{L:dE}{s:MkS}{w w':World}{F F':Nat->Prop}(h:uz p L s w)(hf:Fr F F' w w')(hF:∀ k,F k->¬L.has p k):uz p L s w':=by
 have np:¬F p:=fun q=>hF p q (.inl rfl)
 have nq:¬F L.q:=fun q=>hF _ q (.inr (.inl rfl))
 have lp:=bX h.tp;have lq:=bX h.tq;refine⟨hf.cell h.p0 np,hf.cell h.p1 np,hf.cell h.p2 np,hf.cell h.q0 nq,hf.cell h.q1 nq,hf.cell h.q2 nq,fun j=>(hf.frozen lp np).trans (h.zp j),fun j=>(hf.frozen lq nq).trans (h.zq j),(uE (hf.keep p lp np)).trans h.tp,(uE (hf.keep _ lq nq)).trans h.tq,
  h.mp.fr hf (fun q=>hF _ q (.inr (.inr (.inl rfl)))),hf.own h.cC (fun g hg q=>hF g q (.inr (.inr (.inr (.inl hg))))),hf.own h.cI (fun g hg q=>hF g q (.inr (.inr (.inr (.inr (.inl hg)))))),⟨h.rows.len,fun n i r h1 h2=>?_,h.rows.ne⟩,h.lo⟩
 obtain⟨a,b⟩:=h.rows.k n i r h1 h2;have hr:=zk h2;exact⟨hf.own a (fun g hg q=>hF g q (.inr (.inr (.inr (.inr (.inr ⟨r,hr,.inl hg⟩)))))),hf.own b (fun g hg q=>hF g q (.inr (.inr (.inr (.inr (.inr ⟨r,hr,.inr hg⟩))))))⟩
theorem uz.lt{p:Nat}{L:dE}{s:MkS}{w:World}(h:uz p L s w){k:Nat}(hk:L.has p k):k<w.heap.size:=by
 rcases hk with rfl|rfl|rfl|hk|hk|⟨r,hr,hk⟩
 ·exact bX h.tp
 ·exact bX h.tq
 ·exact h.mp.lt
 ·exact uS h.cC hk
 ·exact uS h.cI hk
 ·obtain⟨n,hn,e⟩:=List.mem_iff_getElem.1 hr;have h1:L.rs[n]? = some r:=by rw[zZ hn,e]
  have h2:s.code[n]? = some (s.code[n]'(by have:=h.rows.len;omega)):=zZ _;obtain⟨a,b⟩:=h.rows.k n _ r h2 h1;exact hk.elim (uS a) (uS b)
theorem uz.alloc{p:Nat}{L:dE}{s:MkS}{w:World}(h:uz p L s w)(o:Obj):uz p L s (w.alloc o):=h.fr ((Fr.refl xN w).alloc o) (fun _ q=>q.elim)
theorem uz.drew{p:Nat}{L:dE}{s:MkS}{w:World}(h:uz p L s w):uz p L s w.drew:=h.fr (Fr.refl xN w).drew (fun _ q=>q.elim)
theorem uz.base{p:Nat}{L:dE}{s:MkS}{w:World}(h:uz p L s w):L.B<=p/\p<w.heap.size:=⟨h.lo p (.inl rfl),bX h.tp⟩
theorem uz.low{p:Nat}{L L':dE}{s:MkS}{w w':World}(h:uz p L s w)(hb:L'.B=L.B)(hf:Fr (L.has p) (L'.has p) w w'):∀ k,L'.has p k->L'.B<=k:=fun k hk=>by
 have:=h.base;rw[hb];exact(hf.fp k hk).elim (h.lo k) (by omega)
def MkQ(p:Nat)(L:dE)(s:MkS)(w w':World):Prop:=∃ L',uz p L' s w'/\(L'.q=L.q/\L'.B=L.B)/\Fr (L.has p) (L'.has p) w w'
theorem QI:Ps 185 3:=⟨underlying185,underlying3,fun w=>by simp[go_sem]⟩
theorem KY{cs:List Wd}{t:Wd}(h:t ∉ cs):(fun x=>if t=x then some cs.length else kg cs x)=kg (cs++[t]):=by
 funext x;unfold kg;by_cases hx:t=x
 ·subst hx;simp[h,zE,List.idxOf_cons]
 ·have OX:¬x=t:=fun e=>hx e.symm
  by_cases hm:x∈cs
  ·simp[hx,hm,zE]
  ·simp[hx,hm,OX]
theorem uz.nC{p:Nat}{L:dE}{s:MkS}{w:World}(h:uz p L s w){g:Nat}(hg:xX L.vC g):g≠p/\g≠L.q/\g≠L.m/\¬xX L.vI g:=by
 have t:=jd h.cC hg;refine⟨?_,?_,?_,fun q=>?_⟩
 ·rintro rfl;rw[h.tp] at t;simp at t
 ·rintro rfl;rw[h.tq] at t;simp at t
 ·rintro rfl;rw[Y7 h.mp] at t;cases t
 ·rw[jd h.cI q] at t;simp at t
theorem uz.nI{p:Nat}{L:dE}{s:MkS}{w:World}(h:uz p L s w){g:Nat}(hg:xX L.vI g):g≠p/\g≠L.q/\g≠L.m:=by
 have t:=jd h.cI hg;refine⟨?_,?_,?_⟩
 ·rintro rfl;rw[h.tp] at t;simp at t
 ·rintro rfl;rw[h.tq] at t;simp at t
 ·rintro rfl;rw[Y7 h.mp] at t;cases t
theorem uz.nP{p:Nat}{L:dE}{s:MkS}{w:World}(h:uz p L s w):p≠L.q/\p≠L.m/\L.q≠L.m:=by
 refine⟨fun e=>?_,fun e=>?_,fun e=>?_⟩
 ·have:=h.tp;rw[e,h.tq] at this;simp at this
 ·have:=h.tp;rw[e,Y7 h.mp] at this;cases this
 ·have:=h.tq;rw[e,Y7 h.mp] at this;cases this
theorem uz.more{p:Nat}{L:dE}{s:MkS}{w w1 w2:World}{t:Wd}{v':Value}(h:uz p L s w)(ht:t ∉ s.cs)(hm:kP 3 w1 L.m (s.cs.length+1) (fun x=>if t=x then some s.cs.length else kg s.cs x))(h1:w.grownBy w1 (some L.m))
  (hC:w2.ownsRow 0 9 1 v' (s.cs.length+1) (s.cs.map xk++[xk t])) (h2:Fr (xX L.vC) (xX v') w1 w2) :
  ∃ L',uz p L' { s with cs:=s.cs++[t] } (w2.setCell ⟨L.q,0,none⟩ v')/\(L'.q=L.q/\L'.B=L.B)/\Fr (L.has p) (L'.has p) w (w2.setCell ⟨L.q,0,none⟩ v'):=by
 obtain⟨n1,n2,n3⟩:=h.nP;have nC:=fun g hg=>h.nC (g:=g) hg
 have nI:=fun g hg=>h.nI (g:=g) hg
 have lq:=bX h.tq;have lp:=bX h.tp;have f1:Fr (fun k=>k=L.m) (fun k=>k=L.m) w w1:=⟨h1.os,h1.tape,h1.output,h1.size,fun k hk hn=>h1.block k hk (fun e=>hn (zx e)),fun _ q => .inl q⟩;have f2:Fr (fun k=>k=L.m\/xX L.vC k) (fun k=>k=L.m\/xX v' k) w w2:=by
  have a:=f1.wide (G:=fun k=>k=L.m\/xX L.vC k) (fun _ q => .inl q);exact⟨h2.os.trans a.os,h2.tape.trans a.tape,h2.output.trans a.output,zY a.size h2.size,fun k hk hn=>(h2.keep k (zg hk a.size) (fun q=>hn (.inr q))).trans (a.keep k hk hn),fun k q=>q.elim (fun q => .inl (.inl q)) (fun q=>(h2.fp k q).imp .inr (zY a.size))⟩
 have nq:¬(L.q=L.m\/xX L.vC L.q):=fun q=>q.elim n3 (fun q=>(nC _ q).2.1 rfl)
 have np:¬(p=L.m\/xX L.vC p):=fun q=>q.elim n2 (fun q=>(nC _ q).1 rfl)
 have lv:∀ g,xX v' g->xX L.vC g\/w.heap.size<=g:=fun g hg=>(h2.fp g hg).imp id (zY f1.size)
 have cq:=f2.cell h.q0 nq;have nv:¬xX v' L.q:=fun q=>(lv _ q).elim (fun q=>(nC _ q).2.1 rfl) (by omega)
 have f3:Fr (fun k=>k=L.m\/xX L.vC k\/k=L.q) (fun k=>k=L.m\/xX L.vC k\/k=L.q) w (w2.setCell ⟨L.q,0,none⟩ v'):=(f2.wide (fun _ q=>q.elim .inl (fun q => .inr (.inl q)))).set _ (.inl (.inr (.inr rfl)));have Tp:¬(p=L.m\/xX L.vC p\/p=L.q):=fun q=>q.elim n2 (fun q=>q.elim (fun q=>(nC _ q).1 rfl) n1)
 have nI3:∀ g,xX L.vI g->¬(g=L.m\/xX L.vC g\/g=L.q):=fun g hg q=>q.elim (nI g hg).2.2 (fun q=>q.elim (fun q=>(nC _ q).2.2.2 hg) (nI g hg).2.1)
 have FR:Fr (L.has p) (dE.has { L with vC:=v' } p) w (w2.setCell ⟨L.q,0,none⟩ v'):=by
  refine(f3.wide (G:=L.has p) (fun k hk=>by rcases hk with hk|hk|hk;exact .inr (.inr (.inl hk));exact .inr (.inr (.inr (.inl hk)));exact .inr (.inl hk))).tg fun k hk=>?_
  rcases hk with hk|hk|hk|hk|hk|hk
  ·exact .inl (.inl hk)
  ·exact .inl (.inr (.inl hk))
  ·exact .inl (.inr (.inr (.inl hk)))
  ·exact(lv k hk).imp (fun q => .inr (.inr (.inr (.inl q)))) id
  ·exact .inl (.inr (.inr (.inr (.inr (.inl hk)))))
  ·exact .inl (.inr (.inr (.inr (.inr (.inr hk)))))
 refine⟨{ L with vC:=v' },⟨f3.cell h.p0 Tp,f3.cell h.p1 Tp,f3.cell h.p2 Tp,u9 cq _,?_,?_,fun j=>(f3.frozen lp Tp).trans (h.zp j),fun j=>?_,(uE (f3.keep p lp Tp)).trans h.tp,?_,?_,?_,f3.own h.cI nI3,h.rows.fr f3 ?_,h.low rfl FR⟩,⟨rfl,rfl⟩,FR⟩
 ·rw[xf,if_neg (by simp)];exact f2.cell h.q1 nq
 ·rw[xf,if_neg (by simp)];exact f2.cell h.q2 nq
 ·rw[z8];exact(f2.frozen lq nq).trans (h.zq j)
 ·rw[Xi];exact(uE (f2.keep _ lq nq)).trans h.tq
 ·have jC:kP 3 w2 L.m (s.cs.length+1) (fun x=>if t=x then some s.cs.length else kg s.cs x):=hm.fr h2 (fun q=>(nC _ q).2.2.1 rfl);rw[KY ht] at jC;have:=jC.keep (w':=w2.setCell ⟨L.q,0,none⟩ v') (zV _ _ _ _ (fun e=>n3 e.symm));simpa using this
 ·have:=ownsRow_setCell_other hC (a:=⟨L.q,0,none⟩) nv v';simpa using this
 ·intro k hk;rcases hk with rfl|hk|rfl
  ·rw[Y7 h.mp];simp
  ·rw[jd h.cC hk];simp
  ·rw[h.tq];simp
theorem Xl(p:Nat)(L:dE)(s:MkS)(t:Wd)(w:World)(h:uz p L s w)(ht:t.length<=5000000)(hl:s.cs.length<=1000000) :
  Calls prog 160 #[.pointer (some ⟨p,0,none⟩),xk t] w fun e w'=>e = .returned (.int .i64 (s.num t:Nat))/\∃ L',uz p L' (s.const t) w'/\(L'.q=L.q/\L'.B=L.B)/\Fr (L.has p) (L'.has p) w w':=by
 have HH:=z7 h;have p0:=h.p0;have p2:=h.p2;have q0:=h.q0;have V4:=h.mp.look QI t ht;by_cases dI:t∈s.cs
 ·rw[show kg s.cs t=some (s.num t) from if_pos dI] at V4;have HC:=z7 (show s.const t=s from if_pos dI);clear h dI;go_enter func160,ntmps160;go_wp2;go_ret;rw[HC.out];exact⟨rfl,L,HH.out,⟨rfl,rfl⟩,Fr.refl _ _⟩
 ·rw[show kg s.cs t=none from if_neg dI] at V4;have HC:=z7 (show s.const t={ s with cs:=s.cs++[t] } from if_neg dI);have HN:=z7 (show s.num t=s.cs.length from List.idxOf_eq_length dI);obtain⟨w1,Yt,Xm,Yo⟩:=h.mp.put QI t ht (s.cs.length:Nat) s.cs.length rfl (by omega) (by omega);obtain⟨n,hn⟩:∃ n,s.cs.length=n:=⟨_,rfl⟩;have HIN:=z7 dI;have p01:=Yo.cell p0 (fun e=>h.nP.2.1 (zx e));have q01:=Yo.cell q0 (fun e=>h.nP.2.2 (zx e));have xV:w1.ownsRow 0 9 1 L.vC s.cs.length (s.cs.map xk):=h.cC.kept Yo (by
   cases hv:L.vC.ownBlock with
   | none=>exact .inl rfl
   | some g=>exact .inr (fun e=>(h.nC hv).2.2.1 (zx e)))
  obtain⟨ca,cc,hvC⟩:=xZ xV;rw[hn] at Yt Xm xV hvC;rw[hvC] at q0 q01 xV;clear h dI;go_enter func160,ntmps160;go_wp2_with fail;refine rk (fun W':World=>W'.cell? ⟨p,0,none⟩=some (.pointer (some ⟨L.q,0,none⟩))/\W'.cell? ⟨L.q,0,none⟩=some (.slice ca n cc)) 16 [0,1,2,3,4,5,6,7,8,9,10,11] 5 ⟨p01,q01⟩ ?_;(iterate 12 (refine ty ?_;try simp only[pl]))
  refine xq ?_;refine xI 12 (by kernel_rfl) rfl (fun J hJ=>?_);go_simp;refine hJ.out _ _ ⟨xQ p01 _,xQ q01 _⟩ fun _=>?_
  clear hJ J;refine xI 13 (by kernel_rfl) rfl (fun J hJ=>?_);rw[if_pos (by rfl)];change Oper.wp _ _ _ (w1.drew.alloc (.cells [_].toArray _)) _ _
  refine Yr kN [_] 1 (by exact xV) (by omega) ?_;intro v2 w2 QZ vG;have vG:=vG.und;rw[←hvC] at vG;have HH2:=z7 vG;have p02:=vG.cell p01 (fun q=>(HH.out.nC q).1 rfl);have q02:=vG.cell q01 (fun q=>(HH.out.nC q).2.1 rfl);have z2:=(vG.frozen (zy _ _ q01) (fun q=>(HH.out.nC q).2.1 rfl)).trans ((World.frozen?_of_block (Yo.block L.q (zy _ _ q0) (fun e=>HH.out.nP.2.2 (zx e)))).trans (HH.out.zq 0));rw[←hn] at QZ Xm;have HX:=z7 (HH.out.more HIN.out Xm Yo QZ vG);rw[hn] at QZ;obtain⟨a2,c2,rfl⟩:=xZ QZ;clear QZ vG Xm hvC xV;go_simp;refine hJ.out _ _ ⟨p02,q02⟩ fun _=>?_
  clear hJ J;refine kx [14,15] 1 rfl (by intro _ _ d _ _ h;cases d<;>exact h) (by kernel_rfl) (by kernel_rfl) ⟨p02,q02⟩ ?_;(iterate 2 (refine ty ?_;try simp only[pl]))
  refine xq ?_;refine xw 16 (by kernel_rfl) (by kernel_rfl) rfl (fun J hJ=>?_);go_simp;refine hJ.out _ _ ?_;clear hJ J;refine vz (by kernel_rfl) ?_ _;go_wp2;go_ret;rw[HC.out,HN.out,hn];exact⟨rfl,HX.out⟩
structure kR(w:World)(p:Nat)(i:Nat)(b c:Nat):Prop where
 pb:w.cell? ⟨b,0,none⟩=some (.pointer (some ⟨p,0,none⟩))
 pc:w.cell? ⟨c,0,none⟩=some (.int .i64 (i:Nat))
 tb:Vj w b=some 184
 tc:Vj w c=some 3
abbrev bV(b c:Nat):Value := .func (.func 123) #[] #[.pointer (some ⟨b,0,none⟩),.pointer (some ⟨c,0,none⟩)]
theorem qq.zg6{w:World}{v:Value}{l:List Nat}(h:qq w v l):gU w v l:=by
 rcases h.2 with⟨rfl,hn⟩|⟨g,cap,cur,rfl,_,hh,tM,jG,dJ,ht⟩
 ·exact⟨none,0,by rw[hn],by omega,Nat.zero_le _,fun j hj=>by omega⟩
 ·refine⟨_,cap,rfl,tM,jG,fun j hj=>⟨_,rfl,?_⟩⟩;rw[ur,World.ownsRow.cellAt h j (by omega)];simp[Z2,hj]
theorem uz.zg7{p:Nat}{L:dE}{s:MkS}{w w2:World}{i:jf}{kv tv v':Value}(h:uz p L s w)(hk:qq w kv i.k)(ht:qq w tv i.tg)(nk:∀ g,xX kv g->¬L.has p g)(nt:∀ g,xX tv g->¬L.has p g)(nn:∀ g,xX tv g->¬xX kv g)
  (lk:∀ g,xX kv g\/xX tv g->L.B<=g) (ho:w2.ownsRow 0 128 5 v' (s.code.length+1) (dH s.code L.rs++Fc i (kv,tv))) (h2:Fr (xX L.vI) (xX v') w w2) :
  ∃ L',uz p L' { s with code:=s.code++[i] } (w2.setCell ⟨L.q,1,none⟩ v')/\(L'.q=L.q/\L'.B=L.B)/\Fr (fun g=>L.has p g\/xX kv g\/xX tv g) (L'.has p) w (w2.setCell ⟨L.q,1,none⟩ v'):=by
 obtain⟨n1,n2,n3⟩:=h.nP;have nC:=fun g hg=>h.nC (g:=g) hg
 have nI:=fun g hg=>h.nI (g:=g) hg
 have lq:=bX h.tq;have lp:=bX h.tp;have nq:¬xX L.vI L.q:=fun q=>(nI _ q).2.1 rfl
 have nv:¬xX v' L.q:=fun q=>(h2.fp _ q).elim nq (by omega)
 have f3:Fr (fun k=>xX L.vI k\/k=L.q) (fun k=>xX L.vI k\/k=L.q) w (w2.setCell ⟨L.q,1,none⟩ v'):=(h2.wide (fun _ q => .inl q)).set _ (.inl (.inr rfl));have Tp:¬(xX L.vI p\/p=L.q):=fun q=>q.elim (fun q=>(nI _ q).1 rfl) n1
 have nC3:∀ g,xX L.vC g->¬(xX L.vI g\/g=L.q):=fun g hg q=>q.elim (nC g hg).2.2.2 (nC g hg).2.1
 have FR:Fr (fun g=>L.has p g\/xX kv g\/xX tv g) (dE.has { L with vI:=v',rs:=L.rs++[(kv,tv)] } p) w (w2.setCell ⟨L.q,1,none⟩ v'):=by
  refine(f3.wide (G:=fun g=>L.has p g\/xX kv g\/xX tv g) (fun k hk=>by rcases hk with hk|hk;exact .inl (.inr (.inr (.inr (.inr (.inl hk)))));exact .inl (.inr (.inl hk)))).tg fun k hk=>?_
  rcases hk with hk|hk|hk|hk|hk|⟨r,hr,hk⟩
  ·exact .inl (.inl (.inl hk))
  ·exact .inl (.inl (.inr (.inl hk)))
  ·exact .inl (.inl (.inr (.inr (.inl hk))))
  ·exact .inl (.inl (.inr (.inr (.inr (.inl hk)))))
  ·exact(h2.fp k hk).imp (fun q => .inl (.inr (.inr (.inr (.inr (.inl q)))))) id
  ·rcases List.mem_append.1 hr with hr|hr
   ·exact .inl (.inl (.inr (.inr (.inr (.inr (.inr ⟨r,hr,hk⟩))))))
   ·simp at hr;subst hr;exact .inl (.inr hk)
 have hI3:∀ k,(xX L.vI k\/k=L.q)->Vj w k≠some 3:=by
  rintro k (hk|rfl)
  ·rw[jd h.cI hk];simp
  ·rw[h.tq];simp
 have hlen:=h.rows.len;refine⟨{ L with vI:=v',rs:=L.rs++[(kv,tv)] },⟨f3.cell h.p0 Tp,f3.cell h.p1 Tp,f3.cell h.p2 Tp,?_,u9 (h2.cell h.q1 nq) _,?_,fun j=>(f3.frozen lp Tp).trans (h.zp j),fun j=>?_,(uE (f3.keep p lp Tp)).trans h.tp,?_,h.mp.fr f3 (fun q=>q.elim (fun q=>(nI _ q).2.2 rfl) (fun e=>n3 e.symm)),f3.own h.cC nC3,?_,⟨by simp[hlen],?_,?_⟩,?_⟩,⟨rfl,rfl⟩,FR⟩
 ·rw[xf,if_neg (by simp)];exact h2.cell h.q0 nq
 ·rw[xf,if_neg (by simp)];exact h2.cell h.q2 nq
 ·rw[z8];exact(h2.frozen lq nq).trans (h.zq j)
 ·rw[Xi];exact(uE (h2.keep _ lq nq)).trans h.tq
 ·have:=ownsRow_setCell_other ho (a:=⟨L.q,1,none⟩) nv v';rw[EE _ _ _ _ hlen];simpa using this
 ·have h0:=h.rows.fr f3 hI3;intro n j r e1 e2;by_cases hn:n<s.code.length
  ·rw[zu hn] at e1;rw[zu (by omega)] at e2;exact h0.k n j r e1 e2
  ·have dy:n=s.code.length:=by have:=(zf.1 e1).1;simp at this;omega
   rw[dy,zv (zX _)] at e1;rw[dy,zv (by omega),hlen] at e2;simp at e1 e2;subst e1 e2;exact⟨f3.own hk (fun g hg q=>hI3 g q (jd hk hg)),f3.own ht (fun g hg q=>hI3 g q (jd ht hg))⟩
 ·intro n m r r' e1 e2 g hg;have OV:∀ n (r:Value×Value),(L.rs++[(kv,tv)])[n]? = some r->(n<L.rs.length/\L.rs[n]? = some r)\/(n=L.rs.length/\r=(kv,tv)):=fun n r e=>by
   by_cases hn:n<L.rs.length
   ·exact .inl ⟨hn,by rwa [zu hn] at e⟩
   ·have dy:n=L.rs.length:=by have:=(zf.1 e).1;simp at this;omega
    rw[dy,zv (zX _)] at e;simp at e;exact .inr ⟨dy,e.symm⟩
  rcases OV n r e1 with⟨a1,a2⟩|⟨a1,rfl⟩<;>rcases OV m r' e2 with⟨b1,b2⟩|⟨b1,rfl⟩
  ·exact h.rows.ne n m r r' a2 b2 g hg
  ·have hh:L.has p g := .inr (.inr (.inr (.inr (.inr ⟨r,zk a2,.inr hg⟩))));exact⟨fun q=>nk g q hh,fun q=>absurd hh (nt g q)⟩
  ·have hh:∀ x,(xX r'.1 x\/xX r'.2 x)->L.has p x:=fun x hx => .inr (.inr (.inr (.inr (.inr ⟨r',zk b2,hx⟩))))
   exact⟨fun q=>nt g hg (hh g (.inl q)),fun q=>absurd (hh g (.inr q)) (nt g hg)⟩
  ·exact⟨nn g hg,fun _=>by omega⟩
 ·intro k hk;have:=h.base;exact(FR.fp k hk).elim (fun q=>q.elim (h.lo k) (lk k)) (fun q=>by show L.B<=k;omega)
theorem uz.setPos{p:Nat}{L:dE}{s:MkS}{w:World}(h:uz p L s w)(n:Nat):uz p L { s with pos:=n } (w.setCell ⟨p,1,none⟩ (.int .i64 n))/\Fr (L.has p) (L.has p) w (w.setCell ⟨p,1,none⟩ (.int .i64 n)):=by
 obtain⟨n1,n2,n3⟩:=h.nP;have f3:Fr (fun k=>k=p) (fun k=>k=p) w (w.setCell ⟨p,1,none⟩ (.int .i64 n)):=(Fr.refl _ _).set _ (.inl rfl);refine⟨⟨?_,u9 h.p1 _,?_,f3.cell h.q0 (fun e=>n1 e.symm),f3.cell h.q1 (fun e=>n1 e.symm),f3.cell h.q2 (fun e=>n1 e.symm),fun j=>by rw[z8];exact h.zp j,fun j=>by rw[z8];exact h.zq j,by rw[Xi];exact h.tp,by rw[Xi];exact h.tq,
  h.mp.fr f3 (fun e=>n2 e.symm),f3.own h.cC (fun g hg=>(h.nC hg).1),f3.own h.cI (fun g hg=>(h.nI hg).1),h.rows.fr f3 (by rintro k rfl;rw[h.tp];simp),h.lo⟩,f3.wide (by rintro k rfl;exact .inl rfl)⟩
 ·rw[xf,if_neg (by simp)];exact h.p0
 ·rw[xf,if_neg (by simp)];exact h.p2
theorem Pt(w:World)(x y:Value)(l:List Value)(t1 t2 t3:TypeId):∃ W,W=((w.alloc (.cells #[x] t1)).alloc (.cells l.toArray t2)).alloc (.cells #[y] t3)/\Fr xN xN w W/\W.heap.size=w.heap.size+3/\W.cell? ⟨w.heap.size,0,none⟩=some x/\(∀ j,W.cell? ⟨w.heap.size+1,j,none⟩=l[j]?)/\W.cell? ⟨w.heap.size+2,0,none⟩=some y/\Vj W w.heap.size=some t1/\Vj W (w.heap.size+2)=some t3:=by
 have e1:(w.alloc (.cells #[x] t1)).heap.size=w.heap.size+1:=by simp
 have e2:((w.alloc (.cells #[x] t1)).alloc (.cells l.toArray t2)).heap.size=w.heap.size+2:=by simp
 refine⟨_,rfl,(((Fr.refl _ _).alloc _).alloc _).alloc _,by simp,xQ (xQ (xu w #[x] t1 (0,0) 0) _) _,fun j=>?_,by rw[←e2];exact xu _ #[y] t3 (0,0) 0,?_,by rw[←e2];exact Ud _ _ _⟩
 ·rw[World.cell?_alloc_lt _ _ _ (by rw[e2];show w.heap.size+1<_;omega),←e1,xu];simp
 ·rw[uE (zI _ _ _ (by rw[e2];omega)),uE (zI _ _ _ (by rw[e1];omega))];exact Ud _ _ _
theorem dL(p:Nat)(L:dE)(s:MkS)(op v:Nat)(k tg:List Nat)(kv tv:Value)(w:World)(h:uz p L s w)(hk:qq w kv k)(ht:qq w tv tg)(nk:∀ g,xX kv g->¬L.has p g)(nt:∀ g,xX tv g->¬L.has p g)(nn:∀ g,xX tv g->¬xX kv g)
  (lk:∀ g,xX kv g\/xX tv g->L.B<=g) (ho:OY ⟨op,s.pos,v,k,tg⟩) (hF:jc w) (hB:2<L.B) (hl:s.code.length<=1000000) (hp:s.pos<=1000000) (hx:(uU ⟨op,s.pos,v,k,tg⟩).length<=1000000) :
  Calls prog 81 #[.pointer (some ⟨p,0,none⟩),.agg #[.int .i64 (op:Nat),.int .i64 0,.int .i64 (v:Nat),kv,tv]] w fun e w'=>∃ b c,e = .returned (bV b c)/\kR w' p s.code.length b c/\w.heap.size<=b/\w.heap.size<=c /\
   ∃ L',uz p L' (s.put op v k tg) w'/\(L'.q=L.q/\L'.B=L.B)/\Fr (fun g=>L.has p g\/xX kv g\/xX tv g) (L'.has p) w w'/\¬L'.has p b/\¬L'.has p c:=by
 have HH:=z7 h;have HK:=z7 hk;have HT:=z7 ht;have HO:=z7 ho;have HF:=z7 hF;have HX:=z7 hx;have p0:=h.p0;have p1:=h.p1;have q0:=h.q1;have lp:=zy _ _ p0;obtain⟨n,hn⟩:∃ n,s.code.length=n:=⟨_,rfl⟩;obtain⟨pos,je⟩:∃ pos,s.pos=pos:=⟨_,rfl⟩;have xV:=h.cI;rw[hn] at xV;obtain⟨ia,ic,JP⟩:=xZ xV;rw[JP] at q0 xV;obtain⟨ka,kc,rfl⟩:=xZ hk;obtain⟨ta,tc,rfl⟩:=xZ ht;obtain⟨kn,DJ⟩:∃ kn,k.length=kn:=⟨_,rfl⟩;obtain⟨tn,lb⟩:∃ tn,tg.length=tn:=⟨_,rfl⟩;rw[DJ] at HK nk nn lk ⊢;rw[lb] at HT nt nn lk ⊢;rw[je] at p1;have HN:=z7 hn;have HP:=z7 je;have lq:=zy _ _ q0;have Fe:n<=1000000:=by rw[←hn];exact hl
 have Ub:pos<=1000000:=by rw[←je];exact hp
 obtain⟨N,hN⟩:∃ N,w.heap.size=N:=⟨_,rfl⟩;have p0a:=fun o o2=>xQ (xQ p0 o) o2
 have p1a:=fun o o2=>xQ (xQ p1 o) o2
 have q0a:=fun o o2=>xQ (xQ q0 o) o2
 clear h hk ht ho hF hx hn je;go_enter func81,ntmps81;go_wp2_with fail;obtain⟨W1,VD,f1,s1,b0,e0,c0,y1,y2⟩:=Pt w (.pointer (some ⟨p,0,none⟩)) (.int .i64 n) [.int .i64 op,.int .i64 pos,.int .i64 v,.slice ka kn kc,.slice ta tn tc] 184 128 3;rw[←VD];rw[hN] at s1 b0 e0 c0 y1 y2;have HY:=z7 (And.intro y1 y2);clear y1 y2;have p0:=f1.cell p0 id;have q0:=f1.cell q0 id;have Uz:=z7 f1;have gQ:=z7 s1;have HW1:=z7 (fun g (hg:g<N)=>f1.keep g (by rw[hN];exact hg) id);have i0:=e0 0;have i1:=e0 1;have i2:=e0 2;have i3:=e0 3;have i4:=e0 4;simp at i0 i1 i2 i3 i4;clear VD;refine rk (fun W':World=>W'.cell? ⟨p,0,none⟩=some (.pointer (some ⟨L.q,0,none⟩))/\W'.cell? ⟨L.q,1,none⟩=some (.slice ia n ic)/\W'.cell? ⟨N,0,none⟩=some (.pointer (some ⟨p,0,none⟩))/\W'.cell? ⟨N+1,0,none⟩=some (.int .i64 op)/\W'.cell? ⟨N+1,1,none⟩=some (.int .i64 pos)/\W'.cell? ⟨N+1,2,none⟩=some (.int .i64 v)/\W'.cell? ⟨N+1,3,none⟩=some (.slice ka kn kc)/\W'.cell? ⟨N+1,4,none⟩=some (.slice ta tn tc)) 16 [0,1,2,3,4,5,6,7,8,9,10,11] 5 ⟨p0,q0,b0,i0,i1,i2,i3,i4⟩ ?_;(iterate 12 (refine ty ?_;try simp only[pl]))
 refine xq ?_;refine xI 12 (by kernel_rfl) rfl (fun J hJ=>?_);go_simp;refine hJ.out _ _ ⟨xQ p0 _,xQ q0 _,xQ b0 _,xQ i0 _,xQ i1 _,xQ i2 _,xQ i3 _,xQ i4 _⟩ fun _=>?_
 clear hJ J;refine xI 13 (by kernel_rfl) rfl (fun J hJ=>?_);rw[if_pos (by rfl)];rw[show N+3=W1.heap.size from s1.symm];change Oper.wp _ _ _ (W1.drew.alloc (.cells [_,_,_,_,_].toArray _)) _ _
 refine Yr To [_,_,_,_,_] 1 ((f1.own xV (fun _ _=>id):W1.drew.ownsRow _ _ _ _ _ _)) (by omega) ?_;intro v2 w2 QZ vG;have vG:=vG.und;rw[←JP] at vG;have Tr:=HH.out.fr f1 (fun _ q=>q.elim);have EI:qq W1 (.slice ka kn kc) k/\qq W1 (.slice ta tn tc) tg:=⟨f1.own HK.out (fun _ _=>id),f1.own HT.out (fun _ _=>id)⟩;have nI:∀ g,xX L.vI g->g<N/\g≠p/\g≠L.q:=fun g hg=>⟨by rw[←hN];exact uS HH.out.cI hg,(HH.out.nI hg).1,(HH.out.nI hg).2.1⟩
 have nb:∀ j,N<=j->¬xX L.vI j:=fun j hj q=>by have:=(nI j q).1;omega
 have p0:=vG.cell p0 (fun q=>(nI _ q).2.1 rfl);have q0:=vG.cell q0 (fun q=>(nI _ q).2.2 rfl);have b0:=vG.cell b0 (nb N (zX _));have i0:=vG.cell i0 (nb (N+1) (by omega));have i1:=vG.cell i1 (nb (N+1) (by omega));have i2:=vG.cell i2 (nb (N+1) (by omega));have i3:=vG.cell i3 (nb (N+1) (by omega));have i4:=vG.cell i4 (nb (N+1) (by omega));have c0:=vG.cell c0 (nb (N+2) (by omega));have zq:=(vG.frozen (a:=⟨L.q,1,none⟩) (bX Tr.tq) (fun q=>(nI _ q).2.2 rfl)).trans (Tr.zq 1);have BS:=z7 (show qq w2 (.slice ka kn kc) k/\qq w2 (.slice ta tn tc) tg from⟨vG.own EI.1 (fun g hg q=>nk g hg (.inr (.inr (.inr (.inr (.inl q)))))),vG.own EI.2 (fun g hg q=>nt g hg (.inr (.inr (.inr (.inr (.inl q))))))⟩);have HM:=z7 (Tr.zg7 (i:=⟨op,s.pos,v,k,tg⟩) EI.1 EI.2 nk nt nn lk (by rw[HN.out,HP.out];exact QZ) vG);have dY:=z7 vG;obtain⟨a2,c2,rfl⟩:=xZ QZ;clear QZ vG xV EI f1 Tr;go_simp;refine hJ.out _ _ ⟨p0,q0,b0,i0,i1,i2,i3,i4⟩ fun _=>?_
 clear hJ J;refine kx [14,15] 1 rfl (by intro _ _ d _ _ h;cases d<;>exact h) (by kernel_rfl) (by kernel_rfl) ⟨p0,q0,b0,i0,i1,i2,i3,i4⟩ ?_;(iterate 2 (refine ty ?_;try simp only[pl]))
 refine xq ?_;refine xw 16 (by kernel_rfl) (by kernel_rfl) rfl (fun J hJ=>?_);go_simp;refine hJ.out _ _ ?_;clear hJ J;refine vz (by kernel_rfl) ?_ _;obtain⟨L2,jC,⟨j4,Ki⟩,jw⟩:=HM.out;obtain⟨W3,j6⟩:∃ W3,w2.setCell ⟨L.q,1,none⟩ (.slice a2 (n+1) c2)=W3:=⟨_,rfl⟩;have kp:∀ {a:Addr} {u:Value},w2.cell? a=some u->a.block≠L.q->W3.cell? a=some u:=fun hc hn=>by rw[←j6];exact ub hc _ (fun e=>hn e.symm)
 rw[j6] at jC jw ⊢;have p0:=jC.p0;have p1:W3.cell? ⟨p,1,none⟩=some (.int .i64 pos):=by have:=jC.p1;rw[show s.pos=pos from HP.out] at this;exact this
 have qN:L.q<N:=by rw[←hN];exact lq
 have b0:=kp b0 (show N≠L.q by omega);have c0:=kp c0 (show N+2≠L.q by omega);have i0:=kp i0 (show N+1≠L.q by omega);have i1:=kp i1 (show N+1≠L.q by omega);have i2:=kp i2 (show N+1≠L.q by omega);have i3:=kp i3 (show N+1≠L.q by omega);have i4:=kp i4 (show N+1≠L.q by omega);have s3:N+3<=W3.heap.size:=zy _ _ c0;have JR:∀ g,g<L.B->W3.heap[g]? = w.heap[g]? := fun g hg=>by
  rw[←j6,zV _ _ _ _ (by show g≠L.q;have:=HH.out.lo L.q (.inr (.inl rfl));omega)];have:=HH.out.base;rw[hN] at this;exact(dY.out.keep g (by omega) (fun q=>by have:=HH.out.lo g (.inr (.inr (.inr (.inr (.inl q)))));omega)).trans (HW1.out g (by omega))
 have tN:jc W3:=fun o ho=>(World.cell?_of_block (JR _ hB)).trans (HF.out o ho)
 have hia:pT W3.drew (N+1) 0 ⟨op,pos,v,k,tg⟩ (.slice ka kn kc) (.slice ta tn tc):=by
  refine⟨i0,i1,i2,i3,i4,qq.zg6 ?_,qq.zg6 ?_⟩
  ·show qq W3 _ _;rw[←j6];exact ownsRow_setCell_other BS.out.1 (fun e=>nk _ e (.inr (.inl rfl))) _
  ·show qq W3 _ _;rw[←j6];exact ownsRow_setCell_other BS.out.2 (fun e=>nt _ e (.inr (.inl rfl))) _
 have dI:∀ g,(xX (.slice ka kn kc) g\/xX (.slice ta tn tc) g)->g<W3.heap.size:=fun g hg=>by
  have:g<N:=by rw[←hN];exact hg.elim (uS HK.out) (uS HT.out)
  omega
 have hio:OY ⟨op,pos,v,k,tg⟩:=by have:=HO.out;rw[show s.pos=pos from HP.out] at this;exact this
 have lX:=HX.out;rw[show s.pos=pos from HP.out] at lX;have HAP:=z7 (Lh (N+1) 0 ⟨op,pos,v,k,tg⟩ _ _ (.slice none 0 0) [] W3.drew hia hio (zF _ _ _ _) (fun q=>by cases q) (fun g hg=>⟨dI g (.inl hg),fun q=>by cases q⟩) (fun g hg=>⟨dI g (.inr hg),fun q=>by cases q⟩) tN (fun q=>by cases q) (by simp only[zM];omega));obtain⟨X,hX⟩:∃ X,uU ⟨op,pos,v,k,tg⟩=X:=⟨_,rfl⟩;rw[zM,hX] at HAP;rw[hX] at lX;have HXX:=z7 hX;have Y8:=z7 jC;have VB:=z7 jw;clear hia dI hio JR j6 jC jw hX kp i0 i1 i2 i3 i4;go_wp2_with fail;refine rk (fun W':World=>W'.cell? ⟨p,1,none⟩=some (.int .i64 pos)/\W'.cell? ⟨N,0,none⟩=some (.pointer (some ⟨p,0,none⟩))) 9 [0,1,2,3] 6 ⟨p1,b0⟩ ?_;(iterate 4 (refine ty ?_;try simp only[pl]))
 refine xq ?_;refine xI 4 (by kernel_rfl) rfl (fun J hJ=>?_);go_simp;refine HAP.out.mono ?_;rintro e W4 ⟨v4,rfl,DG,Vg⟩;have Vg:=Vg.und;obtain⟨a4,c4,rfl⟩:=xZ DG;have p1:=Vg.cell p1 (fun q=>by cases q);have b0:=Vg.cell b0 (fun q=>by cases q);have c0:=Vg.cell c0 (fun q=>by cases q);have KX:=Y8.out.fr Vg (fun _ q=>by cases q);refine hJ.out _ _ ⟨p1,b0⟩ fun _=>?_
 clear hJ J;refine kx [5,6,7,8] 1 rfl (by intro _ _ d _ _ h;cases d<;>exact h) (by kernel_rfl) (by kernel_rfl) ⟨p1,b0⟩ ?_;have zg8:IntKind.i64.wrap ((pos:Int)+(X.length:Int))=((pos+X.length:Nat):Int):=by simp[IntKind.wrap,IntKind.signed,IntKind.bits];omega
 (iterate 4 (refine ty ?_;try simp only[pl]))
 refine xq ?_;have zp:=KX.zp 1;refine xw 9 (by kernel_rfl) (by kernel_rfl) rfl (fun J hJ=>?_);go_simp;refine hJ.out _ _ ?_;clear hJ J;refine vz (by kernel_rfl) ?_ _;obtain⟨Jg,Jf⟩:=KX.setPos (pos+X.length);have Ph:=z7 Jg;have Pw:=z7 Jf;have Tt:=z7 Vg;have HM4:=z7 KX;have HN0:=z7 hN;have np:p<N:=by rw[←hN];exact lp
 have e9:((pos+X.length:Nat):Int)=(pos:Int)+(X.length:Int):=by omega
 rw[e9] at Ph Pw;obtain⟨W5,tB⟩:∃ W5,W4.setCell ⟨p,1,none⟩ (.int .i64 ((pos:Int)+(X.length:Int)))=W5:=⟨_,rfl⟩;have b5:W5.cell? ⟨N,0,none⟩=some (.pointer (some ⟨p,0,none⟩)):=by rw[←tB];exact ub b0 _ (by show p≠N;omega)
 have c5:W5.cell? ⟨N+2,0,none⟩=some (.int .i64 n):=by rw[←tB];exact ub c0 _ (by show p≠N+2;omega)
 rw[tB] at Ph Pw ⊢;clear Jg Jf Vg KX;clear tB hN;have R0:∀ (fn:Fn) (first cap:Array Value) (w:World),(Instr.makeFunc fn first cap).run prog w = .ok (.func fn first cap) w:=fun _ _ _ _=>rfl
 go_wp2;go_ret;have BP:∀ g,N<=g->g<N+3->¬L2.has p g:=fun g h1 h2 q=>by
  rcases VB.out.fp g q with(q|q|q)|q
  ·have:=HH.out.lt q;have:=HN0.out;omega
  ·have:=uS HK.out q;have:=HN0.out;omega
  ·have:=uS HT.out q;have:=HN0.out;omega
  ·have:=gQ.out;omega
 have LH:∀ g,N<=g->g<N+3->Vj W5 g=Vj W1 g:=fun g h1 h2=>by
  have l1:g<W1.heap.size:=by have:=gQ.out;omega
  have l3:g<W3.heap.size:=zg l1 VB.out.size;rw[uE (Pw.out.keep g (zg l3 Tt.out.size) (BP g h1 h2)),uE (Tt.out.keep g l3 (fun q=>by cases q)),uE (VB.out.keep g l1 (fun q=>?_))];have:=HN0.out;rcases q with q|q|q
  ·have:=HH.out.lt q;omega
  ·have:=uS HK.out q;omega
  ·have:=uS HT.out q;omega
 refine⟨N,N+2,rfl,⟨b5,by rw[HN.out];exact c5,(LH N (zX _) (by omega)).trans HY.out.1,(LH (N+2) (by omega) (by omega)).trans HY.out.2⟩,by have:=HN0.out;omega,by have:=HN0.out;omega,L2,?_,⟨j4,Ki⟩,(((Uz.out.wide (fun _ q=>q.elim)).trans VB.out).trans (Tt.out.wide (fun _ q=>by cases q))).trans Pw.out,BP N (zX _) (by omega),BP (N+2) (by omega) (by omega)⟩;have:=Ph.out;simp only[MkS.put];rw[show s.pos=pos from HP.out] at this ⊢;rw[show uU ⟨op,pos,v,k,tg⟩=X from HXX.out];exact this
theorem Th{w:World}{base:Nat}{e:TypeId}{size n g cap:Nat}{xs:List Value}(h:w.ownsRow base e size (.slice (some ⟨g,0,none⟩) n cap) n xs)(j:Nat)(u:Value) :
  (w.setCell ⟨g,j,none⟩ u).ownsRow base e size (.slice (some ⟨g,0,none⟩) n cap) n (xs.set j u):=by
 obtain⟨h1,h2⟩:=h;refine⟨by simp[h1],?_⟩;rcases h2 with⟨h2,_⟩|⟨g',vh,cur,hv,hg,hh,k1,k2,k3,k4⟩
 ·cases h2
 ·cases hv;have xC:=lt_of_block hh;have h':w.heap[g] = .cells cur e (0,0):=by simpa[zJ xC] using hh
  refine .inr ⟨g,cap,cur.setIfInBounds j u,rfl,hg,?_,k1,k2,by simp[k3],?_⟩
  ·show(w.heap.modify g _)[g]? = _;rw[zJ (by simpa using xC),Array.getElem_modify_self,h'];rfl
  ·rw[Array.toList_setIfInBounds,List.take_set,k4]
theorem uz.u7{p:Nat}{L:dE}{s:MkS}{w:World}{i j T n tc:Nat}{x:jf}{kv:Value}(h:uz p L s w)(hi:s.code[i]? = some x)(hr:L.rs[i]? = some (kv,.slice (some ⟨T,0,none⟩) n tc)) :
  uz p L (s.u7 i j) (w.setCell ⟨T,j,none⟩ (.int .i64 s.pos))/\Fr (L.has p) (L.has p) w (w.setCell ⟨T,j,none⟩ (.int .i64 s.pos)):=by
 obtain⟨hk,ht⟩:=h.rows.k i x _ hi hr;have tT:=jd ht (g:=T) rfl;have nx:∀ g t,Vj w g=some t->t≠3->g≠T:=fun g t hg vx e=>by rw[e,tT] at hg;exact vx (zx hg).symm
 have np:=nx p _ h.tp (by decide);have nq:=nx L.q _ h.tq (by decide);have nm:L.m≠T:=fun e=>by have:=Y7 h.mp;rw[e,tT] at this;cases this
 have f3:Fr (fun k=>k=T) (fun k=>k=T) w (w.setCell ⟨T,j,none⟩ (.int .i64 s.pos)):=(Fr.refl _ _).set _ (.inl rfl);have hn:n=x.tg.length:=by rcases ht.2 with⟨hv,_⟩|⟨g,cap,cur,hv,_⟩<;>cases hv;rfl
 refine⟨⟨f3.cell h.p0 np,f3.cell h.p1 np,f3.cell h.p2 np,f3.cell h.q0 nq,f3.cell h.q1 nq,f3.cell h.q2 nq,fun j=>by rw[z8];exact h.zp j,fun j=>by rw[z8];exact h.zq j,by rw[Xi];exact h.tp,by rw[Xi];exact h.tq,
  h.mp.fr f3 nm,f3.own h.cC (fun g hg=>nx g _ (jd h.cC hg) (by decide)),?_,⟨by simpa[MkS.u7] using h.rows.len,?_,h.rows.ne⟩,h.lo⟩,f3.wide (fun k hk=>?_)⟩
 ·have:=f3.own h.cI (fun g hg=>nx g _ (jd h.cI hg) (by decide));simp only[MkS.u7,List.length_modify];rw[show dH (s.code.modify i fun x=>{ x with tg:=x.tg.set j s.pos }) L.rs=dH s.code L.rs from EH s.code L.rs i (fun l=>l.set j s.pos)];exact this
 ·intro m y r e1 e2;simp only[MkS.u7] at e1;rw[List.getElem?_modify] at e1;by_cases hm:i=m
  ·subst hm;rw[hi] at e1;rw[hr] at e2;simp at e1 e2;subst e1 e2;refine⟨f3.own hk (fun g hg e=>(h.rows.ne i i _ _ hr hr T rfl).1 (e▸hg)),?_⟩;subst hn;have:=Th ht j (.int .i64 s.pos);have e:(Z2 x.tg).set j (.int .i64 (s.pos:Nat))=Z2 (x.tg.set j s.pos):=by simp[Z2,List.map_set]
   rw[e] at this;show World.ownsRow _ _ _ _ _ (x.tg.set j s.pos).length _;rw[List.length_set];exact this
  ·simp[hm] at e1;obtain⟨a,b⟩:=h.rows.k m y r e1 e2;exact⟨f3.own a (fun g hg e=>(h.rows.ne i m _ _ hr e2 T rfl).1 (e▸hg)),f3.own b (fun g hg e=>hm ((h.rows.ne i m _ _ hr e2 T rfl).2 (e▸hg)))⟩
 ·subst hk;exact .inr (.inr (.inr (.inr (.inr ⟨_,zk hr,.inr rfl⟩))))
def EL(p:Nat)(L:dE)(s:MkS)(w:World)(e:Ending)(w':World):Prop:=e = .returned (.tuple #[])/\uz p L s w'/\Fr (L.has p) (L.has p) w w'
theorem UZ(p:Nat)(L:dE)(s:MkS)(i j b c:Nat)(x:jf)(w:World)(h:uz p L s w)(hl:kR w p i b c)(hi:s.code[i]? = some x)(hj:j<x.tg.length)(Z0:s.code.length<=1000000)(Jd:x.tg.length<=1000000) :
  Calls prog 123 #[.int .i64 (j:Nat),.pointer (some ⟨b,0,none⟩),.pointer (some ⟨c,0,none⟩)] w (EL p L (s.u7 i j) w):=by
 have hil:=(zf.1 hi).1;obtain⟨⟨kv,tv⟩,hr⟩:∃ r,L.rs[i]? = some r:=⟨_,zZ (by have:=h.rows.len;omega)⟩;obtain⟨hk,ht⟩:=h.rows.k i x _ hi hr;obtain⟨T,tc,rfl,-,hT,gK⟩:=vU ht (by omega);obtain⟨I,ic,JP,-,hI,R1⟩:=vU h.cI (by omega);have p0:=h.p0;have p1:=h.p1;have q1:=h.q1;rw[JP] at q1;have b0:=hl.pb;have c0:=hl.pc;have t0:w.cell? ⟨I,i*5+4,none⟩=some (.slice (some ⟨T,0,none⟩) x.tg.length tc):=by
  rw[R1 _ (by omega),Uf _ _ h.rows.len i 4 x _ hi hr (by omega)];rfl
 have u0:w.cell? ⟨T,j,none⟩=some (.int .i64 (x.tg[j]:Nat)):=by
  rw[gK j (by omega)];simp[Z2,hj]
 have zT:w.frozen? ⟨T,j,none⟩=false:=by
  rcases ht.2 with⟨hv,_⟩|⟨g,cap,cur,hv,_,hh,_⟩
  ·cases hv
  ·cases hv;simp[World.frozen?,hh]
 have HM:=z7 (h.u7 (j:=j) hi hr);obtain⟨n,hn⟩:∃ n,s.code.length=n:=⟨_,rfl⟩;obtain⟨m,hm⟩:∃ m,x.tg.length=m:=⟨_,rfl⟩;obtain⟨pos,je⟩:∃ pos,s.pos=pos:=⟨_,rfl⟩;rw[hn] at q1 hil;rw[hm] at t0 hj;rw[je] at p1 HM;have k1:(i:Int)<(n:Int):=by omega
 have k2:(j:Int)<(m:Int):=by omega
 clear h hl hk ht gK R1 JP hi hr;go_enter func123,ntmps123;go_wp2_with fail;refine rk (fun W':World=>W'.cell? ⟨p,0,none⟩=some (.pointer (some ⟨L.q,0,none⟩))/\W'.cell? ⟨p,1,none⟩=some (.int .i64 pos)/\W'.cell? ⟨L.q,1,none⟩=some (.slice (some ⟨I,0,none⟩) n ic)/\W'.cell? ⟨b,0,none⟩=some (.pointer (some ⟨p,0,none⟩))/\W'.cell? ⟨c,0,none⟩=some (.int .i64 i)/\W'.cell? ⟨I,i*5+4,none⟩=some (.slice (some ⟨T,0,none⟩) m tc)) 17 (List.range 17) 1 ⟨p0,p1,q1,b0,c0,t0⟩ ?_;(iterate 17 (refine ty ?_;try simp only[pl]))
 refine xq ?_;refine xw 17 (by kernel_rfl) (by kernel_rfl) rfl (fun J hJ=>?_);go_simp;refine hJ.out _ _ ?_;clear hJ J;refine vz (by kernel_rfl) ?_ _;go_wp2;refine bodyPost_ret (v := .tuple #[]) ?_ rfl ?_
 ·simp[results,results123,go_sem]
 exact⟨rfl,HM.out.1.drew,HM.out.2.drew⟩
def MkS.sz(s:MkS):Nat:=s.code.length+s.cs.length+s.pos
def MkS.one(s:MkS)(op:Nat)(t:Wd):MkS:=(s.const t).put op 0 [s.num t] []
theorem vq(s:MkS)(t:Wd):(s.const t).sz<=s.sz+1/\(s.const t).code=s.code/\(s.const t).pos=s.pos:=by
 unfold MkS.const;split
 ·exact⟨by omega,rfl,rfl⟩
 ·exact⟨by simp[MkS.sz];omega,rfl,rfl⟩
theorem ji(s:MkS)(op v:Nat)(k tg:List Nat):(s.put op v k tg).sz=s.sz+1+(uU ⟨op,s.pos,v,k,tg⟩).length:=by simp[MkS.put,MkS.sz];omega
theorem gJ(s:MkS)(i j:Nat):(s.u7 i j).sz=s.sz:=by simp[MkS.u7,MkS.sz]
theorem BA(s:MkS)(t:Wd):s.num t<=s.cs.length:=List.idxOf_le_length
theorem Fr.tr{F F' G G':Nat->Prop}{w w1 w2:World}(h:Fr F F' w w1)(k:Fr G G' w1 w2)(hg:∀ q,G q->F q\/w.heap.size<=q):Fr F G' w w2 :=
 ⟨k.os.trans h.os,k.tape.trans h.tape,k.output.trans h.output,zY h.size k.size,fun i hi hn=>(k.keep i (zg hi h.size) (fun q=>(hg i q).elim hn (by omega))).trans (h.keep i hi hn),
  fun i hi=>(k.fp i hi).elim (hg i) (fun q => .inr (zY h.size q))⟩
theorem qq.lit(w:World)(l:List Nat)(hl:l.length<=1000000):qq (w.alloc (.cells (Z2 l).toArray 3)) (.slice (some ⟨w.heap.size,0,none⟩) l.length l.length) l:=by
 have h:=World.ownsRow_lit (base:=0) (e:=3) (size:=1) w (Z2 l).toArray l.length (Nat.zero_le _) (by unfold maxLen;omega) (by simp[Z2]);simpa using h
theorem qq.nil(w:World):qq w (.slice none 0 0) []:=zF _ _ _ _
theorem jc.fr{w w':World}{F F':Nat->Prop}{B:Nat}(h:jc w)(hf:Fr F F' w w')(hF:∀ k,F k->B<=k)(hB:2<B):jc w':=fun o ho=>hf.cell (h o ho) (fun q=>by have:=hF _ q;simp only at this;omega)
def MQ(p:Nat)(L:dE)(s:MkS)(w:World)(e:Ending)(w':World):Prop:=e = .returned (.tuple #[])/\MkQ p L s w w'
theorem Ba(p:Nat)(L:dE)(s:MkS)(op:Nat)(t:Wd)(w:World)(h:uz p L s w)(uC:op=1\/op=2\/op=3)(ht:t.length<=5000000)(hs:s.sz<=900000)(hF:jc w)(hB:2<L.B) :
  Calls prog 120 #[.pointer (some ⟨p,0,none⟩),.int .i64 (op:Nat),xk t] w (MQ p L (s.one op t) w):=by
 have qa:s.cs.length<=900000:=by unfold MkS.sz at hs;omega
 have HC:=z7 (Xl p L s t w h ht (by omega));have HH:=z7 h;have HF:=z7 hF;obtain⟨n,hn⟩:∃ n,s.num t=n:=⟨_,rfl⟩;have Zz:n<=900000:=by have:=BA s t;omega
 have HN:=z7 hn;rw[hn] at HC;obtain⟨z1,z2,z3⟩:=vq s t;have hlb:=h.base.2;clear h hF hn;go_enter func120,ntmps120;go_wp2_with fail;refine HC.out.mono ?_;rintro e w1 ⟨rfl,L1,Vf,⟨QL,Yh⟩,uq⟩;clear HC;have Fe:=qq.lit w1 [n] (by simp);have jC:=Vf.alloc (.cells (Z2 [n]).toArray 3);have hx:(uU ⟨op,(s.const t).pos,0,[n],[]⟩).length<=1000:=by rcases uC with rfl|rfl|rfl<;>simp[uU,gR,j8,kh]
 have HP:=z7 (dL p L1 (s.const t) op 0 [n] [] (.slice (some ⟨w1.heap.size,0,none⟩) 1 1) (.slice none 0 0) (w1.alloc (.cells (Z2 [n]).toArray 3)) jC Fe (qq.nil _) (fun g hg q=>by cases hg;exact Nat.lt_irrefl _ (Vf.lt q)) (fun g hg=>by cases hg) (fun g hg=>by cases hg)
  (fun g hg=>by rcases hg with hg|hg<;>cases hg;have:=Vf.base;show L1.B<=w1.heap.size;omega)
  ⟨by show op<12;omega,by simp,by simp;omega,by simp,by simp,by rcases uC with rfl|rfl|rfl<;>rfl⟩ ((HF.out.fr uq HH.out.lo hB).fr ((Fr.refl xN w1).alloc _) (fun _ q=>q.elim) hB) (by rw[Yh];exact hB) (by have:=z2;unfold MkS.sz at hs z1;omega) (by rw[z3];unfold MkS.sz at hs;omega) (by omega))
 go_wp2_with fail;refine HP.out.mono ?_;rintro e w2 ⟨b,c,rfl,hl,hb,hc,L2,KV,⟨j4,Ki⟩,vG,-,-⟩;clear HP;go_wp2;refine bodyPost_ret (v := .tuple #[]) ?_ rfl ?_
 ·simp[results,results120,go_sem]
 refine⟨rfl,L2,?_,⟨j4.trans QL,Ki.trans Yh⟩,(uq.alloc _).tr vG (fun q hq=>?_)⟩
 ·unfold MkS.one;rw[HN.out];exact KV
 ·rcases hq with hq|hq|hq
  ·exact uq.fp q hq
  ·cases hq;exact .inr uq.size
  ·cases hq
end Go.Proofs.YthpldolmpinnhaaGreatDoor
