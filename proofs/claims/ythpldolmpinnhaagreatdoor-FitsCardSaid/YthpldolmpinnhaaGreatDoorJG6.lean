import Derived.Test.YthpldolmpinnhaaGreatDoorJG5
import Derived.Maps.OwnSet
import Derived.Maps.Views
set_option maxHeartbeats 64000000
open Go.Lib renaming hid→z7
open Go.World renaming frozen?_setCell→z8,block_lt_of_cell?→zy,ownsRow_nil→zF
open Option.some renaming inj→zx
open List renaming getElem?_append_right→zv,getElem?_append_left→zu,mem_of_getElem?→zk,getElem?_eq_some_iff→zf,getElem?_eq_getElem→zZ,idxOf_append→zE,nil_append→zM
open Go.WideMaps renaming keyOf_string_mk→zj
open Nat renaming lt_of_lt_of_le→zg,le_trans→zY,le_refl→zX
open Go.RowKit.Below renaming heap_setCell→zV,heap_alloc→zI
open Go.Maps renaming string_keyed→zU
open Array renaming getElem?_eq_some_iff→zQ,getElem?_eq_getElem→zJ
open Go.DataW.lit renaming injEq→zG
open Go.WideAt renaming IsKeyLit→zD
open Go.IntKind renaming signed→zH,bits→zN
open Go.Lit.int renaming injEq→zL
open Go.Proofs.Tryz
namespace Go.Proofs.YthpldolmpinnhaaGreatDoor
open Go Go.RowKit
set_option maxRecDepth 10000
def j5(e:TypeId)(w:World)(b n:Nat)(f:Wd->Option Nat):Prop :=
 ∃ D:DataW Unit,w.ownsMap prog 9 (plainElem prog e) b n D/\Maps.IsMap D/\∀ m:Wd,Maps.has D (.string m)=(f m).isSome/\D.atKey (.string m) (.lit (.int .i64 0)) = .lit (.int .i64 (((f m).getD 0:Nat):Int))
structure SZ(t e:TypeId):Prop where
 map:prog.underlying t=some (.map 9 e)
 el:prog.underlying e=some (.int .i64)
 zero:∀ w,(zeroValue e).run prog w = .ok (.int .i64 0) w
theorem j5.keep{e:TypeId}{w w':World}{b n:Nat}{f:Wd->Option Nat}(h:j5 e w b n f)(hb:w'.heap[b]? = w.heap[b]?):j5 e w' b n f:=by
 obtain⟨D,h1,h2⟩:=h;obtain⟨es,clock,ho,rest⟩:=h1;exact⟨D,⟨es,clock,hb.trans ho,rest⟩,h2⟩
theorem j5.lt{e:TypeId}{w:World}{b n:Nat}{f:Wd->Option Nat}(h:j5 e w b n f):b<w.heap.size:=by
 obtain⟨D,⟨es,clock,ho,_⟩,_⟩:=h;exact(zQ.1 ho).1
theorem j5.below{e:TypeId}{w w':World}{b n:Nat}{f:Wd->Option Nat}(h:j5 e w b n f)(hb:Below w.heap.size w w'):j5 e w' b n f:=h.keep (hb.block b h.lt)
theorem j5.made(e:TypeId)(w:World):j5 e (w.alloc (.map #[] 0)) w.heap.size 0 (fun _=>none) :=
 ⟨.map [],World.ownsMap_made w _ _ _,⟨_,rfl⟩,fun m=>⟨rfl,rfl⟩⟩
section
variable {t e:TypeId}
theorem j5.look{w:World}{b n:Nat}{f:Wd->Option Nat}(T:SZ t e)(h:j5 e w b n f)(m:Wd)(hm:m.length<=5000000) :
  (Instr.lookup t (.map (some b)) (xg m) true).run prog w = .ok (.tuple #[.int .i64 (((f m).getD 0:Nat):Int),.bool (f m).isSome]) w:=by
 obtain⟨D,h1,h2,h3⟩:=h;obtain⟨v,ps,vH,hv⟩:=h1.look_ok (zU underlying9) T.map (z := .int .i64 0) (T.zero w) (plainElem_int T.el (by decide))
  (key:=xg m) (zj (s:=⟨m.toArray⟩) underlying9 (by rw[size_mk];unfold maxLen;omega))
 rw[toList_mk] at vH hv;rw[(h3 m).1] at vH;rw[(h3 m).2] at hv;obtain⟨c,rfl,hc,_⟩:=plainElem_int_inv T.el hv;simp only[Prod.mk.injEq,zG,zL] at hc;rw[vH,<-hc.1.2]
theorem j5.Kt{w:World}{b n:Nat}{f:Wd->Option Nat}(T:SZ t e)(h:j5 e w b n f)(m:Wd)(hm:m.length<=5000000) :
  (Instr.lookup t (.map (some b)) (xg m) false).run prog w = .ok (.int .i64 (((f m).getD 0:Nat):Int)) w:=by
 obtain⟨D,h1,h2,h3⟩:=h;obtain⟨c,vH,UO,_⟩:=h1.lookup_int (zU underlying9) T.map T.el (q := .i64) (T.zero w)
  (key:=xg m) (zj (s:=⟨m.toArray⟩) underlying9 (by rw[size_mk];unfold maxLen;omega))
 rw[toList_mk,(h3 m).2] at UO;simp only[zG,zL,true_and] at UO;rw[vH,<-UO]
theorem j5.put{w:World}{b n:Nat}{f:Wd->Option Nat}(T:SZ t e)(h:j5 e w b n f)(m:Wd)(hm:m.length<=5000000)(v:Int)(k:Nat)(hv:v=(k:Int))(hk:k<=1000000000)(hn:n<=1000000000) :
  ∃ w',(Instr.mapUpdate t (.map (some b)) (xg m) (.int .i64 v)).run prog w = .ok () w'/\j5 e w' b (n+1) (fun x=>if m=x then some k else f x)/\w.grownBy w' (some b):=by
 subst hv;obtain⟨D,h1,h2,h3⟩:=h;obtain⟨w',vH,xV,hg⟩:=h1.update (zU underlying9) T.map (by unfold maxLen;omega) (key:=xg m) (zj (s:=⟨m.toArray⟩) underlying9 (by rw[size_mk];unfold maxLen;omega))
  (plainElem_int T.el (q := .i64) (a:=(k:Int)) (by simp[Lit.wf,IntKind.min,IntKind.max,zH,zN];omega))
 rw[toList_mk] at xV;refine⟨w',vH,⟨_,xV,h2.put _ _,fun x=>?_⟩,hg⟩;by_cases hx:m=x
 .subst hx;simp only[↓reduceIte];exact⟨by rw[Maps.has_put_same h2 (show zD (.string m) from trivial)];simp,by rw[Maps.atKey_put_same h2 (show zD (.string m) from trivial)];simp⟩
 .simp only[hx,↓reduceIte];have vy:(Lit.string x) ≠ .string m:=fun q=>hx (by cases q;rfl)
  exact⟨by rw[Maps.has_put_other vy];exact(h3 x).1,by rw[Maps.atKey_put_other vy];exact(h3 x).2⟩
end
structure MkS where
 cs:List Wd
 code:List jG
 pos:Nat
namespace MkS
def const(s:MkS)(t:Wd):MkS:=if t∈s.cs then s else { s with cs:=s.cs++[t] }
def num(s:MkS)(t:Wd):Nat:=s.cs.idxOf t
def put(s:MkS)(op v:Nat)(k tg:List Nat):MkS:={ s with code:=s.code++[⟨op,s.pos,v,k,tg⟩],pos:=s.pos+(uJ ⟨op,s.pos,v,k,tg⟩).length }
def u7(s:MkS)(i j:Nat):MkS:={ s with code:=s.code.modify i fun x=>{ x with tg:=x.tg.set j s.pos } }
end MkS
structure bz where
 B:Nat
 q:Nat
 m:Nat
 vC:Value
 vI:Value
 rs:List (Value×Value)
def bz.has(L:bz)(p k:Nat):Prop:=k=p\/k=L.q\/k=L.m\/xY L.vC k\/xY L.vI k\/∃ r∈L.rs,xY r.1 k\/xY r.2 k
def DT(i:jG)(r:Value×Value):List Value:=[.int .i64 i.op,.int .i64 i.pos,.int .i64 i.v,r.1,r.2]
def bu:List jG->List (Value×Value)->List Value
 | i::l,r::rs=>DT i r++bu l rs
 | _,_=>[]
def Zb(l:List Nat):List Value:=l.map fun x => .int .i64 (x:Nat)
abbrev qj(w:World)(v:Value)(l:List Nat):Prop:=w.ownsRow 0 3 1 v l.length (Zb l)
theorem AQ:ZS prog 123 128 (.agg #[.int .i64 0,.int .i64 0,.int .i64 0,.slice none 0 0,.slice none 0 0]) 5 72 :=
 ⟨underlying123,info_parts (by kernel_rfl),rfl,by decide,by decide⟩
theorem I7:∀ (l:List jG) (rs:List (Value×Value)) (i:jG) (r:Value×Value),rs.length=l.length->bu (l++[i]) (rs++[r])=bu l rs++DT i r
 | [],[],i,r,_=>by simp[bu]
 | [],r'::rs,i,r,h=>by simp at h
 | i'::l,[],i,r,h=>by simp at h
 | i'::l,r'::rs,i,r,h=>by simp[bu,I7 l rs i r (by simpa using h)]
theorem Ul:∀ (l:List jG) (rs:List (Value×Value)),rs.length=l.length->∀ n j (i:jG) (r:Value×Value),l[n]? = some i->rs[n]? = some r->j<5->(bu l rs)[n*5+j]? = (DT i r)[j]?
 | [],_,_,n,j,i,r,h,_,_=>by simp at h
 | i'::l,[],h,_,_,_,_,_,_,_=>by simp at h
 | i'::l,r'::rs,h,0,j,i,r,h1,h2,hj=>by
  simp at h1 h2;subst h1 h2;simp only[bu,Nat.zero_mul,Nat.zero_add];exact zu (by simpa[DT] using hj)
 | i'::l,r'::rs,h,n+1,j,i,r,h1,h2,hj=>by
  have:=Ul l rs (by simpa using h) n j i r (by simpa using h1) (by simpa using h2) hj;rw[<-this];simp only[bu];rw[zv (by simp[DT];omega)];congr 1;simp[DT];omega
theorem I8:∀ (l:List jG) (rs:List (Value×Value)) (n:Nat) (f:List Nat->List Nat),bu (l.modify n fun x=>{ x with tg:=f x.tg }) rs=bu l rs
 | [],_,n,f=>by simp[bu]
 | i::l,[],0,f=>by simp[bu]
 | i::l,[],n+1,f=>by simp[bu]
 | i::l,r::rs,0,f=>by simp[bu,DT]
 | i::l,r::rs,n+1,f=>by simp[bu,I8 l rs n f]
def Vc(w:World)(k:Nat):Option TypeId:=match w.heap[k]? with|some (.cells _ t _)=>some t|_=>none
theorem jF{w:World}{base size n:Nat}{e:TypeId}{v:Value}{xs:List Value}(h:w.ownsRow base e size v n xs){g:Nat}(hg:xY v g):Vc w g=some e:=by
 rcases h.2 with⟨hv,_⟩|⟨g',cap,cur,hv,_,hh,_⟩
 .rw[hv] at hg;cases hg
 .rw[hv] at hg;cases hg;simp[Vc,hh]
theorem uO{w w':World}{k:Nat}(h:w'.heap[k]? = w.heap[k]?):Vc w' k=Vc w k:=by unfold Vc;rw[h]
theorem Vg(w:World)(a:Addr)(u:Value)(k:Nat):Vc (w.setCell a u) k=Vc w k:=by
 by_cases hk:k=a.block
 .subst hk;unfold Vc World.setCell;simp only[Array.getElem?_modify,if_true]
  cases hh:w.heap[a.block]? with
  | none=>rfl
  | some o=>cases o<;>rfl
 .exact uO (zV _ _ _ _ hk)
theorem Um(w:World)(c:Array Value)(t:TypeId):Vc (w.alloc (.cells c t)) w.heap.size=some t:=by
 unfold Vc;show(match (w.heap.push (.cells c t (0,0)))[w.heap.size]? with|some (.cells _ t _)=>some t|_=>none)=_;simp
theorem bR{w:World}{k:Nat}{t:TypeId}(h:Vc w k=some t):k<w.heap.size:=by
 unfold Vc at h;split at h
 .next hh=>exact(zQ.1 hh).1
 .cases h
theorem YE{e:TypeId}{w:World}{b n:Nat}{f:Wd->Option Nat}(h:j5 e w b n f):Vc w b=none:=by
 obtain⟨D,⟨es,clock,ho,_⟩,_⟩:=h;simp[Vc,ho]
def kV(cs:List Wd)(t:Wd):Option Nat:=if t∈cs then some (cs.idxOf t) else none
structure GG(w:World)(code:List jG)(rs:List (Value×Value)):Prop where
 len:rs.length=code.length
 k:∀ (n:Nat) (i:jG) (r:Value×Value),code[n]? = some i->rs[n]? = some r->qj w r.1 i.k/\qj w r.2 i.tg
 ne:∀ (n m:Nat) (r r':Value×Value),rs[n]? = some r->rs[m]? = some r'->∀ g,xY r.2 g->¬xY r'.1 g/\(xY r'.2 g->n=m)
theorem GG.fr{w w':World}{F F':Nat->Prop}{code:List jG}{rs:List (Value×Value)}(h:GG w code rs)(hf:Fr F F' w w')(hF:∀ k,F k->Vc w k≠some 3):GG w' code rs :=
 ⟨h.len,fun n i r h1 h2=>by
  obtain⟨a,b⟩:=h.k n i r h1 h2;exact⟨hf.own a (fun g hg hq=>hF g hq (jF a hg)),hf.own b (fun g hg hq=>hF g hq (jF b hg))⟩,h.ne⟩
structure ux(p:Nat)(L:bz)(s:MkS)(w:World):Prop where
 p0:w.cell? ⟨p,0,none⟩=some (.pointer (some ⟨L.q,0,none⟩))
 p1:w.cell? ⟨p,1,none⟩=some (.int .i64 s.pos)
 p2:w.cell? ⟨p,2,none⟩=some (.map (some L.m))
 q0:w.cell? ⟨L.q,0,none⟩=some L.vC
 q1:w.cell? ⟨L.q,1,none⟩=some L.vI
 q2:w.cell? ⟨L.q,2,none⟩=some (.map none)
 zp:∀ j,w.frozen? ⟨p,j,none⟩=false
 zq:∀ j,w.frozen? ⟨L.q,j,none⟩=false
 tp:Vc w p=some 187
 tq:Vc w L.q=some 126
 mp:j5 3 w L.m s.cs.length (kV s.cs)
 cC:w.ownsRow 0 9 1 L.vC s.cs.length (s.cs.map xg)
 cI:w.ownsRow 0 128 5 L.vI s.code.length (bu s.code L.rs)
 rows:GG w s.code L.rs
 lo:∀ k,L.has p k->L.B<=k
theorem j5.fr{e:TypeId}{w w':World}{F F':Nat->Prop}{b n:Nat}{f:Wd->Option Nat}(h:j5 e w b n f)(hf:Fr F F' w w')(hb:¬F b):j5 e w' b n f:=h.keep (hf.keep b h.lt hb)
theorem ux.fr{p:Nat}{L:bz}{s:MkS}{w w':World}{F F':Nat->Prop}(h:ux p L s w)(hf:Fr F F' w w')(hF:∀ k,F k->¬L.has p k):ux p L s w':=by
 have np:¬F p:=fun q=>hF p q (.inl rfl)
 have nq:¬F L.q:=fun q=>hF _ q (.inr (.inl rfl))
 have lp:=bR h.tp;have lq:=bR h.tq;refine⟨hf.cell h.p0 np,hf.cell h.p1 np,hf.cell h.p2 np,hf.cell h.q0 nq,hf.cell h.q1 nq,hf.cell h.q2 nq,fun j=>(hf.frozen lp np).trans (h.zp j),fun j=>(hf.frozen lq nq).trans (h.zq j),(uO (hf.keep p lp np)).trans h.tp,(uO (hf.keep _ lq nq)).trans h.tq,
  h.mp.fr hf (fun q=>hF _ q (.inr (.inr (.inl rfl)))),hf.own h.cC (fun g hg q=>hF g q (.inr (.inr (.inr (.inl hg))))),hf.own h.cI (fun g hg q=>hF g q (.inr (.inr (.inr (.inr (.inl hg)))))),⟨h.rows.len,fun n i r h1 h2=>?_,h.rows.ne⟩,h.lo⟩
 obtain⟨a,b⟩:=h.rows.k n i r h1 h2;have hr:=zk h2;exact⟨hf.own a (fun g hg q=>hF g q (.inr (.inr (.inr (.inr (.inr ⟨r,hr,.inl hg⟩)))))),hf.own b (fun g hg q=>hF g q (.inr (.inr (.inr (.inr (.inr ⟨r,hr,.inr hg⟩))))))⟩
theorem ux.lt{p:Nat}{L:bz}{s:MkS}{w:World}(h:ux p L s w){k:Nat}(hk:L.has p k):k<w.heap.size:=by
 rcases hk with rfl|rfl|rfl|hk|hk|⟨r,hr,hk⟩
 .exact bR h.tp
 .exact bR h.tq
 .exact h.mp.lt
 .exact ui h.cC hk
 .exact ui h.cI hk
 .obtain⟨n,hn,e⟩:=List.mem_iff_getElem.1 hr;have h1:L.rs[n]? = some r:=by rw[zZ hn,e]
  have h2:s.code[n]? = some (s.code[n]'(by have:=h.rows.len;omega)):=zZ _;obtain⟨a,b⟩:=h.rows.k n _ r h2 h1;exact hk.elim (ui a) (ui b)
theorem ux.alloc{p:Nat}{L:bz}{s:MkS}{w:World}(h:ux p L s w)(o:Obj):ux p L s (w.alloc o):=h.fr ((Fr.refl xI w).alloc o) (fun _ q=>q.elim)
theorem ux.drew{p:Nat}{L:bz}{s:MkS}{w:World}(h:ux p L s w):ux p L s w.drew:=h.fr (Fr.refl xI w).drew (fun _ q=>q.elim)
theorem ux.base{p:Nat}{L:bz}{s:MkS}{w:World}(h:ux p L s w):L.B<=p/\p<w.heap.size:=⟨h.lo p (.inl rfl),bR h.tp⟩
theorem ux.low{p:Nat}{L L':bz}{s:MkS}{w w':World}(h:ux p L s w)(hb:L'.B=L.B)(hf:Fr (L.has p) (L'.has p) w w'):∀ k,L'.has p k->L'.B<=k:=fun k hk=>by
 have:=h.base;rw[hb];exact(hf.fp k hk).elim (h.lo k) (by omega)
def MkQ(p:Nat)(L:bz)(s:MkS)(w w':World):Prop:=∃ L',ux p L' s w'/\(L'.q=L.q/\L'.B=L.B)/\Fr (L.has p) (L'.has p) w w'
theorem Ku:SZ 185 3:=⟨underlying185,underlying3,fun w=>by simp[go_sem]⟩
theorem Kh{cs:List Wd}{t:Wd}(h:t ∉ cs):(fun x=>if t=x then some cs.length else kV cs x)=kV (cs++[t]):=by
 funext x;unfold kV;by_cases hx:t=x
 .subst hx;simp[h,zE,List.idxOf_cons]
 .have Pe:¬x=t:=fun e=>hx e.symm
  by_cases hm:x∈cs
  .simp[hx,hm,zE]
  .simp[hx,hm,Pe]
theorem ux.nC{p:Nat}{L:bz}{s:MkS}{w:World}(h:ux p L s w){g:Nat}(hg:xY L.vC g):g≠p/\g≠L.q/\g≠L.m/\¬xY L.vI g:=by
 have t:=jF h.cC hg;refine⟨?_,?_,?_,fun q=>?_⟩
 .rintro rfl;rw[h.tp] at t;simp at t
 .rintro rfl;rw[h.tq] at t;simp at t
 .rintro rfl;rw[YE h.mp] at t;cases t
 .rw[jF h.cI q] at t;simp at t
theorem ux.nI{p:Nat}{L:bz}{s:MkS}{w:World}(h:ux p L s w){g:Nat}(hg:xY L.vI g):g≠p/\g≠L.q/\g≠L.m:=by
 have t:=jF h.cI hg;refine⟨?_,?_,?_⟩
 .rintro rfl;rw[h.tp] at t;simp at t
 .rintro rfl;rw[h.tq] at t;simp at t
 .rintro rfl;rw[YE h.mp] at t;cases t
theorem ux.nP{p:Nat}{L:bz}{s:MkS}{w:World}(h:ux p L s w):p≠L.q/\p≠L.m/\L.q≠L.m:=by
 refine⟨fun e=>?_,fun e=>?_,fun e=>?_⟩
 .have:=h.tp;rw[e,h.tq] at this;simp at this
 .have:=h.tp;rw[e,YE h.mp] at this;cases this
 .have:=h.tq;rw[e,YE h.mp] at this;cases this
theorem ux.more{p:Nat}{L:bz}{s:MkS}{w w1 w2:World}{t:Wd}{v':Value}(h:ux p L s w)(ht:t ∉ s.cs)(hm:j5 3 w1 L.m (s.cs.length+1) (fun x=>if t=x then some s.cs.length else kV s.cs x))(h1:w.grownBy w1 (some L.m))
  (hC:w2.ownsRow 0 9 1 v' (s.cs.length+1) (s.cs.map xg++[xg t])) (h2:Fr (xY L.vC) (xY v') w1 w2) :
  ∃ L',ux p L' { s with cs:=s.cs++[t] } (w2.setCell ⟨L.q,0,none⟩ v')/\(L'.q=L.q/\L'.B=L.B)/\Fr (L.has p) (L'.has p) w (w2.setCell ⟨L.q,0,none⟩ v'):=by
 obtain⟨n1,n2,n3⟩:=h.nP;have nC:=fun g hg=>h.nC (g:=g) hg
 have nI:=fun g hg=>h.nI (g:=g) hg
 have lq:=bR h.tq;have lp:=bR h.tp;have f1:Fr (fun k=>k=L.m) (fun k=>k=L.m) w w1:=⟨h1.os,h1.tape,h1.output,h1.size,fun k hk hn=>h1.block k hk (fun e=>hn (zx e)),fun _ q => .inl q⟩;have f2:Fr (fun k=>k=L.m\/xY L.vC k) (fun k=>k=L.m\/xY v' k) w w2:=by
  have a:=f1.wide (G:=fun k=>k=L.m\/xY L.vC k) (fun _ q => .inl q);exact⟨h2.os.trans a.os,h2.tape.trans a.tape,h2.output.trans a.output,zY a.size h2.size,fun k hk hn=>(h2.keep k (zg hk a.size) (fun q=>hn (.inr q))).trans (a.keep k hk hn),fun k q=>q.elim (fun q => .inl (.inl q)) (fun q=>(h2.fp k q).imp .inr (zY a.size))⟩
 have nq:¬(L.q=L.m\/xY L.vC L.q):=fun q=>q.elim n3 (fun q=>(nC _ q).2.1 rfl)
 have np:¬(p=L.m\/xY L.vC p):=fun q=>q.elim n2 (fun q=>(nC _ q).1 rfl)
 have lv:∀ g,xY v' g->xY L.vC g\/w.heap.size<=g:=fun g hg=>(h2.fp g hg).imp id (zY f1.size)
 have cq:=f2.cell h.q0 nq;have nv:¬xY v' L.q:=fun q=>(lv _ q).elim (fun q=>(nC _ q).2.1 rfl) (by omega)
 have f3:Fr (fun k=>k=L.m\/xY L.vC k\/k=L.q) (fun k=>k=L.m\/xY L.vC k\/k=L.q) w (w2.setCell ⟨L.q,0,none⟩ v'):=(f2.wide (fun _ q=>q.elim .inl (fun q => .inr (.inl q)))).set _ (.inl (.inr (.inr rfl)));have AK:¬(p=L.m\/xY L.vC p\/p=L.q):=fun q=>q.elim n2 (fun q=>q.elim (fun q=>(nC _ q).1 rfl) n1)
 have nI3:∀ g,xY L.vI g->¬(g=L.m\/xY L.vC g\/g=L.q):=fun g hg q=>q.elim (nI g hg).2.2 (fun q=>q.elim (fun q=>(nC _ q).2.2.2 hg) (nI g hg).2.1)
 have FR:Fr (L.has p) (bz.has { L with vC:=v' } p) w (w2.setCell ⟨L.q,0,none⟩ v'):=by
  refine(f3.wide (G:=L.has p) (fun k hk=>by rcases hk with hk|hk|hk;exact .inr (.inr (.inl hk));exact .inr (.inr (.inr (.inl hk)));exact .inr (.inl hk))).tg fun k hk=>?_
  rcases hk with hk|hk|hk|hk|hk|hk
  .exact .inl (.inl hk)
  .exact .inl (.inr (.inl hk))
  .exact .inl (.inr (.inr (.inl hk)))
  .exact(lv k hk).imp (fun q => .inr (.inr (.inr (.inl q)))) id
  .exact .inl (.inr (.inr (.inr (.inr (.inl hk)))))
  .exact .inl (.inr (.inr (.inr (.inr (.inr hk)))))
 refine⟨{ L with vC:=v' },⟨f3.cell h.p0 AK,f3.cell h.p1 AK,f3.cell h.p2 AK,uy cq _,?_,?_,fun j=>(f3.frozen lp AK).trans (h.zp j),fun j=>?_,(uO (f3.keep p lp AK)).trans h.tp,?_,?_,?_,f3.own h.cI nI3,h.rows.fr f3 ?_,h.low rfl FR⟩,⟨rfl,rfl⟩,FR⟩
 .rw[xk,if_neg (by simp)];exact f2.cell h.q1 nq
 .rw[xk,if_neg (by simp)];exact f2.cell h.q2 nq
 .rw[z8];exact(f2.frozen lq nq).trans (h.zq j)
 .rw[Vg];exact(uO (f2.keep _ lq nq)).trans h.tq
 .have jA:j5 3 w2 L.m (s.cs.length+1) (fun x=>if t=x then some s.cs.length else kV s.cs x):=hm.fr h2 (fun q=>(nC _ q).2.2.1 rfl);rw[Kh ht] at jA;have:=jA.keep (w':=w2.setCell ⟨L.q,0,none⟩ v') (zV _ _ _ _ (fun e=>n3 e.symm));simpa using this
 .have:=ownsRow_setCell_other hC (a:=⟨L.q,0,none⟩) nv v';simpa using this
 .intro k hk;rcases hk with rfl|hk|rfl
  .rw[YE h.mp];simp
  .rw[jF h.cC hk];simp
  .rw[h.tq];simp
theorem Vf(p:Nat)(L:bz)(s:MkS)(t:Wd)(w:World)(h:ux p L s w)(ht:t.length<=5000000)(hl:s.cs.length<=1000000) :
  Calls prog 160 #[.pointer (some ⟨p,0,none⟩),xg t] w fun e w'=>e = .returned (.int .i64 (s.num t:Nat))/\∃ L',ux p L' (s.const t) w'/\(L'.q=L.q/\L'.B=L.B)/\Fr (L.has p) (L'.has p) w w':=by
 have HH:=z7 h;have p0:=h.p0;have p2:=h.p2;have q0:=h.q0;have VE:=h.mp.look Ku t ht;by_cases dI:t∈s.cs
 .rw[show kV s.cs t=some (s.num t) from if_pos dI] at VE;have HC:=z7 (show s.const t=s from if_pos dI);clear h dI;go_enter func160,ntmps160;go_wp2;go_ret;rw[HC.out];exact⟨rfl,L,HH.out,⟨rfl,rfl⟩,Fr.refl _ _⟩
 .rw[show kV s.cs t=none from if_neg dI] at VE;have HC:=z7 (show s.const t={ s with cs:=s.cs++[t] } from if_neg dI);have HN:=z7 (show s.num t=s.cs.length from List.idxOf_eq_length dI);obtain⟨w1,XG,Vd,XX⟩:=h.mp.put Ku t ht (s.cs.length:Nat) s.cs.length rfl (by omega) (by omega);obtain⟨n,hn⟩:=xX s.cs.length;have HIN:=z7 dI;have p01:=XX.cell p0 (fun e=>h.nP.2.1 (zx e));have q01:=XX.cell q0 (fun e=>h.nP.2.2 (zx e));have xV:w1.ownsRow 0 9 1 L.vC s.cs.length (s.cs.map xg):=h.cC.kept XX (by
   cases hv:L.vC.ownBlock with
   | none=>exact .inl rfl
   | some g=>exact .inr (fun e=>(h.nC hv).2.2.1 (zx e)))
  obtain⟨ca,cc,hvC⟩:=xf xV;rw[hn] at XG Vd xV hvC;rw[hvC] at q0 q01 xV;clear h dI;go_enter func160,ntmps160;go_wp2_with fail;refine rk (fun W':World=>W'.cell? ⟨p,0,none⟩=some (.pointer (some ⟨L.q,0,none⟩))/\W'.cell? ⟨L.q,0,none⟩=some (.slice ca n cc)) 16 [0,1,2,3,4,5,6,7,8,9,10,11] 5 ⟨p01,q01⟩ ?_;(iterate 12 (refine ty ?_;try simp only[pl]))
  refine xq ?_;refine UN 12 (fun J hJ=>?_);go_simp;refine hJ.out _ _ ⟨xQ p01 _,xQ q01 _⟩ fun _=>?_
  clear hJ J;refine UN 13 (fun J hJ=>?_);rw[if_pos (by rfl)];change Oper.wp _ _ _ (w1.drew.alloc (.cells [_].toArray _)) _ _
  refine XK qz [_] 1 (by exact xV) (by omega) ?_;intro v2 w2 X3 vU;have vU:=vU.und;rw[<-hvC] at vU;have HH2:=z7 vU;have p02:=vU.cell p01 (fun q=>(HH.out.nC q).1 rfl);have q02:=vU.cell q01 (fun q=>(HH.out.nC q).2.1 rfl);have z2:=(vU.frozen (zy _ _ q01) (fun q=>(HH.out.nC q).2.1 rfl)).trans ((World.frozen?_of_block (XX.block L.q (zy _ _ q0) (fun e=>HH.out.nP.2.2 (zx e)))).trans (HH.out.zq 0));rw[<-hn] at X3 Vd;have HX:=z7 (HH.out.more HIN.out Vd XX X3 vU);rw[hn] at X3;obtain⟨a2,c2,rfl⟩:=xf X3;clear X3 vU Vd hvC xV;go_simp;refine hJ.out _ _ ⟨p02,q02⟩ fun _=>?_
  clear hJ J;refine kX [14,15] 1 rfl (by intro _ _ d _ _ h;cases d<;>exact h) (by kernel_rfl) (by kernel_rfl) ⟨p02,q02⟩ ?_;(iterate 2 (refine ty ?_;try simp only[pl]))
  refine xq ?_;refine BZ 16 (fun J hJ=>?_);go_simp;refine hJ.out _ _ ?_;clear hJ J;refine BX ?_ _;go_wp2;go_ret;rw[HC.out,HN.out,hn];exact⟨rfl,HX.out⟩
structure j6(w:World)(p:Nat)(i:Nat)(b c:Nat):Prop where
 pb:w.cell? ⟨b,0,none⟩=some (.pointer (some ⟨p,0,none⟩))
 pc:w.cell? ⟨c,0,none⟩=some (.int .i64 (i:Nat))
 tb:Vc w b=some 184
 tc:Vc w c=some 3
abbrev bS(b c:Nat):Value := .func (.func 123) #[] #[.pointer (some ⟨b,0,none⟩),.pointer (some ⟨c,0,none⟩)]
theorem qj.zak{w:World}{v:Value}{l:List Nat}(h:qj w v l):gM w v l:=by
 rcases h.2 with⟨rfl,hn⟩|⟨g,cap,cur,rfl,_,hh,hnc,jS,dT,ht⟩
 .exact⟨none,0,by rw[hn],by omega,Nat.zero_le _,fun j hj=>by omega⟩
 .refine⟨_,cap,rfl,hnc,jS,fun j hj=>⟨_,rfl,?_⟩⟩;rw[uR,World.ownsRow.cellAt h j (by omega)];simp[Zb,hj]
theorem ux.zaj{p:Nat}{L:bz}{s:MkS}{w w2:World}{i:jG}{kv tv v':Value}(h:ux p L s w)(hk:qj w kv i.k)(ht:qj w tv i.tg)(nk:∀ g,xY kv g->¬L.has p g)(nt:∀ g,xY tv g->¬L.has p g)(nn:∀ g,xY tv g->¬xY kv g)
  (lk:∀ g,xY kv g\/xY tv g->L.B<=g) (ho:w2.ownsRow 0 128 5 v' (s.code.length+1) (bu s.code L.rs++DT i (kv,tv))) (h2:Fr (xY L.vI) (xY v') w w2) :
  ∃ L',ux p L' { s with code:=s.code++[i] } (w2.setCell ⟨L.q,1,none⟩ v')/\(L'.q=L.q/\L'.B=L.B)/\Fr (fun g=>L.has p g\/xY kv g\/xY tv g) (L'.has p) w (w2.setCell ⟨L.q,1,none⟩ v'):=by
 obtain⟨n1,n2,n3⟩:=h.nP;have nC:=fun g hg=>h.nC (g:=g) hg
 have nI:=fun g hg=>h.nI (g:=g) hg
 have lq:=bR h.tq;have lp:=bR h.tp;have nq:¬xY L.vI L.q:=fun q=>(nI _ q).2.1 rfl
 have nv:¬xY v' L.q:=fun q=>(h2.fp _ q).elim nq (by omega)
 have f3:Fr (fun k=>xY L.vI k\/k=L.q) (fun k=>xY L.vI k\/k=L.q) w (w2.setCell ⟨L.q,1,none⟩ v'):=(h2.wide (fun _ q => .inl q)).set _ (.inl (.inr rfl));have AK:¬(xY L.vI p\/p=L.q):=fun q=>q.elim (fun q=>(nI _ q).1 rfl) n1
 have nC3:∀ g,xY L.vC g->¬(xY L.vI g\/g=L.q):=fun g hg q=>q.elim (nC g hg).2.2.2 (nC g hg).2.1
 have FR:Fr (fun g=>L.has p g\/xY kv g\/xY tv g) (bz.has { L with vI:=v',rs:=L.rs++[(kv,tv)] } p) w (w2.setCell ⟨L.q,1,none⟩ v'):=by
  refine(f3.wide (G:=fun g=>L.has p g\/xY kv g\/xY tv g) (fun k hk=>by rcases hk with hk|hk;exact .inl (.inr (.inr (.inr (.inr (.inl hk)))));exact .inl (.inr (.inl hk)))).tg fun k hk=>?_
  rcases hk with hk|hk|hk|hk|hk|⟨r,hr,hk⟩
  .exact .inl (.inl (.inl hk))
  .exact .inl (.inl (.inr (.inl hk)))
  .exact .inl (.inl (.inr (.inr (.inl hk))))
  .exact .inl (.inl (.inr (.inr (.inr (.inl hk)))))
  .exact(h2.fp k hk).imp (fun q => .inl (.inr (.inr (.inr (.inr (.inl q)))))) id
  .rcases List.mem_append.1 hr with hr|hr
   .exact .inl (.inl (.inr (.inr (.inr (.inr (.inr ⟨r,hr,hk⟩))))))
   .simp at hr;subst hr;exact .inl (.inr hk)
 have hI3:∀ k,(xY L.vI k\/k=L.q)->Vc w k≠some 3:=by
  rintro k (hk|rfl)
  .rw[jF h.cI hk];simp
  .rw[h.tq];simp
 have hlen:=h.rows.len;refine⟨{ L with vI:=v',rs:=L.rs++[(kv,tv)] },⟨f3.cell h.p0 AK,f3.cell h.p1 AK,f3.cell h.p2 AK,?_,uy (h2.cell h.q1 nq) _,?_,fun j=>(f3.frozen lp AK).trans (h.zp j),fun j=>?_,(uO (f3.keep p lp AK)).trans h.tp,?_,h.mp.fr f3 (fun q=>q.elim (fun q=>(nI _ q).2.2 rfl) (fun e=>n3 e.symm)),f3.own h.cC nC3,?_,⟨by simp[hlen],?_,?_⟩,?_⟩,⟨rfl,rfl⟩,FR⟩
 .rw[xk,if_neg (by simp)];exact h2.cell h.q0 nq
 .rw[xk,if_neg (by simp)];exact h2.cell h.q2 nq
 .rw[z8];exact(h2.frozen lq nq).trans (h.zq j)
 .rw[Vg];exact(uO (h2.keep _ lq nq)).trans h.tq
 .have:=ownsRow_setCell_other ho (a:=⟨L.q,1,none⟩) nv v';rw[I7 _ _ _ _ hlen];simpa using this
 .have h0:=h.rows.fr f3 hI3;intro n j r e1 e2;by_cases hn:n<s.code.length
  .rw[zu hn] at e1;rw[zu (by omega)] at e2;exact h0.k n j r e1 e2
  .have dN:n=s.code.length:=by have:=(zf.1 e1).1;simp at this;omega
   rw[dN,zv (zX _)] at e1;rw[dN,zv (by omega),hlen] at e2;simp at e1 e2;subst e1 e2;exact⟨f3.own hk (fun g hg q=>hI3 g q (jF hk hg)),f3.own ht (fun g hg q=>hI3 g q (jF ht hg))⟩
 .intro n m r r' e1 e2 g hg;have Pl:∀ n (r:Value×Value),(L.rs++[(kv,tv)])[n]? = some r->(n<L.rs.length/\L.rs[n]? = some r)\/(n=L.rs.length/\r=(kv,tv)):=fun n r e=>by
   by_cases hn:n<L.rs.length
   .exact .inl ⟨hn,by rwa [zu hn] at e⟩
   .have dN:n=L.rs.length:=by have:=(zf.1 e).1;simp at this;omega
    rw[dN,zv (zX _)] at e;simp at e;exact .inr ⟨dN,e.symm⟩
  rcases Pl n r e1 with⟨a1,a2⟩|⟨a1,rfl⟩<;>rcases Pl m r' e2 with⟨b1,b2⟩|⟨b1,rfl⟩
  .exact h.rows.ne n m r r' a2 b2 g hg
  .have hh:L.has p g := .inr (.inr (.inr (.inr (.inr ⟨r,zk a2,.inr hg⟩))));exact⟨fun q=>nk g q hh,fun q=>absurd hh (nt g q)⟩
  .have hh:∀ x,(xY r'.1 x\/xY r'.2 x)->L.has p x:=fun x hx => .inr (.inr (.inr (.inr (.inr ⟨r',zk b2,hx⟩))))
   exact⟨fun q=>nt g hg (hh g (.inl q)),fun q=>absurd (hh g (.inr q)) (nt g hg)⟩
  .exact⟨nn g hg,fun _=>by omega⟩
 .intro k hk;have:=h.base;exact(FR.fp k hk).elim (fun q=>q.elim (h.lo k) (lk k)) (fun q=>by show L.B<=k;omega)
theorem ux.setPos{p:Nat}{L:bz}{s:MkS}{w:World}(h:ux p L s w)(n:Nat):ux p L { s with pos:=n } (w.setCell ⟨p,1,none⟩ (.int .i64 n))/\Fr (L.has p) (L.has p) w (w.setCell ⟨p,1,none⟩ (.int .i64 n)):=by
 obtain⟨n1,n2,n3⟩:=h.nP;have f3:Fr (fun k=>k=p) (fun k=>k=p) w (w.setCell ⟨p,1,none⟩ (.int .i64 n)):=(Fr.refl _ _).set _ (.inl rfl);refine⟨⟨?_,uy h.p1 _,?_,f3.cell h.q0 (fun e=>n1 e.symm),f3.cell h.q1 (fun e=>n1 e.symm),f3.cell h.q2 (fun e=>n1 e.symm),fun j=>by rw[z8];exact h.zp j,fun j=>by rw[z8];exact h.zq j,by rw[Vg];exact h.tp,by rw[Vg];exact h.tq,
  h.mp.fr f3 (fun e=>n2 e.symm),f3.own h.cC (fun g hg=>(h.nC hg).1),f3.own h.cI (fun g hg=>(h.nI hg).1),h.rows.fr f3 (by rintro k rfl;rw[h.tp];simp),h.lo⟩,f3.wide (by rintro k rfl;exact .inl rfl)⟩
 .rw[xk,if_neg (by simp)];exact h.p0
 .rw[xk,if_neg (by simp)];exact h.p2
theorem SY(w:World)(x y:Value)(l:List Value)(t1 t2 t3:TypeId):∃ W,W=((w.alloc (.cells #[x] t1)).alloc (.cells l.toArray t2)).alloc (.cells #[y] t3)/\Fr xI xI w W/\W.heap.size=w.heap.size+3/\W.cell? ⟨w.heap.size,0,none⟩=some x/\(∀ j,W.cell? ⟨w.heap.size+1,j,none⟩=l[j]?)/\W.cell? ⟨w.heap.size+2,0,none⟩=some y/\Vc W w.heap.size=some t1/\Vc W (w.heap.size+2)=some t3:=by
 have e1:(w.alloc (.cells #[x] t1)).heap.size=w.heap.size+1:=by simp
 have e2:((w.alloc (.cells #[x] t1)).alloc (.cells l.toArray t2)).heap.size=w.heap.size+2:=by simp
 refine⟨_,rfl,(((Fr.refl _ _).alloc _).alloc _).alloc _,by simp,xQ (xQ (xu w #[x] t1 (0,0) 0) _) _,fun j=>?_,by rw[<-e2];exact xu _ #[y] t3 (0,0) 0,?_,by rw[<-e2];exact Um _ _ _⟩
 .rw[World.cell?_alloc_lt _ _ _ (by rw[e2];show w.heap.size+1<_;omega),<-e1,xu];simp
 .rw[uO (zI _ _ _ (by rw[e2];omega)),uO (zI _ _ _ (by rw[e1];omega))];exact Um _ _ _
theorem bq(p:Nat)(L:bz)(s:MkS)(op v:Nat)(k tg:List Nat)(kv tv:Value)(w:World)(h:ux p L s w)(hk:qj w kv k)(ht:qj w tv tg)(nk:∀ g,xY kv g->¬L.has p g)(nt:∀ g,xY tv g->¬L.has p g)(nn:∀ g,xY tv g->¬xY kv g)
  (lk:∀ g,xY kv g\/xY tv g->L.B<=g) (ho:Pc ⟨op,s.pos,v,k,tg⟩) (hF:gy w) (hB:2<L.B) (hl:s.code.length<=1000000) (hp:s.pos<=1000000) (hx:(uJ ⟨op,s.pos,v,k,tg⟩).length<=1000000) :
  Calls prog 81 #[.pointer (some ⟨p,0,none⟩),.agg #[.int .i64 (op:Nat),.int .i64 0,.int .i64 (v:Nat),kv,tv]] w fun e w'=>∃ b c,e = .returned (bS b c)/\j6 w' p s.code.length b c/\w.heap.size<=b/\w.heap.size<=c /\
   ∃ L',ux p L' (s.put op v k tg) w'/\(L'.q=L.q/\L'.B=L.B)/\Fr (fun g=>L.has p g\/xY kv g\/xY tv g) (L'.has p) w w'/\¬L'.has p b/\¬L'.has p c:=by
 have HH:=z7 h;have HK:=z7 hk;have HT:=z7 ht;have HO:=z7 ho;have HF:=z7 hF;have HX:=z7 hx;have p0:=h.p0;have p1:=h.p1;have q0:=h.q1;have lp:=zy _ _ p0;obtain⟨n,hn⟩:=xX s.code.length;obtain⟨pos,gx⟩:=xX s.pos;have xV:=h.cI;rw[hn] at xV;obtain⟨ia,ic,GF⟩:=xf xV;rw[GF] at q0 xV;obtain⟨ka,kc,rfl⟩:=xf hk;obtain⟨ta,tc,rfl⟩:=xf ht;obtain⟨kn,Jt⟩:=xX k.length;obtain⟨tn,oX⟩:=xX tg.length;rw[Jt] at HK nk nn lk |-
 rw[oX] at HT nt nn lk |-
 rw[gx] at p1;have HN:=z7 hn;have HP:=z7 gx;have lq:=zy _ _ q0;have DW:n<=1000000:=by rw[<-hn];exact hl
 have Un:pos<=1000000:=by rw[<-gx];exact hp
 obtain⟨N,hN⟩:=xX w.heap.size;have p0a:=fun o o2=>xQ (xQ p0 o) o2
 have p1a:=fun o o2=>xQ (xQ p1 o) o2
 have q0a:=fun o o2=>xQ (xQ q0 o) o2
 clear h hk ht ho hF hx hn gx;go_enter func81,ntmps81;go_wp2_with fail;obtain⟨W1,XY,f1,s1,b0,e0,c0,y1,y2⟩:=SY w (.pointer (some ⟨p,0,none⟩)) (.int .i64 n) [.int .i64 op,.int .i64 pos,.int .i64 v,.slice ka kn kc,.slice ta tn tc] 184 128 3;rw[<-XY];rw[hN] at s1 b0 e0 c0 y1 y2;have HY:=z7 (And.intro y1 y2);clear y1 y2;have p0:=f1.cell p0 id;have q0:=f1.cell q0 id;have Ve:=z7 f1;have gN:=z7 s1;have HW1:=z7 (fun g (hg:g<N)=>f1.keep g (by rw[hN];exact hg) id);have i0:=e0 0;have i1:=e0 1;have i2:=e0 2;have i3:=e0 3;have i4:=e0 4;simp at i0 i1 i2 i3 i4;clear XY;refine rk (fun W':World=>W'.cell? ⟨p,0,none⟩=some (.pointer (some ⟨L.q,0,none⟩))/\W'.cell? ⟨L.q,1,none⟩=some (.slice ia n ic)/\W'.cell? ⟨N,0,none⟩=some (.pointer (some ⟨p,0,none⟩))/\W'.cell? ⟨N+1,0,none⟩=some (.int .i64 op)/\W'.cell? ⟨N+1,1,none⟩=some (.int .i64 pos)/\W'.cell? ⟨N+1,2,none⟩=some (.int .i64 v)/\W'.cell? ⟨N+1,3,none⟩=some (.slice ka kn kc)/\W'.cell? ⟨N+1,4,none⟩=some (.slice ta tn tc)) 16 [0,1,2,3,4,5,6,7,8,9,10,11] 5 ⟨p0,q0,b0,i0,i1,i2,i3,i4⟩ ?_;(iterate 12 (refine ty ?_;try simp only[pl]))
 refine xq ?_;refine UN 12 (fun J hJ=>?_);go_simp;refine hJ.out _ _ ⟨xQ p0 _,xQ q0 _,xQ b0 _,xQ i0 _,xQ i1 _,xQ i2 _,xQ i3 _,xQ i4 _⟩ fun _=>?_
 clear hJ J;refine UN 13 (fun J hJ=>?_);rw[if_pos (by rfl)];rw[show N+3=W1.heap.size from s1.symm];change Oper.wp _ _ _ (W1.drew.alloc (.cells [_,_,_,_,_].toArray _)) _ _
 refine XK AQ [_,_,_,_,_] 1 ((f1.own xV (fun _ _=>id):W1.drew.ownsRow _ _ _ _ _ _)) (by omega) ?_;intro v2 w2 X3 vU;have vU:=vU.und;rw[<-GF] at vU;have AJ:=HH.out.fr f1 (fun _ q=>q.elim);have I9:qj W1 (.slice ka kn kc) k/\qj W1 (.slice ta tn tc) tg:=⟨f1.own HK.out (fun _ _=>id),f1.own HT.out (fun _ _=>id)⟩;have nI:∀ g,xY L.vI g->g<N/\g≠p/\g≠L.q:=fun g hg=>⟨by rw[<-hN];exact ui HH.out.cI hg,(HH.out.nI hg).1,(HH.out.nI hg).2.1⟩
 have nb:∀ j,N<=j->¬xY L.vI j:=fun j hj q=>by have:=(nI j q).1;omega
 have p0:=vU.cell p0 (fun q=>(nI _ q).2.1 rfl);have q0:=vU.cell q0 (fun q=>(nI _ q).2.2 rfl);have b0:=vU.cell b0 (nb N (zX _));have i0:=vU.cell i0 (nb (N+1) (by omega));have i1:=vU.cell i1 (nb (N+1) (by omega));have i2:=vU.cell i2 (nb (N+1) (by omega));have i3:=vU.cell i3 (nb (N+1) (by omega));have i4:=vU.cell i4 (nb (N+1) (by omega));have c0:=vU.cell c0 (nb (N+2) (by omega));have zq:=(vU.frozen (a:=⟨L.q,1,none⟩) (bR AJ.tq) (fun q=>(nI _ q).2.2 rfl)).trans (AJ.zq 1);have Jh:=z7 (show qj w2 (.slice ka kn kc) k/\qj w2 (.slice ta tn tc) tg from⟨vU.own I9.1 (fun g hg q=>nk g hg (.inr (.inr (.inr (.inr (.inl q)))))),vU.own I9.2 (fun g hg q=>nt g hg (.inr (.inr (.inr (.inr (.inl q))))))⟩);have HM:=z7 (AJ.zaj (i:=⟨op,s.pos,v,k,tg⟩) I9.1 I9.2 nk nt nn lk (by rw[HN.out,HP.out];exact X3) vU);have fL:=z7 vU;obtain⟨a2,c2,rfl⟩:=xf X3;clear X3 vU xV I9 f1 AJ;go_simp;refine hJ.out _ _ ⟨p0,q0,b0,i0,i1,i2,i3,i4⟩ fun _=>?_
 clear hJ J;refine kX [14,15] 1 rfl (by intro _ _ d _ _ h;cases d<;>exact h) (by kernel_rfl) (by kernel_rfl) ⟨p0,q0,b0,i0,i1,i2,i3,i4⟩ ?_;(iterate 2 (refine ty ?_;try simp only[pl]))
 refine xq ?_;refine BZ 16 (fun J hJ=>?_);go_simp;refine hJ.out _ _ ?_;clear hJ J;refine BX ?_ _;obtain⟨L2,jA,⟨kh,Kw⟩,gQ⟩:=HM.out;obtain⟨W3,kg⟩:=xX (w2.setCell ⟨L.q,1,none⟩ (.slice a2 (n+1) c2));have kp:∀ {a:Addr} {u:Value},w2.cell? a=some u->a.block≠L.q->W3.cell? a=some u:=fun hc hn=>by rw[<-kg];exact uV hc _ (fun e=>hn e.symm)
 rw[kg] at jA gQ |-
 have p0:=jA.p0;have p1:W3.cell? ⟨p,1,none⟩=some (.int .i64 pos):=by have:=jA.p1;rw[show s.pos=pos from HP.out] at this;exact this
 have qN:L.q<N:=by rw[<-hN];exact lq
 have b0:=kp b0 (show N≠L.q by omega);have c0:=kp c0 (show N+2≠L.q by omega);have i0:=kp i0 (show N+1≠L.q by omega);have i1:=kp i1 (show N+1≠L.q by omega);have i2:=kp i2 (show N+1≠L.q by omega);have i3:=kp i3 (show N+1≠L.q by omega);have i4:=kp i4 (show N+1≠L.q by omega);have s3:N+3<=W3.heap.size:=zy _ _ c0;have GD:∀ g,g<L.B->W3.heap[g]? = w.heap[g]? := fun g hg=>by
  rw[<-kg,zV _ _ _ _ (by show g≠L.q;have:=HH.out.lo L.q (.inr (.inl rfl));omega)];have:=HH.out.base;rw[hN] at this;exact(fL.out.keep g (by omega) (fun q=>by have:=HH.out.lo g (.inr (.inr (.inr (.inr (.inl q)))));omega)).trans (HW1.out g (by omega))
 have HFO:gy W3:=fun o ho=>(World.cell?_of_block (GD _ hB)).trans (HF.out o ho)
 have hia:tE W3.drew (N+1) 0 ⟨op,pos,v,k,tg⟩ (.slice ka kn kc) (.slice ta tn tc):=by
  refine⟨i0,i1,i2,i3,i4,qj.zak ?_,qj.zak ?_⟩
  .show qj W3 _ _;rw[<-kg];exact ownsRow_setCell_other Jh.out.1 (fun e=>nk _ e (.inr (.inl rfl))) _
  .show qj W3 _ _;rw[<-kg];exact ownsRow_setCell_other Jh.out.2 (fun e=>nt _ e (.inr (.inl rfl))) _
 have dI:∀ g,(xY (.slice ka kn kc) g\/xY (.slice ta tn tc) g)->g<W3.heap.size:=fun g hg=>by
  have:g<N:=by rw[<-hN];exact hg.elim (ui HK.out) (ui HT.out)
  omega
 have hio:Pc ⟨op,pos,v,k,tg⟩:=by have:=HO.out;rw[show s.pos=pos from HP.out] at this;exact this
 have oU:=HX.out;rw[show s.pos=pos from HP.out] at oU;have HAP:=z7 (Ny (N+1) 0 ⟨op,pos,v,k,tg⟩ _ _ (.slice none 0 0) [] W3.drew hia hio (zF _ _ _ _) (fun q=>by cases q) (fun g hg=>⟨dI g (.inl hg),fun q=>by cases q⟩) (fun g hg=>⟨dI g (.inr hg),fun q=>by cases q⟩) HFO (fun q=>by cases q) (by simp only[zM];omega));obtain⟨X,hX⟩:=xX (uJ ⟨op,pos,v,k,tg⟩);rw[zM,hX] at HAP;rw[hX] at oU;have HXX:=z7 hX;have YH:=z7 jA;have U3:=z7 gQ;clear hia dI hio GD kg jA gQ hX kp i0 i1 i2 i3 i4;go_wp2_with fail;refine rk (fun W':World=>W'.cell? ⟨p,1,none⟩=some (.int .i64 pos)/\W'.cell? ⟨N,0,none⟩=some (.pointer (some ⟨p,0,none⟩))) 9 [0,1,2,3] 6 ⟨p1,b0⟩ ?_;(iterate 4 (refine ty ?_;try simp only[pl]))
 refine xq ?_;refine UN 4 (fun J hJ=>?_);go_simp;refine HAP.out.mono ?_;rintro e W4 ⟨v4,rfl,Jw,Vi⟩;have Vi:=Vi.und;obtain⟨a4,c4,rfl⟩:=xf Jw;have p1:=Vi.cell p1 (fun q=>by cases q);have b0:=Vi.cell b0 (fun q=>by cases q);have c0:=Vi.cell c0 (fun q=>by cases q);have J0:=YH.out.fr Vi (fun _ q=>by cases q);refine hJ.out _ _ ⟨p1,b0⟩ fun _=>?_
 clear hJ J;refine kX [5,6,7,8] 1 rfl (by intro _ _ d _ _ h;cases d<;>exact h) (by kernel_rfl) (by kernel_rfl) ⟨p1,b0⟩ ?_;have zag:IntKind.i64.wrap ((pos:Int)+(X.length:Int))=((pos+X.length:Nat):Int):=by simp[IntKind.wrap,IntKind.signed,IntKind.bits];omega
 (iterate 4 (refine ty ?_;try simp only[pl]))
 refine xq ?_;have zp:=J0.zp 1;refine BZ 9 (fun J hJ=>?_);go_simp;refine hJ.out _ _ ?_;clear hJ J;refine BX ?_ _;obtain⟨G0,G6⟩:=J0.setPos (pos+X.length);have SX:=z7 G0;have SV:=z7 G6;have AG:=z7 Vi;have HM4:=z7 J0;have HN0:=z7 hN;have np:p<N:=by rw[<-hN];exact lp
 have e9:((pos+X.length:Nat):Int)=(pos:Int)+(X.length:Int):=by omega
 rw[e9] at SX SV;obtain⟨W5,hW5⟩:=xX (W4.setCell ⟨p,1,none⟩ (.int .i64 ((pos:Int)+(X.length:Int))));have b5:W5.cell? ⟨N,0,none⟩=some (.pointer (some ⟨p,0,none⟩)):=by rw[<-hW5];exact uV b0 _ (by show p≠N;omega)
 have c5:W5.cell? ⟨N+2,0,none⟩=some (.int .i64 n):=by rw[<-hW5];exact uV c0 _ (by show p≠N+2;omega)
 rw[hW5] at SX SV |-
 clear G0 G6 Vi J0;clear hW5 hN;have Nv:∀ (fn:Fn) (first cap:Array Value) (w:World),(Instr.makeFunc fn first cap).run prog w = .ok (.func fn first cap) w:=fun _ _ _ _=>rfl
 go_wp2;go_ret;have CB:∀ g,N<=g->g<N+3->¬L2.has p g:=fun g h1 h2 q=>by
  rcases U3.out.fp g q with(q|q|q)|q
  .have:=HH.out.lt q;have:=HN0.out;omega
  .have:=ui HK.out q;have:=HN0.out;omega
  .have:=ui HT.out q;have:=HN0.out;omega
  .have:=gN.out;omega
 have MW:∀ g,N<=g->g<N+3->Vc W5 g=Vc W1 g:=fun g h1 h2=>by
  have l1:g<W1.heap.size:=by have:=gN.out;omega
  have l3:g<W3.heap.size:=zg l1 U3.out.size;rw[uO (SV.out.keep g (zg l3 AG.out.size) (CB g h1 h2)),uO (AG.out.keep g l3 (fun q=>by cases q)),uO (U3.out.keep g l1 (fun q=>?_))];have:=HN0.out;rcases q with q|q|q
  .have:=HH.out.lt q;omega
  .have:=ui HK.out q;omega
  .have:=ui HT.out q;omega
 refine⟨N,N+2,rfl,⟨b5,by rw[HN.out];exact c5,(MW N (zX _) (by omega)).trans HY.out.1,(MW (N+2) (by omega) (by omega)).trans HY.out.2⟩,by have:=HN0.out;omega,by have:=HN0.out;omega,L2,?_,⟨kh,Kw⟩,(((Ve.out.wide (fun _ q=>q.elim)).trans U3.out).trans (AG.out.wide (fun _ q=>by cases q))).trans SV.out,CB N (zX _) (by omega),CB (N+2) (by omega) (by omega)⟩;have:=SX.out;simp only[MkS.put];rw[show s.pos=pos from HP.out] at this |-
 rw[show uJ ⟨op,pos,v,k,tg⟩=X from HXX.out];exact this
theorem AF{w:World}{base:Nat}{e:TypeId}{size n g cap:Nat}{xs:List Value}(h:w.ownsRow base e size (.slice (some ⟨g,0,none⟩) n cap) n xs)(j:Nat)(u:Value) :
  (w.setCell ⟨g,j,none⟩ u).ownsRow base e size (.slice (some ⟨g,0,none⟩) n cap) n (xs.set j u):=by
 obtain⟨h1,h2⟩:=h;refine⟨by simp[h1],?_⟩;rcases h2 with⟨h2,_⟩|⟨g',vw,cur,hv,hg,hh,k1,k2,k3,k4⟩
 .cases h2
 .cases hv;have xB:=lt_of_block hh;have h':w.heap[g] = .cells cur e (0,0):=by simpa[zJ xB] using hh
  refine .inr ⟨g,cap,cur.setIfInBounds j u,rfl,hg,?_,k1,k2,by simp[k3],?_⟩
  .show(w.heap.modify g _)[g]? = _;rw[zJ (by simpa using xB),Array.getElem_modify_self,h'];rfl
  .rw[Array.toList_setIfInBounds,List.take_set,k4]
theorem ux.u7{p:Nat}{L:bz}{s:MkS}{w:World}{i j T n tc:Nat}{x:jG}{kv:Value}(h:ux p L s w)(hi:s.code[i]? = some x)(hr:L.rs[i]? = some (kv,.slice (some ⟨T,0,none⟩) n tc)) :
  ux p L (s.u7 i j) (w.setCell ⟨T,j,none⟩ (.int .i64 s.pos))/\Fr (L.has p) (L.has p) w (w.setCell ⟨T,j,none⟩ (.int .i64 s.pos)):=by
 obtain⟨hk,ht⟩:=h.rows.k i x _ hi hr;have tT:=jF ht (g:=T) rfl;have nx:∀ g t,Vc w g=some t->t≠3->g≠T:=fun g t hg vy e=>by rw[e,tT] at hg;exact vy (zx hg).symm
 have np:=nx p _ h.tp (by decide);have nq:=nx L.q _ h.tq (by decide);have nm:L.m≠T:=fun e=>by have:=YE h.mp;rw[e,tT] at this;cases this
 have f3:Fr (fun k=>k=T) (fun k=>k=T) w (w.setCell ⟨T,j,none⟩ (.int .i64 s.pos)):=(Fr.refl _ _).set _ (.inl rfl);have hn:n=x.tg.length:=by rcases ht.2 with⟨hv,_⟩|⟨g,cap,cur,hv,_⟩<;>cases hv;rfl
 refine⟨⟨f3.cell h.p0 np,f3.cell h.p1 np,f3.cell h.p2 np,f3.cell h.q0 nq,f3.cell h.q1 nq,f3.cell h.q2 nq,fun j=>by rw[z8];exact h.zp j,fun j=>by rw[z8];exact h.zq j,by rw[Vg];exact h.tp,by rw[Vg];exact h.tq,
  h.mp.fr f3 nm,f3.own h.cC (fun g hg=>nx g _ (jF h.cC hg) (by decide)),?_,⟨by simpa[MkS.u7] using h.rows.len,?_,h.rows.ne⟩,h.lo⟩,f3.wide (fun k hk=>?_)⟩
 .have:=f3.own h.cI (fun g hg=>nx g _ (jF h.cI hg) (by decide));simp only[MkS.u7,List.length_modify];rw[show bu (s.code.modify i fun x=>{ x with tg:=x.tg.set j s.pos }) L.rs=bu s.code L.rs from I8 s.code L.rs i (fun l=>l.set j s.pos)];exact this
 .intro m y r e1 e2;simp only[MkS.u7] at e1;rw[List.getElem?_modify] at e1;by_cases hm:i=m
  .subst hm;rw[hi] at e1;rw[hr] at e2;simp at e1 e2;subst e1 e2;refine⟨f3.own hk (fun g hg e=>(h.rows.ne i i _ _ hr hr T rfl).1 (e▸hg)),?_⟩;subst hn;have:=AF ht j (.int .i64 s.pos);have e:(Zb x.tg).set j (.int .i64 (s.pos:Nat))=Zb (x.tg.set j s.pos):=by simp[Zb,List.map_set]
   rw[e] at this;show World.ownsRow _ _ _ _ _ (x.tg.set j s.pos).length _;rw[List.length_set];exact this
  .simp[hm] at e1;obtain⟨a,b⟩:=h.rows.k m y r e1 e2;exact⟨f3.own a (fun g hg e=>(h.rows.ne i m _ _ hr e2 T rfl).1 (e▸hg)),f3.own b (fun g hg e=>hm ((h.rows.ne i m _ _ hr e2 T rfl).2 (e▸hg)))⟩
 .subst hk;exact .inr (.inr (.inr (.inr (.inr ⟨_,zk hr,.inr rfl⟩))))
def Iz(p:Nat)(L:bz)(s:MkS)(w:World)(e:Ending)(w':World):Prop:=e = .returned (.tuple #[])/\ux p L s w'/\Fr (L.has p) (L.has p) w w'
theorem Uo(p:Nat)(L:bz)(s:MkS)(i j b c:Nat)(x:jG)(w:World)(h:ux p L s w)(hl:j6 w p i b c)(hi:s.code[i]? = some x)(hj:j<x.tg.length)(Zd:s.code.length<=1000000)(G7:x.tg.length<=1000000) :
  Calls prog 123 #[.int .i64 (j:Nat),.pointer (some ⟨b,0,none⟩),.pointer (some ⟨c,0,none⟩)] w (Iz p L (s.u7 i j) w):=by
 have tN:=(zf.1 hi).1;obtain⟨⟨kv,tv⟩,hr⟩:∃ r,L.rs[i]? = some r:=⟨_,zZ (by have:=h.rows.len;omega)⟩;obtain⟨hk,ht⟩:=h.rows.k i x _ hi hr;obtain⟨T,tc,rfl,-,hT,gO⟩:=vZ ht (by omega);obtain⟨I,ic,GF,-,hI,SU⟩:=vZ h.cI (by omega);have p0:=h.p0;have p1:=h.p1;have q1:=h.q1;rw[GF] at q1;have b0:=hl.pb;have c0:=hl.pc;have t0:w.cell? ⟨I,i*5+4,none⟩=some (.slice (some ⟨T,0,none⟩) x.tg.length tc):=by
  rw[SU _ (by omega),Ul _ _ h.rows.len i 4 x _ hi hr (by omega)];rfl
 have u0:w.cell? ⟨T,j,none⟩=some (.int .i64 (x.tg[j]:Nat)):=by
  rw[gO j (by omega)];simp[Zb,hj]
 have zT:w.frozen? ⟨T,j,none⟩=false:=by
  rcases ht.2 with⟨hv,_⟩|⟨g,cap,cur,hv,_,hh,_⟩
  .cases hv
  .cases hv;simp[World.frozen?,hh]
 have HM:=z7 (h.u7 (j:=j) hi hr);obtain⟨n,hn⟩:=xX s.code.length;obtain⟨m,hm⟩:=xX x.tg.length;obtain⟨pos,gx⟩:=xX s.pos;rw[hn] at q1 tN;rw[hm] at t0 hj;rw[gx] at p1 HM;have k1:(i:Int)<(n:Int):=by omega
 have k2:(j:Int)<(m:Int):=by omega
 clear h hl hk ht gO SU GF hi hr;go_enter func123,ntmps123;go_wp2_with fail;refine rk (fun W':World=>W'.cell? ⟨p,0,none⟩=some (.pointer (some ⟨L.q,0,none⟩))/\W'.cell? ⟨p,1,none⟩=some (.int .i64 pos)/\W'.cell? ⟨L.q,1,none⟩=some (.slice (some ⟨I,0,none⟩) n ic)/\W'.cell? ⟨b,0,none⟩=some (.pointer (some ⟨p,0,none⟩))/\W'.cell? ⟨c,0,none⟩=some (.int .i64 i)/\W'.cell? ⟨I,i*5+4,none⟩=some (.slice (some ⟨T,0,none⟩) m tc)) 17 (List.range 17) 1 ⟨p0,p1,q1,b0,c0,t0⟩ ?_;(iterate 17 (refine ty ?_;try simp only[pl]))
 refine xq ?_;refine BZ 17 (fun J hJ=>?_);go_simp;refine hJ.out _ _ ?_;clear hJ J;refine BX ?_ _;go_wp2;refine bodyPost_ret (v := .tuple #[]) ?_ rfl ?_
 .simp[results,results123,go_sem]
 exact⟨rfl,HM.out.1.drew,HM.out.2.drew⟩
def MkS.sz(s:MkS):Nat:=s.code.length+s.cs.length+s.pos
def MkS.one(s:MkS)(op:Nat)(t:Wd):MkS:=(s.const t).put op 0 [s.num t] []
theorem vY(s:MkS)(t:Wd):(s.const t).sz<=s.sz+1/\(s.const t).code=s.code/\(s.const t).pos=s.pos:=by
 unfold MkS.const;split
 .exact⟨by omega,rfl,rfl⟩
 .exact⟨by simp[MkS.sz];omega,rfl,rfl⟩
theorem gu(s:MkS)(op v:Nat)(k tg:List Nat):(s.put op v k tg).sz=s.sz+1+(uJ ⟨op,s.pos,v,k,tg⟩).length:=by simp[MkS.put,MkS.sz];omega
theorem gP(s:MkS)(i j:Nat):(s.u7 i j).sz=s.sz:=by simp[MkS.u7,MkS.sz]
theorem CE(s:MkS)(t:Wd):s.num t<=s.cs.length:=List.idxOf_le_length
theorem Fr.tr{F F' G G':Nat->Prop}{w w1 w2:World}(h:Fr F F' w w1)(k:Fr G G' w1 w2)(hg:∀ q,G q->F q\/w.heap.size<=q):Fr F G' w w2 :=
 ⟨k.os.trans h.os,k.tape.trans h.tape,k.output.trans h.output,zY h.size k.size,fun i hi hn=>(k.keep i (zg hi h.size) (fun q=>(hg i q).elim hn (by omega))).trans (h.keep i hi hn),
  fun i hi=>(k.fp i hi).elim (hg i) (fun q => .inr (zY h.size q))⟩
theorem qj.lit(w:World)(l:List Nat)(hl:l.length<=1000000):qj (w.alloc (.cells (Zb l).toArray 3)) (.slice (some ⟨w.heap.size,0,none⟩) l.length l.length) l:=by
 have h:=World.ownsRow_lit (base:=0) (e:=3) (size:=1) w (Zb l).toArray l.length (Nat.zero_le _) (by unfold maxLen;omega) (by simp[Zb]);simpa using h
theorem qj.nil(w:World):qj w (.slice none 0 0) []:=zF _ _ _ _
theorem gy.fr{w w':World}{F F':Nat->Prop}{B:Nat}(h:gy w)(hf:Fr F F' w w')(hF:∀ k,F k->B<=k)(hB:2<B):gy w':=fun o ho=>hf.cell (h o ho) (fun q=>by have:=hF _ q;simp only at this;omega)
def MQ(p:Nat)(L:bz)(s:MkS)(w:World)(e:Ending)(w':World):Prop:=e = .returned (.tuple #[])/\MkQ p L s w w'
theorem CH(p:Nat)(L:bz)(s:MkS)(op:Nat)(t:Wd)(w:World)(h:ux p L s w)(uM:op=1\/op=2\/op=3)(ht:t.length<=5000000)(hs:s.sz<=900000)(hF:gy w)(hB:2<L.B) :
  Calls prog 120 #[.pointer (some ⟨p,0,none⟩),.int .i64 (op:Nat),xg t] w (MQ p L (s.one op t) w):=by
 have qc:s.cs.length<=900000:=by unfold MkS.sz at hs;omega
 have HC:=z7 (Vf p L s t w h ht (by omega));have HH:=z7 h;have HF:=z7 hF;obtain⟨n,hn⟩:=xX (s.num t);have bO:n<=900000:=by have:=CE s t;omega
 have HN:=z7 hn;rw[hn] at HC;obtain⟨z1,z2,z3⟩:=vY s t;have hlb:=h.base.2;clear h hF hn;go_enter func120,ntmps120;go_wp2_with fail;refine HC.out.mono ?_;rintro e w1 ⟨rfl,L1,Vl,⟨UP,XF⟩,ug⟩;clear HC;have DW:=qj.lit w1 [n] (by simp);have jA:=Vl.alloc (.cells (Zb [n]).toArray 3);have hx:(uJ ⟨op,(s.const t).pos,0,[n],[]⟩).length<=1000:=by rcases uM with rfl|rfl|rfl<;>simp[uJ,fZ,jZ,jb]
 have HP:=z7 (bq p L1 (s.const t) op 0 [n] [] (.slice (some ⟨w1.heap.size,0,none⟩) 1 1) (.slice none 0 0) (w1.alloc (.cells (Zb [n]).toArray 3)) jA DW (qj.nil _) (fun g hg q=>by cases hg;exact Nat.lt_irrefl _ (Vl.lt q)) (fun g hg=>by cases hg) (fun g hg=>by cases hg)
  (fun g hg=>by rcases hg with hg|hg<;>cases hg;have:=Vl.base;show L1.B<=w1.heap.size;omega)
  ⟨by show op<12;omega,by simp,by simp;omega,by simp,by simp,by rcases uM with rfl|rfl|rfl<;>rfl⟩ ((HF.out.fr ug HH.out.lo hB).fr ((Fr.refl xI w1).alloc _) (fun _ q=>q.elim) hB) (by rw[XF];exact hB) (by have:=z2;unfold MkS.sz at hs z1;omega) (by rw[z3];unfold MkS.sz at hs;omega) (by omega))
 go_wp2_with fail;refine HP.out.mono ?_;rintro e w2 ⟨b,c,rfl,hl,hb,hc,L2,Jz,⟨kh,Kw⟩,vU,-,-⟩;clear HP;go_wp2;refine bodyPost_ret (v := .tuple #[]) ?_ rfl ?_
 .simp[results,results120,go_sem]
 refine⟨rfl,L2,?_,⟨kh.trans UP,Kw.trans XF⟩,(ug.alloc _).tr vU (fun q hq=>?_)⟩
 .unfold MkS.one;rw[HN.out];exact Jz
 .rcases hq with hq|hq|hq
  .exact ug.fp q hq
  .cases hq;exact .inr ug.size
  .cases hq
end Go.Proofs.YthpldolmpinnhaaGreatDoor
