import Derived.Test.YthpldolmpinnhaaGreatDoorJ5
import Derived.Maps.OwnSet
import Derived.Maps.Views
namespace Go.Proofs.YthpldolmpinnhaaGreatDoor
open Go Go.RowKit
set_option maxRecDepth 10000
def MapG (e:TypeId) (w:World) (b n:Nat) (f:Wd->Option Nat):Prop :=
 ∃ D:DataW Unit,w.ownsMap Tryz.prog 9 (plainElem Tryz.prog e) b n D/\Maps.IsMap D/\∀ m:Wd,Maps.has D (.string m)=(f m).isSome/\D.atKey (.string m) (.lit (.int .i64 0)) = .lit (.int .i64 (((f m).getD 0:Nat):Int))
structure MapT (t e:TypeId):Prop where
 map:Tryz.prog.underlying t=some (.map 9 e)
 el:Tryz.prog.underlying e=some (.int .i64)
 zero:∀ w,(zeroValue e).run Tryz.prog w = .ok (.int .i64 0) w
theorem MapG.keep {e:TypeId} {w w':World} {b n:Nat} {f:Wd->Option Nat} (h:MapG e w b n f) (hb:w'.heap[b]? = w.heap[b]?):MapG e w' b n f:=by
 obtain ⟨D,h1,h2⟩:=h;obtain ⟨es,clock,ho,rest⟩:=h1;exact ⟨D,⟨es,clock,hb.trans ho,rest⟩,h2⟩
theorem MapG.lt {e:TypeId} {w:World} {b n:Nat} {f:Wd->Option Nat} (h:MapG e w b n f):b<w.heap.size:=by
 obtain ⟨D,⟨es,clock,ho,_⟩,_⟩:=h;exact (Array.getElem?_eq_some_iff.1 ho).1
theorem MapG.below {e:TypeId} {w w':World} {b n:Nat} {f:Wd->Option Nat} (h:MapG e w b n f) (hb:Below w.heap.size w w'):MapG e w' b n f:=h.keep (hb.block b h.lt)
theorem MapG.made (e:TypeId) (w:World):MapG e (w.alloc (.map #[] 0)) w.heap.size 0 (fun _=>none) :=
 ⟨.map [],World.ownsMap_made w _ _ _,⟨_,rfl⟩,fun m=>⟨rfl,rfl⟩⟩
section
variable {t e:TypeId}
theorem MapG.look {w:World} {b n:Nat} {f:Wd->Option Nat} (T:MapT t e) (h:MapG e w b n f) (m:Wd) (hm:m.length<=5000000) :
  (Instr.lookup t (.map (some b)) (strv m) true).run Tryz.prog w = .ok (.tuple #[.int .i64 (((f m).getD 0:Nat):Int),.bool (f m).isSome]) w:=by
 obtain ⟨D,h1,h2,h3⟩:=h;obtain ⟨v,ps,hrun,hv⟩:=h1.look_ok (Maps.string_keyed Tryz.underlying9) T.map (z := .int .i64 0) (T.zero w) (plainElem_int T.el (by decide))
  (key:=strv m) (WideMaps.keyOf_string_mk (s:=⟨m.toArray⟩) Tryz.underlying9 (by rw [size_mk];unfold maxLen;omega))
 rw [toList_mk] at hrun hv;rw [(h3 m).1] at hrun;rw [(h3 m).2] at hv;obtain ⟨c,rfl,hc,_⟩:=plainElem_int_inv T.el hv;simp only [Prod.mk.injEq,DataW.lit.injEq,Lit.int.injEq] at hc;rw [hrun,←hc.1.2]
theorem MapG.look1 {w:World} {b n:Nat} {f:Wd->Option Nat} (T:MapT t e) (h:MapG e w b n f) (m:Wd) (hm:m.length<=5000000) :
  (Instr.lookup t (.map (some b)) (strv m) false).run Tryz.prog w = .ok (.int .i64 (((f m).getD 0:Nat):Int)) w:=by
 obtain ⟨D,h1,h2,h3⟩:=h;obtain ⟨c,hrun,hat,_⟩:=h1.lookup_int (Maps.string_keyed Tryz.underlying9) T.map T.el (q := .i64) (T.zero w)
  (key:=strv m) (WideMaps.keyOf_string_mk (s:=⟨m.toArray⟩) Tryz.underlying9 (by rw [size_mk];unfold maxLen;omega))
 rw [toList_mk,(h3 m).2] at hat;simp only [DataW.lit.injEq,Lit.int.injEq,true_and] at hat;rw [hrun,←hat]
theorem MapG.put {w:World} {b n:Nat} {f:Wd->Option Nat} (T:MapT t e) (h:MapG e w b n f) (m:Wd) (hm:m.length<=5000000) (v:Int) (k:Nat) (hv:v=(k:Int)) (hk:k<=1000000000) (hn:n<=1000000000) :
  ∃ w',(Instr.mapUpdate t (.map (some b)) (strv m) (.int .i64 v)).run Tryz.prog w = .ok () w'/\MapG e w' b (n+1) (fun x=>if m=x then some k else f x)/\w.grownBy w' (some b):=by
 subst hv;obtain ⟨D,h1,h2,h3⟩:=h;obtain ⟨w',hrun,hown,hg⟩:=h1.update (Maps.string_keyed Tryz.underlying9) T.map (by unfold maxLen;omega) (key:=strv m) (WideMaps.keyOf_string_mk (s:=⟨m.toArray⟩) Tryz.underlying9 (by rw [size_mk];unfold maxLen;omega))
  (plainElem_int T.el (q := .i64) (a:=(k:Int)) (by simp [Lit.wf,IntKind.min,IntKind.max,IntKind.signed,IntKind.bits];omega))
 rw [toList_mk] at hown;refine ⟨w',hrun,⟨_,hown,h2.put _ _,fun x=>?_⟩,hg⟩;by_cases hx:m=x
 ·subst hx;simp only [↓reduceIte];exact ⟨by rw [Maps.has_put_same h2 (show WideAt.IsKeyLit (.string m) from trivial)];simp,by rw [Maps.atKey_put_same h2 (show WideAt.IsKeyLit (.string m) from trivial)];simp⟩
 ·simp only [hx,↓reduceIte];have hne:(Lit.string x) ≠ .string m:=fun q=>hx (by cases q;rfl)
  exact ⟨by rw [Maps.has_put_other hne];exact (h3 x).1,by rw [Maps.atKey_put_other hne];exact (h3 x).2⟩
end
structure MkS where
 cs:List Wd
 code:List InL
 pos:Nat
namespace MkS
def const (s:MkS) (t:Wd):MkS:=if t∈s.cs then s else { s with cs:=s.cs++[t] }
def num (s:MkS) (t:Wd):Nat:=s.cs.idxOf t
def put (s:MkS) (op v:Nat) (k tg:List Nat):MkS:={ s with code:=s.code++[⟨op,s.pos,v,k,tg⟩],pos:=s.pos+(insX ⟨op,s.pos,v,k,tg⟩).length }
def leap (s:MkS) (i j:Nat):MkS:={ s with code:=s.code.modify i fun x=>{ x with tg:=x.tg.set j s.pos } }
end MkS
structure Lay where
 B:Nat
 q:Nat
 m:Nat
 vC:Value
 vI:Value
 rs:List (Value×Value)
def Lay.has (L:Lay) (p k:Nat):Prop:=k=p\/k=L.q\/k=L.m\/rowF L.vC k\/rowF L.vI k\/∃ r∈L.rs,rowF r.1 k\/rowF r.2 k
def insV (i:InL) (r:Value×Value):List Value:=[.int .i64 i.op,.int .i64 i.pos,.int .i64 i.v,r.1,r.2]
def insR:List InL->List (Value×Value)->List Value
 | i::l,r::rs=>insV i r++insR l rs
 | _,_=>[]
def intC (l:List Nat):List Value:=l.map fun x => .int .i64 (x:Nat)
abbrev NRow (w:World) (v:Value) (l:List Nat):Prop:=w.ownsRow 0 3 1 v l.length (intC l)
theorem elem_ins:Elem Tryz.prog 123 128 (.agg #[.int .i64 0,.int .i64 0,.int .i64 0,.slice none 0 0,.slice none 0 0]) 5 72 :=
 ⟨Tryz.underlying123,info_parts (by kernel_rfl),rfl,by decide,by decide⟩
theorem insR_app:∀ (l:List InL) (rs:List (Value×Value)) (i:InL) (r:Value×Value),rs.length=l.length->insR (l++[i]) (rs++[r])=insR l rs++insV i r
 | [],[],i,r,_=>by simp [insR]
 | [],r'::rs,i,r,h=>by simp at h
 | i'::l,[],i,r,h=>by simp at h
 | i'::l,r'::rs,i,r,h=>by simp [insR,insR_app l rs i r (by simpa using h)]
theorem insR_at:∀ (l:List InL) (rs:List (Value×Value)),rs.length=l.length->∀ n j (i:InL) (r:Value×Value),l[n]? = some i->rs[n]? = some r->j<5->(insR l rs)[n*5+j]? = (insV i r)[j]?
 | [],_,_,n,j,i,r,h,_,_=>by simp at h
 | i'::l,[],h,_,_,_,_,_,_,_=>by simp at h
 | i'::l,r'::rs,h,0,j,i,r,h1,h2,hj=>by
  simp at h1 h2;subst h1 h2;simp only [insR,Nat.zero_mul,Nat.zero_add];exact List.getElem?_append_left (by simpa [insV] using hj)
 | i'::l,r'::rs,h,n+1,j,i,r,h1,h2,hj=>by
  have:=insR_at l rs (by simpa using h) n j i r (by simpa using h1) (by simpa using h2) hj;rw [←this];simp only [insR];rw [List.getElem?_append_right (by simp [insV];omega)];congr 1;simp [insV];omega
theorem insR_mod:∀ (l:List InL) (rs:List (Value×Value)) (n:Nat) (f:List Nat->List Nat),insR (l.modify n fun x=>{ x with tg:=f x.tg }) rs=insR l rs
 | [],_,n,f=>by simp [insR]
 | i::l,[],0,f=>by simp [insR]
 | i::l,[],n+1,f=>by simp [insR]
 | i::l,r::rs,0,f=>by simp [insR,insV]
 | i::l,r::rs,n+1,f=>by simp [insR,insR_mod l rs n f]
def typ (w:World) (k:Nat):Option TypeId:=match w.heap[k]? with | some (.cells _ t _)=>some t | _=>none
theorem own_typ {w:World} {base size n:Nat} {e:TypeId} {v:Value} {xs:List Value} (h:w.ownsRow base e size v n xs) {g:Nat} (hg:rowF v g):typ w g=some e:=by
 rcases h.2 with ⟨hv,_⟩ | ⟨g',cap,cur,hv,_,hh,_⟩
 ·rw [hv] at hg;cases hg
 ·rw [hv] at hg;cases hg;simp [typ,hh]
theorem typ_keep {w w':World} {k:Nat} (h:w'.heap[k]? = w.heap[k]?):typ w' k=typ w k:=by unfold typ;rw [h]
theorem typ_set (w:World) (a:Addr) (u:Value) (k:Nat):typ (w.setCell a u) k=typ w k:=by
 by_cases hk:k=a.block
 ·subst hk;unfold typ World.setCell;simp only [Array.getElem?_modify,if_true]
  cases hh:w.heap[a.block]? with
  | none=>rfl
  | some o=>cases o<;>rfl
 ·exact typ_keep (Below.heap_setCell _ _ _ _ hk)
theorem typ_made (w:World) (c:Array Value) (t:TypeId):typ (w.alloc (.cells c t)) w.heap.size=some t:=by
 unfold typ;show (match (w.heap.push (.cells c t (0,0)))[w.heap.size]? with | some (.cells _ t _)=>some t | _=>none)=_;simp
theorem typ_lt {w:World} {k:Nat} {t:TypeId} (h:typ w k=some t):k<w.heap.size:=by
 unfold typ at h;split at h
 ·next hh=>exact (Array.getElem?_eq_some_iff.1 hh).1
 ·cases h
theorem map_typ {e:TypeId} {w:World} {b n:Nat} {f:Wd->Option Nat} (h:MapG e w b n f):typ w b=none:=by
 obtain ⟨D,⟨es,clock,ho,_⟩,_⟩:=h;simp [typ,ho]
def constF (cs:List Wd) (t:Wd):Option Nat:=if t∈cs then some (cs.idxOf t) else none
structure RowsAt (w:World) (code:List InL) (rs:List (Value×Value)):Prop where
 len:rs.length=code.length
 k:∀ (n:Nat) (i:InL) (r:Value×Value),code[n]? = some i->rs[n]? = some r->NRow w r.1 i.k/\NRow w r.2 i.tg
 ne:∀ (n m:Nat) (r r':Value×Value),rs[n]? = some r->rs[m]? = some r'->∀ g,rowF r.2 g->¬rowF r'.1 g/\(rowF r'.2 g->n=m)
theorem RowsAt.fr {w w':World} {F F':Nat->Prop} {code:List InL} {rs:List (Value×Value)} (h:RowsAt w code rs) (hf:Fr F F' w w') (hF:∀ k,F k->typ w k≠some 3):RowsAt w' code rs :=
 ⟨h.len,fun n i r h1 h2=>by
  obtain ⟨a,b⟩:=h.k n i r h1 h2;exact ⟨hf.own a (fun g hg hq=>hF g hq (own_typ a hg)),hf.own b (fun g hg hq=>hF g hq (own_typ b hg))⟩,h.ne⟩
structure MkAt (p:Nat) (L:Lay) (s:MkS) (w:World):Prop where
 p0:w.cell? ⟨p,0,none⟩=some (.pointer (some ⟨L.q,0,none⟩))
 p1:w.cell? ⟨p,1,none⟩=some (.int .i64 s.pos)
 p2:w.cell? ⟨p,2,none⟩=some (.map (some L.m))
 q0:w.cell? ⟨L.q,0,none⟩=some L.vC
 q1:w.cell? ⟨L.q,1,none⟩=some L.vI
 q2:w.cell? ⟨L.q,2,none⟩=some (.map none)
 zp:∀ j,w.frozen? ⟨p,j,none⟩=false
 zq:∀ j,w.frozen? ⟨L.q,j,none⟩=false
 tp:typ w p=some 187
 tq:typ w L.q=some 126
 mp:MapG 3 w L.m s.cs.length (constF s.cs)
 cC:w.ownsRow 0 9 1 L.vC s.cs.length (s.cs.map strv)
 cI:w.ownsRow 0 128 5 L.vI s.code.length (insR s.code L.rs)
 rows:RowsAt w s.code L.rs
 lo:∀ k,L.has p k->L.B<=k
theorem MapG.fr {e:TypeId} {w w':World} {F F':Nat->Prop} {b n:Nat} {f:Wd->Option Nat} (h:MapG e w b n f) (hf:Fr F F' w w') (hb:¬F b):MapG e w' b n f:=h.keep (hf.keep b h.lt hb)
theorem MkAt.fr {p:Nat} {L:Lay} {s:MkS} {w w':World} {F F':Nat->Prop} (h:MkAt p L s w) (hf:Fr F F' w w') (hF:∀ k,F k->¬L.has p k):MkAt p L s w':=by
 have np:¬F p:=fun q=>hF p q (.inl rfl)
 have nq:¬F L.q:=fun q=>hF _ q (.inr (.inl rfl))
 have lp:=typ_lt h.tp;have lq:=typ_lt h.tq;refine ⟨hf.cell h.p0 np,hf.cell h.p1 np,hf.cell h.p2 np,hf.cell h.q0 nq,hf.cell h.q1 nq,hf.cell h.q2 nq,fun j=>(hf.frozen lp np).trans (h.zp j),fun j=>(hf.frozen lq nq).trans (h.zq j),(typ_keep (hf.keep p lp np)).trans h.tp,(typ_keep (hf.keep _ lq nq)).trans h.tq,
  h.mp.fr hf (fun q=>hF _ q (.inr (.inr (.inl rfl)))),hf.own h.cC (fun g hg q=>hF g q (.inr (.inr (.inr (.inl hg))))),hf.own h.cI (fun g hg q=>hF g q (.inr (.inr (.inr (.inr (.inl hg)))))),⟨h.rows.len,fun n i r h1 h2=>?_,h.rows.ne⟩,h.lo⟩
 obtain ⟨a,b⟩:=h.rows.k n i r h1 h2;have hr:=List.mem_of_getElem? h2;exact ⟨hf.own a (fun g hg q=>hF g q (.inr (.inr (.inr (.inr (.inr ⟨r,hr,.inl hg⟩)))))),hf.own b (fun g hg q=>hF g q (.inr (.inr (.inr (.inr (.inr ⟨r,hr,.inr hg⟩))))))⟩
theorem MkAt.lt {p:Nat} {L:Lay} {s:MkS} {w:World} (h:MkAt p L s w) {k:Nat} (hk:L.has p k):k<w.heap.size:=by
 rcases hk with rfl | rfl | rfl | hk | hk | ⟨r,hr,hk⟩
 ·exact typ_lt h.tp
 ·exact typ_lt h.tq
 ·exact h.mp.lt
 ·exact own_in h.cC hk
 ·exact own_in h.cI hk
 ·obtain ⟨n,hn,e⟩:=List.mem_iff_getElem.1 hr;have h1:L.rs[n]? = some r:=by rw [List.getElem?_eq_getElem hn,e]
  have h2:s.code[n]? = some (s.code[n]'(by have:=h.rows.len;omega)):=List.getElem?_eq_getElem _;obtain ⟨a,b⟩:=h.rows.k n _ r h2 h1;exact hk.elim (own_in a) (own_in b)
theorem MkAt.alloc {p:Nat} {L:Lay} {s:MkS} {w:World} (h:MkAt p L s w) (o:Obj):MkAt p L s (w.alloc o):=h.fr ((Fr.refl noF w).alloc o) (fun _ q=>q.elim)
theorem MkAt.drew {p:Nat} {L:Lay} {s:MkS} {w:World} (h:MkAt p L s w):MkAt p L s w.drew:=h.fr (Fr.refl noF w).drew (fun _ q=>q.elim)
theorem MkAt.base {p:Nat} {L:Lay} {s:MkS} {w:World} (h:MkAt p L s w):L.B<=p/\p<w.heap.size:=⟨h.lo p (.inl rfl),typ_lt h.tp⟩
theorem MkAt.low {p:Nat} {L L':Lay} {s:MkS} {w w':World} (h:MkAt p L s w) (hb:L'.B=L.B) (hf:Fr (L.has p) (L'.has p) w w'):∀ k,L'.has p k->L'.B<=k:=fun k hk=>by
 have:=h.base;rw [hb];exact (hf.fp k hk).elim (h.lo k) (by omega)
def MkQ (p:Nat) (L:Lay) (s:MkS) (w w':World):Prop:=∃ L',MkAt p L' s w'/\(L'.q=L.q/\L'.B=L.B)/\Fr (L.has p) (L'.has p) w w'
theorem mapt_i:MapT 185 3:=⟨Tryz.underlying185,Tryz.underlying3,fun w=>by simp [go_sem]⟩
theorem constF_more {cs:List Wd} {t:Wd} (h:t ∉ cs):(fun x=>if t=x then some cs.length else constF cs x)=constF (cs++[t]):=by
 funext x;unfold constF;by_cases hx:t=x
 ·subst hx;simp [h,List.idxOf_append,List.idxOf_cons]
 ·have hx':¬x=t:=fun e=>hx e.symm
  by_cases hm:x∈cs
  ·simp [hx,hm,List.idxOf_append]
  ·simp [hx,hm,hx']
theorem MkAt.nC {p:Nat} {L:Lay} {s:MkS} {w:World} (h:MkAt p L s w) {g:Nat} (hg:rowF L.vC g):g≠p/\g≠L.q/\g≠L.m/\¬rowF L.vI g:=by
 have t:=own_typ h.cC hg;refine ⟨?_,?_,?_,fun q=>?_⟩
 ·rintro rfl;rw [h.tp] at t;simp at t
 ·rintro rfl;rw [h.tq] at t;simp at t
 ·rintro rfl;rw [map_typ h.mp] at t;cases t
 ·rw [own_typ h.cI q] at t;simp at t
theorem MkAt.nI {p:Nat} {L:Lay} {s:MkS} {w:World} (h:MkAt p L s w) {g:Nat} (hg:rowF L.vI g):g≠p/\g≠L.q/\g≠L.m:=by
 have t:=own_typ h.cI hg;refine ⟨?_,?_,?_⟩
 ·rintro rfl;rw [h.tp] at t;simp at t
 ·rintro rfl;rw [h.tq] at t;simp at t
 ·rintro rfl;rw [map_typ h.mp] at t;cases t
theorem MkAt.nP {p:Nat} {L:Lay} {s:MkS} {w:World} (h:MkAt p L s w):p≠L.q/\p≠L.m/\L.q≠L.m:=by
 refine ⟨fun e=>?_,fun e=>?_,fun e=>?_⟩
 ·have:=h.tp;rw [e,h.tq] at this;simp at this
 ·have:=h.tp;rw [e,map_typ h.mp] at this;cases this
 ·have:=h.tq;rw [e,map_typ h.mp] at this;cases this
theorem MkAt.more {p:Nat} {L:Lay} {s:MkS} {w w1 w2:World} {t:Wd} {v':Value} (h:MkAt p L s w) (ht:t ∉ s.cs) (hm:MapG 3 w1 L.m (s.cs.length+1) (fun x=>if t=x then some s.cs.length else constF s.cs x)) (h1:w.grownBy w1 (some L.m))
  (hC:w2.ownsRow 0 9 1 v' (s.cs.length+1) (s.cs.map strv++[strv t])) (h2:Fr (rowF L.vC) (rowF v') w1 w2) :
  ∃ L',MkAt p L' { s with cs:=s.cs++[t] } (w2.setCell ⟨L.q,0,none⟩ v')/\(L'.q=L.q/\L'.B=L.B)/\Fr (L.has p) (L'.has p) w (w2.setCell ⟨L.q,0,none⟩ v'):=by
 obtain ⟨n1,n2,n3⟩:=h.nP;have nC:=fun g hg=>h.nC (g:=g) hg
 have nI:=fun g hg=>h.nI (g:=g) hg
 have lq:=typ_lt h.tq;have lp:=typ_lt h.tp;have f1:Fr (fun k=>k=L.m) (fun k=>k=L.m) w w1:=⟨h1.os,h1.tape,h1.output,h1.size,fun k hk hn=>h1.block k hk (fun e=>hn (Option.some.inj e)),fun _ q => .inl q⟩;have f2:Fr (fun k=>k=L.m\/rowF L.vC k) (fun k=>k=L.m\/rowF v' k) w w2:=by
  have a:=f1.wide (G:=fun k=>k=L.m\/rowF L.vC k) (fun _ q => .inl q);exact ⟨h2.os.trans a.os,h2.tape.trans a.tape,h2.output.trans a.output,Nat.le_trans a.size h2.size,fun k hk hn=>(h2.keep k (Nat.lt_of_lt_of_le hk a.size) (fun q=>hn (.inr q))).trans (a.keep k hk hn),fun k q=>q.elim (fun q => .inl (.inl q)) (fun q=>(h2.fp k q).imp .inr (Nat.le_trans a.size))⟩
 have nq:¬(L.q=L.m\/rowF L.vC L.q):=fun q=>q.elim n3 (fun q=>(nC _ q).2.1 rfl)
 have np:¬(p=L.m\/rowF L.vC p):=fun q=>q.elim n2 (fun q=>(nC _ q).1 rfl)
 have lv:∀ g,rowF v' g->rowF L.vC g\/w.heap.size<=g:=fun g hg=>(h2.fp g hg).imp id (Nat.le_trans f1.size)
 have cq:=f2.cell h.q0 nq;have nv:¬rowF v' L.q:=fun q=>(lv _ q).elim (fun q=>(nC _ q).2.1 rfl) (by omega)
 have f3:Fr (fun k=>k=L.m\/rowF L.vC k\/k=L.q) (fun k=>k=L.m\/rowF L.vC k\/k=L.q) w (w2.setCell ⟨L.q,0,none⟩ v'):=(f2.wide (fun _ q=>q.elim .inl (fun q => .inr (.inl q)))).set _ (.inl (.inr (.inr rfl)));have np3:¬(p=L.m\/rowF L.vC p\/p=L.q):=fun q=>q.elim n2 (fun q=>q.elim (fun q=>(nC _ q).1 rfl) n1)
 have nI3:∀ g,rowF L.vI g->¬(g=L.m\/rowF L.vC g\/g=L.q):=fun g hg q=>q.elim (nI g hg).2.2 (fun q=>q.elim (fun q=>(nC _ q).2.2.2 hg) (nI g hg).2.1)
 have FR:Fr (L.has p) (Lay.has { L with vC:=v' } p) w (w2.setCell ⟨L.q,0,none⟩ v'):=by
  refine (f3.wide (G:=L.has p) (fun k hk=>by rcases hk with hk | hk | hk;exact .inr (.inr (.inl hk));exact .inr (.inr (.inr (.inl hk)));exact .inr (.inl hk))).tg fun k hk=>?_
  rcases hk with hk | hk | hk | hk | hk | hk
  ·exact .inl (.inl hk)
  ·exact .inl (.inr (.inl hk))
  ·exact .inl (.inr (.inr (.inl hk)))
  ·exact (lv k hk).imp (fun q => .inr (.inr (.inr (.inl q)))) id
  ·exact .inl (.inr (.inr (.inr (.inr (.inl hk)))))
  ·exact .inl (.inr (.inr (.inr (.inr (.inr hk)))))
 refine ⟨{ L with vC:=v' },⟨f3.cell h.p0 np3,f3.cell h.p1 np3,f3.cell h.p2 np3,cell_put cq _,?_,?_,fun j=>(f3.frozen lp np3).trans (h.zp j),fun j=>?_,(typ_keep (f3.keep p lp np3)).trans h.tp,?_,?_,?_,f3.own h.cI nI3,h.rows.fr f3 ?_,h.low rfl FR⟩,⟨rfl,rfl⟩,FR⟩
 ·rw [cellSet,if_neg (by simp)];exact f2.cell h.q1 nq
 ·rw [cellSet,if_neg (by simp)];exact f2.cell h.q2 nq
 ·rw [World.frozen?_setCell];exact (f2.frozen lq nq).trans (h.zq j)
 ·rw [typ_set];exact (typ_keep (f2.keep _ lq nq)).trans h.tq
 ·have hm2:MapG 3 w2 L.m (s.cs.length+1) (fun x=>if t=x then some s.cs.length else constF s.cs x):=hm.fr h2 (fun q=>(nC _ q).2.2.1 rfl);rw [constF_more ht] at hm2;have:=hm2.keep (w':=w2.setCell ⟨L.q,0,none⟩ v') (Below.heap_setCell _ _ _ _ (fun e=>n3 e.symm));simpa using this
 ·have:=ownsRow_setCell_other hC (a:=⟨L.q,0,none⟩) nv v';simpa using this
 ·intro k hk;rcases hk with rfl | hk | rfl
  ·rw [map_typ h.mp];simp
  ·rw [own_typ h.cC hk];simp
  ·rw [h.tq];simp
set_option maxHeartbeats 2000000 in
theorem const_any (p:Nat) (L:Lay) (s:MkS) (t:Wd) (w:World) (h:MkAt p L s w) (ht:t.length<=5000000) (hl:s.cs.length<=1000000) :
  Calls Tryz.prog 160 #[.pointer (some ⟨p,0,none⟩),strv t] w fun e w'=>e = .returned (.int .i64 (s.num t:Nat))/\∃ L',MkAt p L' (s.const t) w'/\(L'.q=L.q/\L'.B=L.B)/\Fr (L.has p) (L'.has p) w w':=by
 have HH:=Lib.hid h;have p0:=h.p0;have p2:=h.p2;have q0:=h.q0;have hlk:=h.mp.look mapt_i t ht;by_cases hin:t∈s.cs
 ·rw [show constF s.cs t=some (s.num t) from if_pos hin] at hlk;have HC:=Lib.hid (show s.const t=s from if_pos hin);clear h hin;go_enter Tryz.func160,Tryz.ntmps160
  go_wp2
  go_ret
  rw [HC.out];exact ⟨rfl,L,HH.out,⟨rfl,rfl⟩,Fr.refl _ _⟩
 ·rw [show constF s.cs t=none from if_neg hin] at hlk;have HC:=Lib.hid (show s.const t={ s with cs:=s.cs++[t] } from if_neg hin);have HN:=Lib.hid (show s.num t=s.cs.length from List.idxOf_eq_length hin);obtain ⟨w1,hput,hmp,hgr⟩:=h.mp.put mapt_i t ht (s.cs.length:Nat) s.cs.length rfl (by omega) (by omega);obtain ⟨n,hn⟩:∃ n,s.cs.length=n:=⟨_,rfl⟩;have HIN:=Lib.hid hin;have p01:=hgr.cell p0 (fun e=>h.nP.2.1 (Option.some.inj e));have q01:=hgr.cell q0 (fun e=>h.nP.2.2 (Option.some.inj e));have hown:w1.ownsRow 0 9 1 L.vC s.cs.length (s.cs.map strv):=h.cC.kept hgr (by
   cases hv:L.vC.ownBlock with
   | none=>exact .inl rfl
   | some g=>exact .inr (fun e=>(h.nC hv).2.2.1 (Option.some.inj e)))
  obtain ⟨ca,cc,hvC⟩:=own_slice hown;rw [hn] at hput hmp hown hvC;rw [hvC] at q0 q01 hown;clear h hin;go_enter Tryz.func160,Tryz.ntmps160
  go_wp2_with fail
  refine rk (fun W':World=>W'.cell? ⟨p,0,none⟩=some (.pointer (some ⟨L.q,0,none⟩))/\W'.cell? ⟨L.q,0,none⟩=some (.slice ca n cc)) 16 [0,1,2,3,4,5,6,7,8,9,10,11] 5 ⟨p01,q01⟩ ?_;(iterate 12 (refine ty ?_;try simp only [pl]))
  refine takes_nil ?_;refine wpAnyK_only 12 (by kernel_rfl) rfl (fun J hJ=>?_);go_simp
  refine hJ.out _ _ ⟨cell_al p01 _,cell_al q01 _⟩ fun _=>?_
  clear hJ J;refine wpAnyK_only 13 (by kernel_rfl) rfl (fun J hJ=>?_);rw [if_pos (by rfl)];change Oper.wp _ _ _ (w1.drew.alloc (.cells [_].toArray _)) _ _
  refine app_newo elem_strs [_] 1 (by exact hown) (by omega) ?_;intro v2 w2 ho2 hf2;have hf2:=hf2.und;rw [←hvC] at hf2;have HH2:=Lib.hid hf2;have p02:=hf2.cell p01 (fun q=>(HH.out.nC q).1 rfl);have q02:=hf2.cell q01 (fun q=>(HH.out.nC q).2.1 rfl);have z2:=(hf2.frozen (World.block_lt_of_cell? _ _ q01) (fun q=>(HH.out.nC q).2.1 rfl)).trans ((World.frozen?_of_block (hgr.block L.q (World.block_lt_of_cell? _ _ q0) (fun e=>HH.out.nP.2.2 (Option.some.inj e)))).trans (HH.out.zq 0));rw [←hn] at ho2 hmp;have HX:=Lib.hid (HH.out.more HIN.out hmp hgr ho2 hf2);rw [hn] at ho2;obtain ⟨a2,c2,rfl⟩:=own_slice ho2;clear ho2 hf2 hmp hvC hown;go_simp
  refine hJ.out _ _ ⟨p02,q02⟩ fun _=>?_
  clear hJ J;refine wpAnyK_more [14,15] 1 rfl (by intro _ _ d _ _ h;cases d<;>exact h) (by kernel_rfl) (by kernel_rfl) ⟨p02,q02⟩ ?_;(iterate 2 (refine ty ?_;try simp only [pl]))
  refine takes_nil ?_;refine wpAnyK_last 16 (by kernel_rfl) (by kernel_rfl) rfl (fun J hJ=>?_);go_simp
  refine hJ.out _ _ ?_;clear hJ J;refine wpAnyK_done (by kernel_rfl) ?_ _;go_wp2
  go_ret
  rw [HC.out,HN.out,hn];exact ⟨rfl,HX.out⟩
structure LeapAt (w:World) (p:Nat) (i:Nat) (b c:Nat):Prop where
 pb:w.cell? ⟨b,0,none⟩=some (.pointer (some ⟨p,0,none⟩))
 pc:w.cell? ⟨c,0,none⟩=some (.int .i64 (i:Nat))
 tb:typ w b=some 184
 tc:typ w c=some 3
abbrev leapV (b c:Nat):Value := .func (.func 123) #[] #[.pointer (some ⟨b,0,none⟩),.pointer (some ⟨c,0,none⟩)]
theorem NRow.nums {w:World} {v:Value} {l:List Nat} (h:NRow w v l):NumsAt w v l:=by
 rcases h.2 with ⟨rfl,hn⟩ | ⟨g,cap,cur,rfl,_,hh,hnc,hcm,hcs,ht⟩
 ·exact ⟨none,0,by rw [hn],by omega,Nat.zero_le _,fun j hj=>by omega⟩
 ·refine ⟨_,cap,rfl,hnc,hcm,fun j hj=>⟨_,rfl,?_⟩⟩;rw [addr_add0,World.ownsRow.cellAt h j (by omega)];simp [intC,hj]
theorem MkAt.moreI {p:Nat} {L:Lay} {s:MkS} {w w2:World} {i:InL} {kv tv v':Value} (h:MkAt p L s w) (hk:NRow w kv i.k) (ht:NRow w tv i.tg) (nk:∀ g,rowF kv g->¬L.has p g) (nt:∀ g,rowF tv g->¬L.has p g) (nn:∀ g,rowF tv g->¬rowF kv g)
  (lk:∀ g,rowF kv g\/rowF tv g->L.B<=g) (ho:w2.ownsRow 0 128 5 v' (s.code.length+1) (insR s.code L.rs++insV i (kv,tv))) (h2:Fr (rowF L.vI) (rowF v') w w2) :
  ∃ L',MkAt p L' { s with code:=s.code++[i] } (w2.setCell ⟨L.q,1,none⟩ v')/\(L'.q=L.q/\L'.B=L.B)/\Fr (fun g=>L.has p g\/rowF kv g\/rowF tv g) (L'.has p) w (w2.setCell ⟨L.q,1,none⟩ v'):=by
 obtain ⟨n1,n2,n3⟩:=h.nP;have nC:=fun g hg=>h.nC (g:=g) hg
 have nI:=fun g hg=>h.nI (g:=g) hg
 have lq:=typ_lt h.tq;have lp:=typ_lt h.tp;have nq:¬rowF L.vI L.q:=fun q=>(nI _ q).2.1 rfl
 have nv:¬rowF v' L.q:=fun q=>(h2.fp _ q).elim nq (by omega)
 have f3:Fr (fun k=>rowF L.vI k\/k=L.q) (fun k=>rowF L.vI k\/k=L.q) w (w2.setCell ⟨L.q,1,none⟩ v'):=(h2.wide (fun _ q => .inl q)).set _ (.inl (.inr rfl));have np3:¬(rowF L.vI p\/p=L.q):=fun q=>q.elim (fun q=>(nI _ q).1 rfl) n1
 have nC3:∀ g,rowF L.vC g->¬(rowF L.vI g\/g=L.q):=fun g hg q=>q.elim (nC g hg).2.2.2 (nC g hg).2.1
 have FR:Fr (fun g=>L.has p g\/rowF kv g\/rowF tv g) (Lay.has { L with vI:=v',rs:=L.rs++[(kv,tv)] } p) w (w2.setCell ⟨L.q,1,none⟩ v'):=by
  refine (f3.wide (G:=fun g=>L.has p g\/rowF kv g\/rowF tv g) (fun k hk=>by rcases hk with hk | hk;exact .inl (.inr (.inr (.inr (.inr (.inl hk)))));exact .inl (.inr (.inl hk)))).tg fun k hk=>?_
  rcases hk with hk | hk | hk | hk | hk | ⟨r,hr,hk⟩
  ·exact .inl (.inl (.inl hk))
  ·exact .inl (.inl (.inr (.inl hk)))
  ·exact .inl (.inl (.inr (.inr (.inl hk))))
  ·exact .inl (.inl (.inr (.inr (.inr (.inl hk)))))
  ·exact (h2.fp k hk).imp (fun q => .inl (.inr (.inr (.inr (.inr (.inl q)))))) id
  ·rcases List.mem_append.1 hr with hr | hr
   ·exact .inl (.inl (.inr (.inr (.inr (.inr (.inr ⟨r,hr,hk⟩))))))
   ·simp at hr;subst hr;exact .inl (.inr hk)
 have hI3:∀ k,(rowF L.vI k\/k=L.q)->typ w k≠some 3:=by
  rintro k (hk | rfl)
  ·rw [own_typ h.cI hk];simp
  ·rw [h.tq];simp
 have hlen:=h.rows.len;refine ⟨{ L with vI:=v',rs:=L.rs++[(kv,tv)] },⟨f3.cell h.p0 np3,f3.cell h.p1 np3,f3.cell h.p2 np3,?_,cell_put (h2.cell h.q1 nq) _,?_,fun j=>(f3.frozen lp np3).trans (h.zp j),fun j=>?_,(typ_keep (f3.keep p lp np3)).trans h.tp,?_,h.mp.fr f3 (fun q=>q.elim (fun q=>(nI _ q).2.2 rfl) (fun e=>n3 e.symm)),f3.own h.cC nC3,?_,⟨by simp [hlen],?_,?_⟩,?_⟩,⟨rfl,rfl⟩,FR⟩
 ·rw [cellSet,if_neg (by simp)];exact h2.cell h.q0 nq
 ·rw [cellSet,if_neg (by simp)];exact h2.cell h.q2 nq
 ·rw [World.frozen?_setCell];exact (h2.frozen lq nq).trans (h.zq j)
 ·rw [typ_set];exact (typ_keep (h2.keep _ lq nq)).trans h.tq
 ·have:=ownsRow_setCell_other ho (a:=⟨L.q,1,none⟩) nv v';rw [insR_app _ _ _ _ hlen];simpa using this
 ·have h0:=h.rows.fr f3 hI3;intro n j r e1 e2;by_cases hn:n<s.code.length
  ·rw [List.getElem?_append_left hn] at e1;rw [List.getElem?_append_left (by omega)] at e2;exact h0.k n j r e1 e2
  ·have hn2:n=s.code.length:=by have:=(List.getElem?_eq_some_iff.1 e1).1;simp at this;omega
   rw [hn2,List.getElem?_append_right (Nat.le_refl _)] at e1;rw [hn2,List.getElem?_append_right (by omega),hlen] at e2;simp at e1 e2;subst e1 e2;exact ⟨f3.own hk (fun g hg q=>hI3 g q (own_typ hk hg)),f3.own ht (fun g hg q=>hI3 g q (own_typ ht hg))⟩
 ·intro n m r r' e1 e2 g hg;have old:∀ n (r:Value×Value),(L.rs++[(kv,tv)])[n]? = some r->(n<L.rs.length/\L.rs[n]? = some r)\/(n=L.rs.length/\r=(kv,tv)):=fun n r e=>by
   by_cases hn:n<L.rs.length
   ·exact .inl ⟨hn,by rwa [List.getElem?_append_left hn] at e⟩
   ·have hn2:n=L.rs.length:=by have:=(List.getElem?_eq_some_iff.1 e).1;simp at this;omega
    rw [hn2,List.getElem?_append_right (Nat.le_refl _)] at e;simp at e;exact .inr ⟨hn2,e.symm⟩
  rcases old n r e1 with ⟨a1,a2⟩ | ⟨a1,rfl⟩<;>rcases old m r' e2 with ⟨b1,b2⟩ | ⟨b1,rfl⟩
  ·exact h.rows.ne n m r r' a2 b2 g hg
  ·have hh:L.has p g := .inr (.inr (.inr (.inr (.inr ⟨r,List.mem_of_getElem? a2,.inr hg⟩))));exact ⟨fun q=>nk g q hh,fun q=>absurd hh (nt g q)⟩
  ·have hh:∀ x,(rowF r'.1 x\/rowF r'.2 x)->L.has p x:=fun x hx => .inr (.inr (.inr (.inr (.inr ⟨r',List.mem_of_getElem? b2,hx⟩))))
   exact ⟨fun q=>nt g hg (hh g (.inl q)),fun q=>absurd (hh g (.inr q)) (nt g hg)⟩
  ·exact ⟨nn g hg,fun _=>by omega⟩
 ·intro k hk;have:=h.base;exact (FR.fp k hk).elim (fun q=>q.elim (h.lo k) (lk k)) (fun q=>by show L.B<=k;omega)
theorem MkAt.setPos {p:Nat} {L:Lay} {s:MkS} {w:World} (h:MkAt p L s w) (n:Nat):MkAt p L { s with pos:=n } (w.setCell ⟨p,1,none⟩ (.int .i64 n))/\Fr (L.has p) (L.has p) w (w.setCell ⟨p,1,none⟩ (.int .i64 n)):=by
 obtain ⟨n1,n2,n3⟩:=h.nP;have f3:Fr (fun k=>k=p) (fun k=>k=p) w (w.setCell ⟨p,1,none⟩ (.int .i64 n)):=(Fr.refl _ _).set _ (.inl rfl);refine ⟨⟨?_,cell_put h.p1 _,?_,f3.cell h.q0 (fun e=>n1 e.symm),f3.cell h.q1 (fun e=>n1 e.symm),f3.cell h.q2 (fun e=>n1 e.symm),fun j=>by rw [World.frozen?_setCell];exact h.zp j,fun j=>by rw [World.frozen?_setCell];exact h.zq j,by rw [typ_set];exact h.tp,by rw [typ_set];exact h.tq,
  h.mp.fr f3 (fun e=>n2 e.symm),f3.own h.cC (fun g hg=>(h.nC hg).1),f3.own h.cI (fun g hg=>(h.nI hg).1),h.rows.fr f3 (by rintro k rfl;rw [h.tp];simp),h.lo⟩,f3.wide (by rintro k rfl;exact .inl rfl)⟩
 ·rw [cellSet,if_neg (by simp)];exact h.p0
 ·rw [cellSet,if_neg (by simp)];exact h.p2
theorem put_world (w:World) (x y:Value) (l:List Value) (t1 t2 t3:TypeId):∃ W,W=((w.alloc (.cells #[x] t1)).alloc (.cells l.toArray t2)).alloc (.cells #[y] t3)/\Fr noF noF w W/\W.heap.size=w.heap.size+3/\W.cell? ⟨w.heap.size,0,none⟩=some x/\(∀ j,W.cell? ⟨w.heap.size+1,j,none⟩=l[j]?)/\W.cell? ⟨w.heap.size+2,0,none⟩=some y/\typ W w.heap.size=some t1/\typ W (w.heap.size+2)=some t3:=by
 have e1:(w.alloc (.cells #[x] t1)).heap.size=w.heap.size+1:=by simp
 have e2:((w.alloc (.cells #[x] t1)).alloc (.cells l.toArray t2)).heap.size=w.heap.size+2:=by simp
 refine ⟨_,rfl,(((Fr.refl _ _).alloc _).alloc _).alloc _,by simp,cell_al (cell_al (cell_made w #[x] t1 (0,0) 0) _) _,fun j=>?_,by rw [←e2];exact cell_made _ #[y] t3 (0,0) 0,?_,by rw [←e2];exact typ_made _ _ _⟩
 ·rw [World.cell?_alloc_lt _ _ _ (by rw [e2];show w.heap.size+1<_;omega),←e1,cell_made];simp
 ·rw [typ_keep (Below.heap_alloc _ _ _ (by rw [e2];omega)),typ_keep (Below.heap_alloc _ _ _ (by rw [e1];omega))];exact typ_made _ _ _
set_option maxHeartbeats 4000000 in
theorem put_any (p:Nat) (L:Lay) (s:MkS) (op v:Nat) (k tg:List Nat) (kv tv:Value) (w:World) (h:MkAt p L s w) (hk:NRow w kv k) (ht:NRow w tv tg) (nk:∀ g,rowF kv g->¬L.has p g) (nt:∀ g,rowF tv g->¬L.has p g) (nn:∀ g,rowF tv g->¬rowF kv g)
  (lk:∀ g,rowF kv g\/rowF tv g->L.B<=g) (ho:InsOk ⟨op,s.pos,v,k,tg⟩) (hF:FrmsAt w) (hB:2<L.B) (hl:s.code.length<=1000000) (hp:s.pos<=1000000) (hx:(insX ⟨op,s.pos,v,k,tg⟩).length<=1000000) :
  Calls Tryz.prog 81 #[.pointer (some ⟨p,0,none⟩),.agg #[.int .i64 (op:Nat),.int .i64 0,.int .i64 (v:Nat),kv,tv]] w fun e w'=>∃ b c,e = .returned (leapV b c)/\LeapAt w' p s.code.length b c/\w.heap.size<=b/\w.heap.size<=c /\
   ∃ L',MkAt p L' (s.put op v k tg) w'/\(L'.q=L.q/\L'.B=L.B)/\Fr (fun g=>L.has p g\/rowF kv g\/rowF tv g) (L'.has p) w w'/\¬L'.has p b/\¬L'.has p c:=by
 have HH:=Lib.hid h;have HK:=Lib.hid hk;have HT:=Lib.hid ht;have HO:=Lib.hid ho;have HF:=Lib.hid hF;have HX:=Lib.hid hx;have p0:=h.p0;have p1:=h.p1;have q0:=h.q1;have lp:=World.block_lt_of_cell? _ _ p0;obtain ⟨n,hn⟩:∃ n,s.code.length=n:=⟨_,rfl⟩;obtain ⟨pos,hpos⟩:∃ pos,s.pos=pos:=⟨_,rfl⟩;have hown:=h.cI;rw [hn] at hown;obtain ⟨ia,ic,hvI⟩:=own_slice hown;rw [hvI] at q0 hown;obtain ⟨ka,kc,rfl⟩:=own_slice hk;obtain ⟨ta,tc,rfl⟩:=own_slice ht;obtain ⟨kn,hkn⟩:∃ kn,k.length=kn:=⟨_,rfl⟩;obtain ⟨tn,htn⟩:∃ tn,tg.length=tn:=⟨_,rfl⟩;rw [hkn] at HK nk nn lk ⊢;rw [htn] at HT nt nn lk ⊢;rw [hpos] at p1;have HN:=Lib.hid hn;have HP:=Lib.hid hpos;have lq:=World.block_lt_of_cell? _ _ q0;have hl1:n<=1000000:=by rw [←hn];exact hl
 have hp1:pos<=1000000:=by rw [←hpos];exact hp
 obtain ⟨N,hN⟩:∃ N,w.heap.size=N:=⟨_,rfl⟩;have p0a:=fun o o2=>cell_al (cell_al p0 o) o2
 have p1a:=fun o o2=>cell_al (cell_al p1 o) o2
 have q0a:=fun o o2=>cell_al (cell_al q0 o) o2
 clear h hk ht ho hF hx hn hpos;go_enter Tryz.func81,Tryz.ntmps81
 go_wp2_with fail
 obtain ⟨W1,hW1,f1,s1,b0,e0,c0,y1,y2⟩:=put_world w (.pointer (some ⟨p,0,none⟩)) (.int .i64 n) [.int .i64 op,.int .i64 pos,.int .i64 v,.slice ka kn kc,.slice ta tn tc] 184 128 3;rw [←hW1];rw [hN] at s1 b0 e0 c0 y1 y2;have HY:=Lib.hid (And.intro y1 y2);clear y1 y2;have p0:=f1.cell p0 id;have q0:=f1.cell q0 id;have HF1:=Lib.hid f1;have HS1:=Lib.hid s1;have HW1:=Lib.hid (fun g (hg:g<N)=>f1.keep g (by rw [hN];exact hg) id);have i0:=e0 0;have i1:=e0 1;have i2:=e0 2;have i3:=e0 3;have i4:=e0 4;simp at i0 i1 i2 i3 i4;clear hW1;refine rk (fun W':World=>W'.cell? ⟨p,0,none⟩=some (.pointer (some ⟨L.q,0,none⟩))/\W'.cell? ⟨L.q,1,none⟩=some (.slice ia n ic)/\W'.cell? ⟨N,0,none⟩=some (.pointer (some ⟨p,0,none⟩))/\W'.cell? ⟨N+1,0,none⟩=some (.int .i64 op)/\W'.cell? ⟨N+1,1,none⟩=some (.int .i64 pos)/\W'.cell? ⟨N+1,2,none⟩=some (.int .i64 v)/\W'.cell? ⟨N+1,3,none⟩=some (.slice ka kn kc)/\W'.cell? ⟨N+1,4,none⟩=some (.slice ta tn tc)) 16 [0,1,2,3,4,5,6,7,8,9,10,11] 5 ⟨p0,q0,b0,i0,i1,i2,i3,i4⟩ ?_;(iterate 12 (refine ty ?_;try simp only [pl]))
 refine takes_nil ?_;refine wpAnyK_only 12 (by kernel_rfl) rfl (fun J hJ=>?_);go_simp
 refine hJ.out _ _ ⟨cell_al p0 _,cell_al q0 _,cell_al b0 _,cell_al i0 _,cell_al i1 _,cell_al i2 _,cell_al i3 _,cell_al i4 _⟩ fun _=>?_
 clear hJ J;refine wpAnyK_only 13 (by kernel_rfl) rfl (fun J hJ=>?_);rw [if_pos (by rfl)];rw [show N+3=W1.heap.size from s1.symm];change Oper.wp _ _ _ (W1.drew.alloc (.cells [_,_,_,_,_].toArray _)) _ _
 refine app_newo elem_ins [_,_,_,_,_] 1 ((f1.own hown (fun _ _=>id):W1.drew.ownsRow _ _ _ _ _ _)) (by omega) ?_;intro v2 w2 ho2 hf2;have hf2:=hf2.und;rw [←hvI] at hf2;have hh1:=HH.out.fr f1 (fun _ q=>q.elim);have rows1:NRow W1 (.slice ka kn kc) k/\NRow W1 (.slice ta tn tc) tg:=⟨f1.own HK.out (fun _ _=>id),f1.own HT.out (fun _ _=>id)⟩;have nI:∀ g,rowF L.vI g->g<N/\g≠p/\g≠L.q:=fun g hg=>⟨by rw [←hN];exact own_in HH.out.cI hg,(HH.out.nI hg).1,(HH.out.nI hg).2.1⟩
 have nb:∀ j,N<=j->¬rowF L.vI j:=fun j hj q=>by have:=(nI j q).1;omega
 have p0:=hf2.cell p0 (fun q=>(nI _ q).2.1 rfl);have q0:=hf2.cell q0 (fun q=>(nI _ q).2.2 rfl);have b0:=hf2.cell b0 (nb N (Nat.le_refl _));have i0:=hf2.cell i0 (nb (N+1) (by omega));have i1:=hf2.cell i1 (nb (N+1) (by omega));have i2:=hf2.cell i2 (nb (N+1) (by omega));have i3:=hf2.cell i3 (nb (N+1) (by omega));have i4:=hf2.cell i4 (nb (N+1) (by omega));have c0:=hf2.cell c0 (nb (N+2) (by omega));have zq:=(hf2.frozen (a:=⟨L.q,1,none⟩) (typ_lt hh1.tq) (fun q=>(nI _ q).2.2 rfl)).trans (hh1.zq 1);have HR2:=Lib.hid (show NRow w2 (.slice ka kn kc) k/\NRow w2 (.slice ta tn tc) tg from ⟨hf2.own rows1.1 (fun g hg q=>nk g hg (.inr (.inr (.inr (.inr (.inl q)))))),hf2.own rows1.2 (fun g hg q=>nt g hg (.inr (.inr (.inr (.inr (.inl q))))))⟩);have HM:=Lib.hid (hh1.moreI (i:=⟨op,s.pos,v,k,tg⟩) rows1.1 rows1.2 nk nt nn lk (by rw [HN.out,HP.out];exact ho2) hf2);have HF2:=Lib.hid hf2;obtain ⟨a2,c2,rfl⟩:=own_slice ho2;clear ho2 hf2 hown rows1 f1 hh1;go_simp
 refine hJ.out _ _ ⟨p0,q0,b0,i0,i1,i2,i3,i4⟩ fun _=>?_
 clear hJ J;refine wpAnyK_more [14,15] 1 rfl (by intro _ _ d _ _ h;cases d<;>exact h) (by kernel_rfl) (by kernel_rfl) ⟨p0,q0,b0,i0,i1,i2,i3,i4⟩ ?_;(iterate 2 (refine ty ?_;try simp only [pl]))
 refine takes_nil ?_;refine wpAnyK_last 16 (by kernel_rfl) (by kernel_rfl) rfl (fun J hJ=>?_);go_simp
 refine hJ.out _ _ ?_;clear hJ J;refine wpAnyK_done (by kernel_rfl) ?_ _;obtain ⟨L2,hm2,⟨hq2,hB2⟩,hf3⟩:=HM.out;obtain ⟨W3,hW3⟩:∃ W3,w2.setCell ⟨L.q,1,none⟩ (.slice a2 (n+1) c2)=W3:=⟨_,rfl⟩;have kp:∀ {a:Addr} {u:Value},w2.cell? a=some u->a.block≠L.q->W3.cell? a=some u:=fun hc hn=>by rw [←hW3];exact cell_set hc _ (fun e=>hn e.symm)
 rw [hW3] at hm2 hf3 ⊢;have p0:=hm2.p0;have p1:W3.cell? ⟨p,1,none⟩=some (.int .i64 pos):=by have:=hm2.p1;rw [show s.pos=pos from HP.out] at this;exact this
 have qN:L.q<N:=by rw [←hN];exact lq
 have b0:=kp b0 (show N≠L.q by omega);have c0:=kp c0 (show N+2≠L.q by omega);have i0:=kp i0 (show N+1≠L.q by omega);have i1:=kp i1 (show N+1≠L.q by omega);have i2:=kp i2 (show N+1≠L.q by omega);have i3:=kp i3 (show N+1≠L.q by omega);have i4:=kp i4 (show N+1≠L.q by omega);have s3:N+3<=W3.heap.size:=World.block_lt_of_cell? _ _ c0;have hfw:∀ g,g<L.B->W3.heap[g]? = w.heap[g]? := fun g hg=>by
  rw [←hW3,Below.heap_setCell _ _ _ _ (by show g≠L.q;have:=HH.out.lo L.q (.inr (.inl rfl));omega)];have:=HH.out.base;rw [hN] at this;exact (HF2.out.keep g (by omega) (fun q=>by have:=HH.out.lo g (.inr (.inr (.inr (.inr (.inl q)))));omega)).trans (HW1.out g (by omega))
 have HFO:FrmsAt W3:=fun o ho=>(World.cell?_of_block (hfw _ hB)).trans (HF.out o ho)
 have hia:InsAt W3.drew (N+1) 0 ⟨op,pos,v,k,tg⟩ (.slice ka kn kc) (.slice ta tn tc):=by
  refine ⟨i0,i1,i2,i3,i4,NRow.nums ?_,NRow.nums ?_⟩
  ·show NRow W3 _ _;rw [←hW3];exact ownsRow_setCell_other HR2.out.1 (fun e=>nk _ e (.inr (.inl rfl))) _
  ·show NRow W3 _ _;rw [←hW3];exact ownsRow_setCell_other HR2.out.2 (fun e=>nt _ e (.inr (.inl rfl))) _
 have hin:∀ g,(rowF (.slice ka kn kc) g\/rowF (.slice ta tn tc) g)->g<W3.heap.size:=fun g hg=>by
  have:g<N:=by rw [←hN];exact hg.elim (own_in HK.out) (own_in HT.out)
  omega
 have hio:InsOk ⟨op,pos,v,k,tg⟩:=by have:=HO.out;rw [show s.pos=pos from HP.out] at this;exact this
 have hxl:=HX.out;rw [show s.pos=pos from HP.out] at hxl;have HAP:=Lib.hid (append_any (N+1) 0 ⟨op,pos,v,k,tg⟩ _ _ (.slice none 0 0) [] W3.drew hia hio (World.ownsRow_nil _ _ _ _) (fun q=>by cases q) (fun g hg=>⟨hin g (.inl hg),fun q=>by cases q⟩) (fun g hg=>⟨hin g (.inr hg),fun q=>by cases q⟩) HFO (fun q=>by cases q) (by simp only [List.nil_append];omega));obtain ⟨X,hX⟩:∃ X,insX ⟨op,pos,v,k,tg⟩=X:=⟨_,rfl⟩;rw [List.nil_append,hX] at HAP;rw [hX] at hxl;have HXX:=Lib.hid hX;have HM2:=Lib.hid hm2;have HF3:=Lib.hid hf3;clear hia hin hio hfw hW3 hm2 hf3 hX kp i0 i1 i2 i3 i4;go_wp2_with fail
 refine rk (fun W':World=>W'.cell? ⟨p,1,none⟩=some (.int .i64 pos)/\W'.cell? ⟨N,0,none⟩=some (.pointer (some ⟨p,0,none⟩))) 9 [0,1,2,3] 6 ⟨p1,b0⟩ ?_;(iterate 4 (refine ty ?_;try simp only [pl]))
 refine takes_nil ?_;refine wpAnyK_only 4 (by kernel_rfl) rfl (fun J hJ=>?_);go_simp
 refine HAP.out.mono ?_;rintro e W4 ⟨v4,rfl,hr4,hf4⟩;have hf4:=hf4.und;obtain ⟨a4,c4,rfl⟩:=own_slice hr4;have p1:=hf4.cell p1 (fun q=>by cases q);have b0:=hf4.cell b0 (fun q=>by cases q);have c0:=hf4.cell c0 (fun q=>by cases q);have hm4:=HM2.out.fr hf4 (fun _ q=>by cases q);refine hJ.out _ _ ⟨p1,b0⟩ fun _=>?_
 clear hJ J;refine wpAnyK_more [5,6,7,8] 1 rfl (by intro _ _ d _ _ h;cases d<;>exact h) (by kernel_rfl) (by kernel_rfl) ⟨p1,b0⟩ ?_;have hadd:IntKind.i64.wrap ((pos:Int)+(X.length:Int))=((pos+X.length:Nat):Int):=by simp [IntKind.wrap,IntKind.signed,IntKind.bits];omega
 (iterate 4 (refine ty ?_;try simp only [pl]))
 refine takes_nil ?_;have zp:=hm4.zp 1;refine wpAnyK_last 9 (by kernel_rfl) (by kernel_rfl) rfl (fun J hJ=>?_);go_simp
 refine hJ.out _ _ ?_;clear hJ J;refine wpAnyK_done (by kernel_rfl) ?_ _;obtain ⟨hm5,hf5⟩:=hm4.setPos (pos+X.length);have HM5:=Lib.hid hm5;have HF5:=Lib.hid hf5;have HF4:=Lib.hid hf4;have HM4:=Lib.hid hm4;have HN0:=Lib.hid hN;have np:p<N:=by rw [←hN];exact lp
 have e9:((pos+X.length:Nat):Int)=(pos:Int)+(X.length:Int):=by omega
 rw [e9] at HM5 HF5;obtain ⟨W5,hW5⟩:∃ W5,W4.setCell ⟨p,1,none⟩ (.int .i64 ((pos:Int)+(X.length:Int)))=W5:=⟨_,rfl⟩;have b5:W5.cell? ⟨N,0,none⟩=some (.pointer (some ⟨p,0,none⟩)):=by rw [←hW5];exact cell_set b0 _ (by show p≠N;omega)
 have c5:W5.cell? ⟨N+2,0,none⟩=some (.int .i64 n):=by rw [←hW5];exact cell_set c0 _ (by show p≠N+2;omega)
 rw [hW5] at HM5 HF5 ⊢;clear hm5 hf5 hf4 hm4;clear hW5 hN;have hmf:∀ (fn:Fn) (first cap:Array Value) (w:World),(Instr.makeFunc fn first cap).run Tryz.prog w = .ok (.func fn first cap) w:=fun _ _ _ _=>rfl
 go_wp2
 go_ret
 have hno:∀ g,N<=g->g<N+3->¬L2.has p g:=fun g h1 h2 q=>by
  rcases HF3.out.fp g q with (q | q | q) | q
  ·have:=HH.out.lt q;have:=HN0.out;omega
  ·have:=own_in HK.out q;have:=HN0.out;omega
  ·have:=own_in HT.out q;have:=HN0.out;omega
  ·have:=HS1.out;omega
 have hty:∀ g,N<=g->g<N+3->typ W5 g=typ W1 g:=fun g h1 h2=>by
  have l1:g<W1.heap.size:=by have:=HS1.out;omega
  have l3:g<W3.heap.size:=Nat.lt_of_lt_of_le l1 HF3.out.size;rw [typ_keep (HF5.out.keep g (Nat.lt_of_lt_of_le l3 HF4.out.size) (hno g h1 h2)),typ_keep (HF4.out.keep g l3 (fun q=>by cases q)),typ_keep (HF3.out.keep g l1 (fun q=>?_))];have:=HN0.out;rcases q with q | q | q
  ·have:=HH.out.lt q;omega
  ·have:=own_in HK.out q;omega
  ·have:=own_in HT.out q;omega
 refine ⟨N,N+2,rfl,⟨b5,by rw [HN.out];exact c5,(hty N (Nat.le_refl _) (by omega)).trans HY.out.1,(hty (N+2) (by omega) (by omega)).trans HY.out.2⟩,by have:=HN0.out;omega,by have:=HN0.out;omega,L2,?_,⟨hq2,hB2⟩,(((HF1.out.wide (fun _ q=>q.elim)).trans HF3.out).trans (HF4.out.wide (fun _ q=>by cases q))).trans HF5.out,hno N (Nat.le_refl _) (by omega),hno (N+2) (by omega) (by omega)⟩;have:=HM5.out;simp only [MkS.put];rw [show s.pos=pos from HP.out] at this ⊢;rw [show insX ⟨op,pos,v,k,tg⟩=X from HXX.out];exact this
theorem own_setF {w:World} {base:Nat} {e:TypeId} {size n g cap:Nat} {xs:List Value} (h:w.ownsRow base e size (.slice (some ⟨g,0,none⟩) n cap) n xs) (j:Nat) (u:Value) :
  (w.setCell ⟨g,j,none⟩ u).ownsRow base e size (.slice (some ⟨g,0,none⟩) n cap) n (xs.set j u):=by
 obtain ⟨h1,h2⟩:=h;refine ⟨by simp [h1],?_⟩;rcases h2 with ⟨h2,_⟩ | ⟨g',cap',cur,hv,hg,hh,k1,k2,k3,k4⟩
 ·cases h2
 ·cases hv;have hlt:=lt_of_block hh;have h':w.heap[g] = .cells cur e (0,0):=by simpa [Array.getElem?_eq_getElem hlt] using hh
  refine .inr ⟨g,cap,cur.setIfInBounds j u,rfl,hg,?_,k1,k2,by simp [k3],?_⟩
  ·show (w.heap.modify g _)[g]? = _;rw [Array.getElem?_eq_getElem (by simpa using hlt),Array.getElem_modify_self,h'];rfl
  ·rw [Array.toList_setIfInBounds,List.take_set,k4]
theorem MkAt.leap {p:Nat} {L:Lay} {s:MkS} {w:World} {i j T n tc:Nat} {x:InL} {kv:Value} (h:MkAt p L s w) (hi:s.code[i]? = some x) (hr:L.rs[i]? = some (kv,.slice (some ⟨T,0,none⟩) n tc)) :
  MkAt p L (s.leap i j) (w.setCell ⟨T,j,none⟩ (.int .i64 s.pos))/\Fr (L.has p) (L.has p) w (w.setCell ⟨T,j,none⟩ (.int .i64 s.pos)):=by
 obtain ⟨hk,ht⟩:=h.rows.k i x _ hi hr;have tT:=own_typ ht (g:=T) rfl;have nx:∀ g t,typ w g=some t->t≠3->g≠T:=fun g t hg hne e=>by rw [e,tT] at hg;exact hne (Option.some.inj hg).symm
 have np:=nx p _ h.tp (by decide);have nq:=nx L.q _ h.tq (by decide);have nm:L.m≠T:=fun e=>by have:=map_typ h.mp;rw [e,tT] at this;cases this
 have f3:Fr (fun k=>k=T) (fun k=>k=T) w (w.setCell ⟨T,j,none⟩ (.int .i64 s.pos)):=(Fr.refl _ _).set _ (.inl rfl);have hn:n=x.tg.length:=by rcases ht.2 with ⟨hv,_⟩ | ⟨g,cap,cur,hv,_⟩<;>cases hv;rfl
 refine ⟨⟨f3.cell h.p0 np,f3.cell h.p1 np,f3.cell h.p2 np,f3.cell h.q0 nq,f3.cell h.q1 nq,f3.cell h.q2 nq,fun j=>by rw [World.frozen?_setCell];exact h.zp j,fun j=>by rw [World.frozen?_setCell];exact h.zq j,by rw [typ_set];exact h.tp,by rw [typ_set];exact h.tq,
  h.mp.fr f3 nm,f3.own h.cC (fun g hg=>nx g _ (own_typ h.cC hg) (by decide)),?_,⟨by simpa [MkS.leap] using h.rows.len,?_,h.rows.ne⟩,h.lo⟩,f3.wide (fun k hk=>?_)⟩
 ·have:=f3.own h.cI (fun g hg=>nx g _ (own_typ h.cI hg) (by decide));simp only [MkS.leap,List.length_modify];rw [show insR (s.code.modify i fun x=>{ x with tg:=x.tg.set j s.pos }) L.rs=insR s.code L.rs from insR_mod s.code L.rs i (fun l=>l.set j s.pos)];exact this
 ·intro m y r e1 e2;simp only [MkS.leap] at e1;rw [List.getElem?_modify] at e1;by_cases hm:i=m
  ·subst hm;rw [hi] at e1;rw [hr] at e2;simp at e1 e2;subst e1 e2;refine ⟨f3.own hk (fun g hg e=>(h.rows.ne i i _ _ hr hr T rfl).1 (e▸hg)),?_⟩;subst hn;have:=own_setF ht j (.int .i64 s.pos);have e:(intC x.tg).set j (.int .i64 (s.pos:Nat))=intC (x.tg.set j s.pos):=by simp [intC,List.map_set]
   rw [e] at this;show World.ownsRow _ _ _ _ _ (x.tg.set j s.pos).length _;rw [List.length_set];exact this
  ·simp [hm] at e1;obtain ⟨a,b⟩:=h.rows.k m y r e1 e2;exact ⟨f3.own a (fun g hg e=>(h.rows.ne i m _ _ hr e2 T rfl).1 (e▸hg)),f3.own b (fun g hg e=>hm ((h.rows.ne i m _ _ hr e2 T rfl).2 (e▸hg)))⟩
 ·subst hk;exact .inr (.inr (.inr (.inr (.inr ⟨_,List.mem_of_getElem? hr,.inr rfl⟩))))
def LeapQ (p:Nat) (L:Lay) (s:MkS) (w:World) (e:Ending) (w':World):Prop:=e = .returned (.tuple #[])/\MkAt p L s w'/\Fr (L.has p) (L.has p) w w'
set_option maxHeartbeats 2000000 in
theorem leap_any (p:Nat) (L:Lay) (s:MkS) (i j b c:Nat) (x:InL) (w:World) (h:MkAt p L s w) (hl:LeapAt w p i b c) (hi:s.code[i]? = some x) (hj:j<x.tg.length) (hcl:s.code.length<=1000000) (htl:x.tg.length<=1000000) :
  Calls Tryz.prog 123 #[.int .i64 (j:Nat),.pointer (some ⟨b,0,none⟩),.pointer (some ⟨c,0,none⟩)] w (LeapQ p L (s.leap i j) w):=by
 have hil:=(List.getElem?_eq_some_iff.1 hi).1;obtain ⟨⟨kv,tv⟩,hr⟩:∃ r,L.rs[i]? = some r:=⟨_,List.getElem?_eq_getElem (by have:=h.rows.len;omega)⟩;obtain ⟨hk,ht⟩:=h.rows.k i x _ hi hr;obtain ⟨T,tc,rfl,-,hT,hcells⟩:=own_some ht (by omega);obtain ⟨I,ic,hvI,-,hI,hins⟩:=own_some h.cI (by omega);have p0:=h.p0;have p1:=h.p1;have q1:=h.q1;rw [hvI] at q1;have b0:=hl.pb;have c0:=hl.pc;have t0:w.cell? ⟨I,i*5+4,none⟩=some (.slice (some ⟨T,0,none⟩) x.tg.length tc):=by
  rw [hins _ (by omega),insR_at _ _ h.rows.len i 4 x _ hi hr (by omega)];rfl
 have u0:w.cell? ⟨T,j,none⟩=some (.int .i64 (x.tg[j]:Nat)):=by
  rw [hcells j (by omega)];simp [intC,hj]
 have zT:w.frozen? ⟨T,j,none⟩=false:=by
  rcases ht.2 with ⟨hv,_⟩ | ⟨g,cap,cur,hv,_,hh,_⟩
  ·cases hv
  ·cases hv;simp [World.frozen?,hh]
 have HM:=Lib.hid (h.leap (j:=j) hi hr);obtain ⟨n,hn⟩:∃ n,s.code.length=n:=⟨_,rfl⟩;obtain ⟨m,hm⟩:∃ m,x.tg.length=m:=⟨_,rfl⟩;obtain ⟨pos,hpos⟩:∃ pos,s.pos=pos:=⟨_,rfl⟩;rw [hn] at q1 hil;rw [hm] at t0 hj;rw [hpos] at p1 HM;have k1:(i:Int)<(n:Int):=by omega
 have k2:(j:Int)<(m:Int):=by omega
 clear h hl hk ht hcells hins hvI hi hr;go_enter Tryz.func123,Tryz.ntmps123
 go_wp2_with fail
 refine rk (fun W':World=>W'.cell? ⟨p,0,none⟩=some (.pointer (some ⟨L.q,0,none⟩))/\W'.cell? ⟨p,1,none⟩=some (.int .i64 pos)/\W'.cell? ⟨L.q,1,none⟩=some (.slice (some ⟨I,0,none⟩) n ic)/\W'.cell? ⟨b,0,none⟩=some (.pointer (some ⟨p,0,none⟩))/\W'.cell? ⟨c,0,none⟩=some (.int .i64 i)/\W'.cell? ⟨I,i*5+4,none⟩=some (.slice (some ⟨T,0,none⟩) m tc)) 17 (List.range 17) 1 ⟨p0,p1,q1,b0,c0,t0⟩ ?_;(iterate 17 (refine ty ?_;try simp only [pl]))
 refine takes_nil ?_;refine wpAnyK_last 17 (by kernel_rfl) (by kernel_rfl) rfl (fun J hJ=>?_);go_simp
 refine hJ.out _ _ ?_;clear hJ J;refine wpAnyK_done (by kernel_rfl) ?_ _;go_wp2
 refine bodyPost_ret (v := .tuple #[]) ?_ rfl ?_
 ·simp [results,Tryz.results123,go_sem]
 exact ⟨rfl,HM.out.1.drew,HM.out.2.drew⟩
def MkS.sz (s:MkS):Nat:=s.code.length+s.cs.length+s.pos
def MkS.one (s:MkS) (op:Nat) (t:Wd):MkS:=(s.const t).put op 0 [s.num t] []
theorem sz_const (s:MkS) (t:Wd):(s.const t).sz<=s.sz+1/\(s.const t).code=s.code/\(s.const t).pos=s.pos:=by
 unfold MkS.const;split
 ·exact ⟨by omega,rfl,rfl⟩
 ·exact ⟨by simp [MkS.sz];omega,rfl,rfl⟩
theorem sz_put (s:MkS) (op v:Nat) (k tg:List Nat):(s.put op v k tg).sz=s.sz+1+(insX ⟨op,s.pos,v,k,tg⟩).length:=by simp [MkS.put,MkS.sz];omega
theorem sz_leap (s:MkS) (i j:Nat):(s.leap i j).sz=s.sz:=by simp [MkS.leap,MkS.sz]
theorem num_le (s:MkS) (t:Wd):s.num t<=s.cs.length:=List.idxOf_le_length
theorem Fr.tr {F F' G G':Nat->Prop} {w w1 w2:World} (h:Fr F F' w w1) (k:Fr G G' w1 w2) (hg:∀ q,G q->F q\/w.heap.size<=q):Fr F G' w w2 :=
 ⟨k.os.trans h.os,k.tape.trans h.tape,k.output.trans h.output,Nat.le_trans h.size k.size,fun i hi hn=>(k.keep i (Nat.lt_of_lt_of_le hi h.size) (fun q=>(hg i q).elim hn (by omega))).trans (h.keep i hi hn),
  fun i hi=>(k.fp i hi).elim (hg i) (fun q => .inr (Nat.le_trans h.size q))⟩
theorem NRow.lit (w:World) (l:List Nat) (hl:l.length<=1000000):NRow (w.alloc (.cells (intC l).toArray 3)) (.slice (some ⟨w.heap.size,0,none⟩) l.length l.length) l:=by
 have h:=World.ownsRow_lit (base:=0) (e:=3) (size:=1) w (intC l).toArray l.length (Nat.zero_le _) (by unfold maxLen;omega) (by simp [intC]);simpa using h
theorem NRow.nil (w:World):NRow w (.slice none 0 0) []:=World.ownsRow_nil _ _ _ _
theorem FrmsAt.fr {w w':World} {F F':Nat->Prop} {B:Nat} (h:FrmsAt w) (hf:Fr F F' w w') (hF:∀ k,F k->B<=k) (hB:2<B):FrmsAt w':=fun o ho=>hf.cell (h o ho) (fun q=>by have:=hF _ q;simp only at this;omega)
def MQ (p:Nat) (L:Lay) (s:MkS) (w:World) (e:Ending) (w':World):Prop:=e = .returned (.tuple #[])/\MkQ p L s w w'
set_option maxHeartbeats 2000000 in
theorem one_any (p:Nat) (L:Lay) (s:MkS) (op:Nat) (t:Wd) (w:World) (h:MkAt p L s w) (hop:op=1\/op=2\/op=3) (ht:t.length<=5000000) (hs:s.sz<=900000) (hF:FrmsAt w) (hB:2<L.B) :
  Calls Tryz.prog 120 #[.pointer (some ⟨p,0,none⟩),.int .i64 (op:Nat),strv t] w (MQ p L (s.one op t) w):=by
 have hsz:s.cs.length<=900000:=by unfold MkS.sz at hs;omega
 have HC:=Lib.hid (const_any p L s t w h ht (by omega));have HH:=Lib.hid h;have HF:=Lib.hid hF;obtain ⟨n,hn⟩:∃ n,s.num t=n:=⟨_,rfl⟩;have hn1:n<=900000:=by have:=num_le s t;omega
 have HN:=Lib.hid hn;rw [hn] at HC;obtain ⟨z1,z2,z3⟩:=sz_const s t;have hlb:=h.base.2;clear h hF hn;go_enter Tryz.func120,Tryz.ntmps120
 go_wp2_with fail
 refine HC.out.mono ?_;rintro e w1 ⟨rfl,L1,hm1,⟨hq1,hB1⟩,hf1⟩;clear HC;have hl1:=NRow.lit w1 [n] (by simp);have hm2:=hm1.alloc (.cells (intC [n]).toArray 3);have hx:(insX ⟨op,(s.const t).pos,0,[n],[]⟩).length<=1000:=by rcases hop with rfl | rfl | rfl<;>simp [insX,frmL,insB,twoL]
 have HP:=Lib.hid (put_any p L1 (s.const t) op 0 [n] [] (.slice (some ⟨w1.heap.size,0,none⟩) 1 1) (.slice none 0 0) (w1.alloc (.cells (intC [n]).toArray 3)) hm2 hl1 (NRow.nil _) (fun g hg q=>by cases hg;exact Nat.lt_irrefl _ (hm1.lt q)) (fun g hg=>by cases hg) (fun g hg=>by cases hg)
  (fun g hg=>by rcases hg with hg | hg<;>cases hg;have:=hm1.base;show L1.B<=w1.heap.size;omega)
  ⟨by show op<12;omega,by simp,by simp;omega,by simp,by simp,by rcases hop with rfl | rfl | rfl<;>rfl⟩ ((HF.out.fr hf1 HH.out.lo hB).fr ((Fr.refl noF w1).alloc _) (fun _ q=>q.elim) hB) (by rw [hB1];exact hB) (by have:=z2;unfold MkS.sz at hs z1;omega) (by rw [z3];unfold MkS.sz at hs;omega) (by omega))
 go_wp2_with fail
 refine HP.out.mono ?_;rintro e w2 ⟨b,c,rfl,hl,hb,hc,L2,hm3,⟨hq2,hB2⟩,hf2,-,-⟩;clear HP;go_wp2
 refine bodyPost_ret (v := .tuple #[]) ?_ rfl ?_
 ·simp [results,Tryz.results120,go_sem]
 refine ⟨rfl,L2,?_,⟨hq2.trans hq1,hB2.trans hB1⟩,(hf1.alloc _).tr hf2 (fun q hq=>?_)⟩
 ·unfold MkS.one;rw [HN.out];exact hm3
 ·rcases hq with hq | hq | hq
  ·exact hf1.fp q hq
  ·cases hq;exact .inr hf1.size
  ·cases hq
end Go.Proofs.YthpldolmpinnhaaGreatDoor
