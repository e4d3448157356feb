import Derived.Test.YthpldolmpinnhaaGreatDoorJP33
import Derived.Maps.RangeWalk
set_option maxHeartbeats 64000000
open Go.Maps renaming string_keyed→z7
open Go.WideMaps renaming keyOf_string_mk→z8
open Go.WideAt renaming IsKeyLit→zy
open ByteArray renaming mk→zx
open Bool renaming and_eq_true→zv
open Go.Proofs.Tryz
namespace Go.Proofs.YthpldolmpinnhaaGreatDoor
open Go Go.RowKit
set_option maxRecDepth 10000
abbrev FJ(x:Wd×Bool):Value := .agg #[xf x.1,.bool x.2]
def Xz(x:Wd×Bool):DataW Unit := .agg [.lit (.string x.1),.lit (.bool x.2)]
def iu:Value->Option (DataW Unit×List MemPlace)
 | .agg a=>match a.toList with
  | [.string s,.bool x]=>if s.size<=5000000 then some (Xz (s.data.toList,x),[]) else none
  | _=>none
 | _=>none
theorem Ej(x:Wd×Bool)(h:x.1.length<=5000000):iu (FJ x)=some (Xz x,[]):=by
 show(if (zx x.1.toArray).size<=5000000 then some (Xz ((zx x.1.toArray).data.toList,x.2),[]) else none)=_;rw[size_mk,toList_mk,if_pos h]
theorem FG{v:Value}{y:DataW Unit×List MemPlace}(h:iu v=some y):∃ x:Wd×Bool,v=FJ x/\y=(Xz x,[])/\x.1.length<=5000000:=by
 unfold iu at h;split at h
 ·next a =>
  split at h
  ·next s x ha =>
   split at h
   ·next hs =>
    cases h;refine⟨(s.data.toList,x),?_,rfl,hs⟩;have ea:a=#[.string s,.bool x]:=Array.toList_inj.1 ha;rw[ea]
   ·cases h
  ·cases h
 ·cases h
theorem FD{x y:Wd×Bool}(h:Xz x=Xz y):x=y:=by
 obtain⟨a,b⟩:=x;obtain⟨c,d⟩:=y;simp only[Xz,DataW.agg.injEq,List.cons.injEq,DataW.lit.injEq,Lit.string.injEq,Lit.bool.injEq,and_true] at h;rw[h.1,h.2]
def gj(w:World)(b n z:Nat)(f:Wd->Option (Wd×Bool)):Prop :=
 ∃ D:DataW Unit,w.ownsMap prog 9 iu b n D/\Maps.size D=z/\∀ m:Wd,Maps.has D (.string m)=(f m).isSome/\D.atKey (.string m) (Xz ([],false))=Xz ((f m).getD ([],false))
section
variable {w:World} {b n z:Nat} {f:Wd->Option (Wd×Bool)}
theorem gj.lt(h:gj w b n z f):b<w.heap.size:=by
 obtain⟨D,⟨es,clock,ho,_⟩,_⟩:=h;exact(Array.getElem?_eq_some_iff.1 ho).1
theorem gj.keep{w':World}(h:gj w b n z f)(hb:w'.heap[b]? = w.heap[b]?):gj w' b n z f:=by
 obtain⟨D,⟨es,clock,ho,rest⟩,h2⟩:=h;exact⟨D,⟨es,clock,hb.trans ho,rest⟩,h2⟩
theorem gj.fr{w':World}{F F':Nat->Prop}(h:gj w b n z f)(hf:Fr F F' w w')(hb:¬F b):gj w' b n z f:=h.keep (hf.keep b h.lt hb)
theorem gj.made(w:World):gj (w.alloc (.map #[] 0)) w.heap.size 0 0 (fun _=>none):=⟨.map [],World.ownsMap_made w _ _ _,rfl,fun m=>⟨rfl,rfl⟩⟩
theorem gj.len(h:gj w b n z f)(ty:TypeId):(Builtin.len_ #[82] ty #[.map (some b)]).run prog w = .ok (.int .i64 (z:Nat)) w:=by
 obtain⟨D,h1,rfl,_⟩:=h;exact h1.len underlying82 ty
theorem gj.look(h:gj w b n z f)(m:Wd)(hm:m.length<=5000000) :
  (Instr.lookup 82 (.map (some b)) (xf m) true).run prog w = .ok (.tuple #[FJ ((f m).getD ([],false)),.bool (f m).isSome]) w:=by
 obtain⟨D,h1,-,h3⟩:=h;obtain⟨v,ps,vH,hv⟩:=h1.look_ok (z7 underlying9) underlying82 (z:=FJ ([],false)) (by first|rfl|simp[go_sem]) (zd:=Xz ([],false)) (zp:=[]) (Ej _ (by simp))
  (key:=xf m) (z8 (s:=⟨m.toArray⟩) underlying9 (by rw[size_mk];unfold maxLen;omega))
 rw[toList_mk] at vH hv;rw[(h3 m).1] at vH;obtain⟨x,dH,q9,-⟩:=FG hv;have he:D.atKey (.string m) (Xz ([],false))=Xz x:=congrArg Prod.fst q9;rw[(h3 m).2] at he;rw[vH,dH,FD he]
theorem gj.put(h:gj w b n z f)(m:Wd)(hm:m.length<=5000000)(x:Wd×Bool)(hx:x.1.length<=5000000)(hn:n<=1000000000) :
  ∃ w',(Instr.mapUpdate 82 (.map (some b)) (xf m) (FJ x)).run prog w = .ok () w'/\gj w' b (n+1) (if (f m).isSome then z else z+1) (fun k=>if m=k then some x else f k)/\w.grownBy w' (some b):=by
 obtain⟨D,h1,h2,h3⟩:=h;have hi:=h1.isMap;have hti:=h1.tidy (z7 underlying9);obtain⟨w',vH,xJ,hg⟩:=h1.update (z7 underlying9) underlying82 (by unfold maxLen;omega) (key:=xf m) (z8 (s:=⟨m.toArray⟩) underlying9 (by rw[size_mk];unfold maxLen;omega)) (Ej x hx);rw[toList_mk] at xJ;refine⟨w',vH,⟨_,xJ,?_,fun k=>?_⟩,hg⟩
 ·rw[Maps.size_put hti,(h3 m).1,h2]
 ·by_cases hx:m=k
  ·subst hx;simp only[↓reduceIte];exact⟨by rw[Maps.has_put_same hi (show zy (.string m) from trivial)];simp,by rw[Maps.atKey_put_same hi (show zy (.string m) from trivial)];simp⟩
  ·simp only[hx,↓reduceIte];have xw:(Lit.string k) ≠ .string m:=fun q=>hx (by cases q;rfl)
   exact⟨by rw[Maps.has_put_other xw];exact(h3 k).1,by rw[Maps.atKey_put_other xw];exact(h3 k).2⟩
def FB(w:World)(b r n:Nat)(f:Wd->Option (Wd×Bool))(left:Wd->Bool)(cnt:Nat):Prop :=
 ∃ (D:DataW Unit) (l:Lit->Bool),w.ranges prog 9 iu b r n D l cnt/\(∀ m,l (.string m)=left m)/\(∀ k,l k=true->∃ m,k = .string m)/\∀ m:Wd,(left m=true->(f m).isSome)/\D.atKey (.string m) (Xz ([],false))=Xz ((f m).getD ([],false))
theorem FB.left_eq{r cnt:Nat}{left:Wd->Bool}(h:FB w b r n f left cnt):w.rangeLeft b r=cnt:=by
 obtain⟨D,l,h1,-⟩:=h;exact h1.left_eq
theorem FB.fr{w':World}{F F':Nat->Prop}{r cnt:Nat}{left:Wd->Bool}(h:FB w b r n f left cnt)(hf:Fr F F' w w')(hb:¬F b)(hr:¬F r):FB w' b r n f left cnt:=by
 obtain⟨D,l,h1,h2⟩:=h;have l1:=h1.owns.lt;have l2:=h1.lt;obtain⟨es,clock,since,seen,c0,a1,a2,a3,a4,a5,a6⟩:=h1;exact⟨D,l,⟨es,clock,since,seen,c0,(hf.keep b l1 hb).trans a1,a2,a3,a4,(hf.keep r l2 hr).trans a5,a6⟩,h2⟩
theorem FB.next{r cnt:Nat}{left:Wd->Bool}(h:FB w b r n f left cnt)(ty:TypeId) :
  (cnt=0/\(∀ m,left m=false)/\(Instr.next (.pointer (some ⟨r,0,none⟩)) false ty).run prog w = .ok (.tuple #[.bool false]) w) \/
  ∃ m x w' TO,left m=true/\f m=some x/\(Instr.next (.pointer (some ⟨r,0,none⟩)) false ty).run prog w = .ok (.tuple #[.bool true,xf m,FJ x]) w' /\
   FB w' b r n f (fun k=>left k && !decide (k=m)) TO/\TO<cnt/\w.grownBy w' (some r)/\w'.heap.size=w.heap.size/\(Instr.entry (.pointer (some ⟨r,0,none⟩))).run prog w' = .ok (.tuple #[xf m,FJ x]) w':=by
 obtain⟨D,l,h1,h2,h3,h4⟩:=h;rcases h1.next (z7 underlying9) ty with⟨a1,a2,a3⟩|⟨key,v,kl,y,w',TO,a1,a2,a3,a4,a5,a6,a7,a8,a9,a10⟩
 ·exact .inl ⟨a1,fun m=>by rw[←h2];exact a2 _,a3⟩
 ·obtain⟨m,rfl⟩:=h3 kl a2;have hl:left m=true:=by rw[←h2];exact a2
  obtain⟨hs,UX⟩:=h4 m;obtain⟨x,rfl,rfl,hx⟩:=FG a3;have e:=a4 (Xz ([],false));rw[UX] at e;have e':=FD e;have Vt:f m=some x:=by
   have:=hs hl
   cases hf:f m with
   | none=>rw[hf] at this;cases this
   | some q=>rw[hf] at e';simp at e';rw[e']
  have Uw:key=xf m:=by
   cases key<;>simp[keyOf,underlying9,mapKey] at a1;obtain⟨-,e⟩:=a1;rw[←e]
  subst Uw;refine .inr ⟨m,x,w',TO,hl,Vt,a5,⟨D,_,a6,fun k=>?_,fun k hk=>h3 k (by simp only[zv] at hk;exact hk.1),fun k=>⟨fun hk=>(h4 k).1 (by simp only[zv] at hk;exact hk.1),(h4 k).2⟩⟩,a7,a8,a9,a10⟩;simp only[h2];congr 1;by_cases oZ:k=m
  ·subst oZ;simp[Lit.sameKey]
  ·have:(Lit.string k).sameKey (.string m)=false:=Maps.sameKey_ne (fun q=>oZ (by cases q;rfl));simp[this,oZ]
theorem gj.range(h:gj w b n z f):∃ w',(Instr.range 82 (.map (some b))).run prog w = .ok (.pointer (some ⟨w.heap.size,0,none⟩)) w'/\FB w' b w.heap.size n f (fun m=>(f m).isSome) z/\w.grownBy w' none/\w'.heap.size=w.heap.size+1:=by
 obtain⟨D,h1,h2,h3⟩:=h;obtain⟨w',vH,r1,r2,r3⟩:=h1.range (z7 underlying9) underlying82;rw[h2] at r1;refine⟨w',vH,⟨D,_,r1,fun m=>(h3 m).1,fun k hk=>?_,fun m=>⟨id,(h3 m).2⟩⟩,r2,r3⟩;obtain⟨es,clock,since,seen,c0,a1,a2,a3,a4,a5,a6,a7,a8,a9,a10⟩:=r1;obtain⟨x,hx,rfl⟩:=a9 k hk;obtain⟨y,hy⟩:=a2.reads x hx;have Uw:=Go.WideElems.rd_key hy;rw[Go.WideElems.rg_of hy];generalize x.key=key at Uw
 cases key<;>simp[keyOf,underlying9,mapKey] at Uw;exact⟨_,Uw.2.symm⟩
end
abbrev iq(c:Nat):Value := .func (.func 85) #[] #[.pointer (some ⟨c,0,none⟩)]
def rz(b c n z:Nat)(f:Wd->Option (Wd×Bool))(_:Unit)(w:World):Prop:=gj w b n z f/\w.cell? ⟨c,0,none⟩=some (.map (some b))/\∀ m x,f m=some x->x.1.length<=1000000
def zj0(f:Wd->Option (Wd×Bool))(n:Wd)(u:Unit):zu4×Unit:=(match f n with|none => .no|some (t,num) => .val t num,u)
def JK(E:qq Unit)(f:Wd->Option (Wd×Bool)):qq Unit:=⟨E.wr,E.sort,zj0 f⟩
theorem Lu{b c n z:Nat}{f:Wd->Option (Wd×Bool)}{w:World}(h:gj w b n z f)(hc:w.cell? ⟨c,0,none⟩=some (.map (some b)))(m:Wd)(hm:m.length<=5000000) :
  Calls prog 85 #[xf m,.pointer (some ⟨c,0,none⟩)] w fun e w'=>e = .returned (.tuple #[FJ ((f m).getD ([],false)),.bool (f m).isSome])/\Fr xS xS w w':=by
 have HL:=fun o=>(h.fr ((Fr.refl xS w).alloc o) id).look m hm
 have hca:=fun o=>xG hc o
 clear h hc;go_enter func85,ntmps85;go_wp2;refine bodyPost_ret (v := .tuple #[FJ ((f m).getD ([],false)),.bool (f m).isSome]) ?_ rfl ?_
 ·simp[results,results85,go_sem]
 ·exact⟨rfl,((Fr.refl xS w).alloc _).alloc _⟩
theorem Lq(E:qq Unit)(b c n z:Nat)(f:Wd->Option (Wd×Bool)):Cw (iq c) (JK E f) (fun _=>xS) (fun _ k=>k=b\/k=c) (rz b c n z f):=by
 refine⟨⟨85,#[.pointer (some ⟨c,0,none⟩)],rfl,fun args w=>by rfl,fun W s m hi hm=>?_⟩,fun _ _ q=>q.elim,fun s W k hi hk=>?_,fun s W W' hi hs hk=>?_⟩
 ·refine(Lu hi.1 hi.2.1 m hm).mono ?_;rintro e w' ⟨rfl,hf⟩;refine⟨?_,⟨hi.1.fr hf id,hf.cell hi.2.1 id,hi.2.2⟩,hf,fun k hk => .inl hk⟩;show zk7 (zj0 f m s).1 _;unfold zj0
  cases Vt:f m with
  | none=>exact⟨_,_,rfl⟩
  | some x=>exact⟨hi.2.2 m x Vt,rfl⟩
 ·rcases hk with rfl|rfl
  ·exact hi.1.lt
  ·exact World.block_lt_of_cell? _ _ hi.2.1
 ·exact⟨hi.1.keep (hk b (.inl rfl)),(World.cell?_of_block (hk c (.inr rfl))).trans hi.2.1,hi.2.2⟩
end Go.Proofs.YthpldolmpinnhaaGreatDoor
