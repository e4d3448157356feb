import Derived.Test.YthpldolmpinnhaaGreatDoorJG35
import Derived.Maps.RangeWalk
set_option maxHeartbeats 64000000
open Go.Maps renaming string_keyed→z7
open Go.WideMaps renaming keyOf_string_mk→z8
open Go.WideAt renaming IsKeyLit→zy
open ByteArray renaming mk→zx
open Bool renaming and_eq_true→zv
open Go.Proofs.Tryz
namespace Go.Proofs.YthpldolmpinnhaaGreatDoor
open Go Go.RowKit
set_option maxRecDepth 10000
abbrev D3(x:Wd×Bool):Value := .agg #[xg x.1,.bool x.2]
def Xb(x:Wd×Bool):DataW Unit := .agg [.lit (.string x.1),.lit (.bool x.2)]
def l9:Value->Option (DataW Unit×List MemPlace)
 | .agg a=>match a.toList with
  | [.string s,.bool x]=>if s.size<=5000000 then some (Xb (s.data.toList,x),[]) else none
  | _=>none
 | _=>none
theorem Ea(x:Wd×Bool)(h:x.1.length<=5000000):l9 (D3 x)=some (Xb x,[]):=by
 show(if (zx x.1.toArray).size<=5000000 then some (Xb ((zx x.1.toArray).data.toList,x.2),[]) else none)=_;rw[size_mk,toList_mk,if_pos h]
theorem D4{v:Value}{y:DataW Unit×List MemPlace}(h:l9 v=some y):∃ x:Wd×Bool,v=D3 x/\y=(Xb x,[])/\x.1.length<=5000000:=by
 unfold l9 at h;split at h
 .next a =>
  split at h
  .next s x ha =>
   split at h
   .next hs =>
    cases h;refine⟨(s.data.toList,x),?_,rfl,hs⟩;have ea:a=#[.string s,.bool x]:=Array.toList_inj.1 ha;rw[ea]
   .cases h
  .cases h
 .cases h
theorem D5{x y:Wd×Bool}(h:Xb x=Xb y):x=y:=by
 obtain⟨a,b⟩:=x;obtain⟨c,d⟩:=y;simp only[Xb,DataW.agg.injEq,List.cons.injEq,DataW.lit.injEq,Lit.string.injEq,Lit.bool.injEq,and_true] at h;rw[h.1,h.2]
def gX(w:World)(b n z:Nat)(f:Wd->Option (Wd×Bool)):Prop :=
 ∃ D:DataW Unit,w.ownsMap prog 9 l9 b n D/\Maps.size D=z/\∀ m:Wd,Maps.has D (.string m)=(f m).isSome/\D.atKey (.string m) (Xb ([],false))=Xb ((f m).getD ([],false))
section
variable {w:World} {b n z:Nat} {f:Wd->Option (Wd×Bool)}
theorem gX.lt(h:gX w b n z f):b<w.heap.size:=by
 obtain⟨D,⟨es,clock,ho,_⟩,_⟩:=h;exact(Array.getElem?_eq_some_iff.1 ho).1
theorem gX.keep{w':World}(h:gX w b n z f)(hb:w'.heap[b]? = w.heap[b]?):gX w' b n z f:=by
 obtain⟨D,⟨es,clock,ho,rest⟩,h2⟩:=h;exact⟨D,⟨es,clock,hb.trans ho,rest⟩,h2⟩
theorem gX.fr{w':World}{F F':Nat->Prop}(h:gX w b n z f)(hf:Fr F F' w w')(hb:¬F b):gX w' b n z f:=h.keep (hf.keep b h.lt hb)
theorem gX.made(w:World):gX (w.alloc (.map #[] 0)) w.heap.size 0 0 (fun _=>none):=⟨.map [],World.ownsMap_made w _ _ _,rfl,fun m=>⟨rfl,rfl⟩⟩
theorem gX.len(h:gX w b n z f)(ty:TypeId):(Builtin.len_ #[82] ty #[.map (some b)]).run prog w = .ok (.int .i64 (z:Nat)) w:=by
 obtain⟨D,h1,rfl,_⟩:=h;exact h1.len underlying82 ty
theorem gX.look(h:gX w b n z f)(m:Wd)(hm:m.length<=5000000) :
  (Instr.lookup 82 (.map (some b)) (xg m) true).run prog w = .ok (.tuple #[D3 ((f m).getD ([],false)),.bool (f m).isSome]) w:=by
 obtain⟨D,h1,-,h3⟩:=h;obtain⟨v,ps,vH,hv⟩:=h1.look_ok (z7 underlying9) underlying82 (z:=D3 ([],false)) (by first|rfl|simp[go_sem]) (zd:=Xb ([],false)) (zp:=[]) (Ea _ (by simp))
  (key:=xg m) (z8 (s:=⟨m.toArray⟩) underlying9 (by rw[size_mk];unfold maxLen;omega))
 rw[toList_mk] at vH hv;rw[(h3 m).1] at vH;obtain⟨x,dM,qV,-⟩:=D4 hv;have he:D.atKey (.string m) (Xb ([],false))=Xb x:=congrArg Prod.fst qV;rw[(h3 m).2] at he;rw[vH,dM,D5 he]
theorem gX.put(h:gX w b n z f)(m:Wd)(hm:m.length<=5000000)(x:Wd×Bool)(hx:x.1.length<=5000000)(hn:n<=1000000000) :
  ∃ w',(Instr.mapUpdate 82 (.map (some b)) (xg m) (D3 x)).run prog w = .ok () w'/\gX w' b (n+1) (if (f m).isSome then z else z+1) (fun k=>if m=k then some x else f k)/\w.grownBy w' (some b):=by
 obtain⟨D,h1,h2,h3⟩:=h;have hi:=h1.isMap;have hti:=h1.tidy (z7 underlying9);obtain⟨w',vH,xV,hg⟩:=h1.update (z7 underlying9) underlying82 (by unfold maxLen;omega) (key:=xg m) (z8 (s:=⟨m.toArray⟩) underlying9 (by rw[size_mk];unfold maxLen;omega)) (Ea x hx);rw[toList_mk] at xV;refine⟨w',vH,⟨_,xV,?_,fun k=>?_⟩,hg⟩
 .rw[Maps.size_put hti,(h3 m).1,h2]
 .by_cases hx:m=k
  .subst hx;simp only[↓reduceIte];exact⟨by rw[Maps.has_put_same hi (show zy (.string m) from trivial)];simp,by rw[Maps.atKey_put_same hi (show zy (.string m) from trivial)];simp⟩
  .simp only[hx,↓reduceIte];have vy:(Lit.string k) ≠ .string m:=fun q=>hx (by cases q;rfl)
   exact⟨by rw[Maps.has_put_other vy];exact(h3 k).1,by rw[Maps.atKey_put_other vy];exact(h3 k).2⟩
def D6(w:World)(b r n:Nat)(f:Wd->Option (Wd×Bool))(left:Wd->Bool)(cnt:Nat):Prop :=
 ∃ (D:DataW Unit) (l:Lit->Bool),w.ranges prog 9 l9 b r n D l cnt/\(∀ m,l (.string m)=left m)/\(∀ k,l k=true->∃ m,k = .string m)/\∀ m:Wd,(left m=true->(f m).isSome)/\D.atKey (.string m) (Xb ([],false))=Xb ((f m).getD ([],false))
theorem D6.left_eq{r cnt:Nat}{left:Wd->Bool}(h:D6 w b r n f left cnt):w.rangeLeft b r=cnt:=by
 obtain⟨D,l,h1,-⟩:=h;exact h1.left_eq
theorem D6.fr{w':World}{F F':Nat->Prop}{r cnt:Nat}{left:Wd->Bool}(h:D6 w b r n f left cnt)(hf:Fr F F' w w')(hb:¬F b)(hr:¬F r):D6 w' b r n f left cnt:=by
 obtain⟨D,l,h1,h2⟩:=h;have l1:=h1.owns.lt;have l2:=h1.lt;obtain⟨es,clock,since,seen,c0,a1,a2,a3,a4,a5,a6⟩:=h1;exact⟨D,l,⟨es,clock,since,seen,c0,(hf.keep b l1 hb).trans a1,a2,a3,a4,(hf.keep r l2 hr).trans a5,a6⟩,h2⟩
theorem D6.next{r cnt:Nat}{left:Wd->Bool}(h:D6 w b r n f left cnt)(ty:TypeId) :
  (cnt=0/\(∀ m,left m=false)/\(Instr.next (.pointer (some ⟨r,0,none⟩)) false ty).run prog w = .ok (.tuple #[.bool false]) w) \/
  ∃ m x w' WB,left m=true/\f m=some x/\(Instr.next (.pointer (some ⟨r,0,none⟩)) false ty).run prog w = .ok (.tuple #[.bool true,xg m,D3 x]) w' /\
   D6 w' b r n f (fun k=>left k && !decide (k=m)) WB/\WB<cnt/\w.grownBy w' (some r)/\w'.heap.size=w.heap.size/\(Instr.entry (.pointer (some ⟨r,0,none⟩))).run prog w' = .ok (.tuple #[xg m,D3 x]) w':=by
 obtain⟨D,l,h1,h2,h3,h4⟩:=h;rcases h1.next (z7 underlying9) ty with⟨a1,a2,a3⟩|⟨key,v,kl,y,w',WB,a1,a2,a3,a4,a5,a6,a7,a8,a9,a10⟩
 .exact .inl ⟨a1,fun m=>by rw[<-h2];exact a2 _,a3⟩
 .obtain⟨m,rfl⟩:=h3 kl a2;have hl:left m=true:=by rw[<-h2];exact a2
  obtain⟨hs,UO⟩:=h4 m;obtain⟨x,rfl,rfl,hx⟩:=D4 a3;have e:=a4 (Xb ([],false));rw[UO] at e;have e':=D5 e;have XV:f m=some x:=by
   have:=hs hl
   cases hf:f m with
   | none=>rw[hf] at this;cases this
   | some q=>rw[hf] at e';simp at e';rw[e']
  have JW:key=xg m:=by
   cases key<;>simp[keyOf,underlying9,mapKey] at a1;obtain⟨-,e⟩:=a1;rw[<-e]
  subst JW;refine .inr ⟨m,x,w',WB,hl,XV,a5,⟨D,_,a6,fun k=>?_,fun k hk=>h3 k (by simp only[zv] at hk;exact hk.1),fun k=>⟨fun hk=>(h4 k).1 (by simp only[zv] at hk;exact hk.1),(h4 k).2⟩⟩,a7,a8,a9,a10⟩;simp only[h2];congr 1;by_cases pY:k=m
  .subst pY;simp[Lit.sameKey]
  .have:(Lit.string k).sameKey (.string m)=false:=Maps.sameKey_ne (fun q=>pY (by cases q;rfl));simp[this,pY]
theorem gX.range(h:gX w b n z f):∃ w',(Instr.range 82 (.map (some b))).run prog w = .ok (.pointer (some ⟨w.heap.size,0,none⟩)) w'/\D6 w' b w.heap.size n f (fun m=>(f m).isSome) z/\w.grownBy w' none/\w'.heap.size=w.heap.size+1:=by
 obtain⟨D,h1,h2,h3⟩:=h;obtain⟨w',vH,r1,r2,r3⟩:=h1.range (z7 underlying9) underlying82;rw[h2] at r1;refine⟨w',vH,⟨D,_,r1,fun m=>(h3 m).1,fun k hk=>?_,fun m=>⟨id,(h3 m).2⟩⟩,r2,r3⟩;obtain⟨es,clock,since,seen,c0,a1,a2,a3,a4,a5,a6,a7,a8,a9,a10⟩:=r1;obtain⟨x,hx,rfl⟩:=a9 k hk;obtain⟨y,hy⟩:=a2.reads x hx;have JW:=Go.WideElems.rd_key hy;rw[Go.WideElems.rg_of hy];generalize x.key=key at JW
 cases key<;>simp[keyOf,underlying9,mapKey] at JW;exact⟨_,JW.2.symm⟩
end
abbrev lz(c:Nat):Value := .func (.func 85) #[] #[.pointer (some ⟨c,0,none⟩)]
def sx(b c n z:Nat)(f:Wd->Option (Wd×Bool))(_:Unit)(w:World):Prop:=gX w b n z f/\w.cell? ⟨c,0,none⟩=some (.map (some b))/\∀ m x,f m=some x->x.1.length<=1000000
def su(f:Wd->Option (Wd×Bool))(n:Wd)(u:Unit):zqy×Unit:=(match f n with|none => .no|some (t,num) => .val t num,u)
def Jo(E:qJ Unit)(f:Wd->Option (Wd×Bool)):qJ Unit:=⟨E.wr,E.sort,su f⟩
theorem Lh{b c n z:Nat}{f:Wd->Option (Wd×Bool)}{w:World}(h:gX w b n z f)(hc:w.cell? ⟨c,0,none⟩=some (.map (some b)))(m:Wd)(hm:m.length<=5000000) :
  Calls prog 85 #[xg m,.pointer (some ⟨c,0,none⟩)] w fun e w'=>e = .returned (.tuple #[D3 ((f m).getD ([],false)),.bool (f m).isSome])/\Fr xI xI w w':=by
 have HL:=fun o=>(h.fr ((Fr.refl xI w).alloc o) id).look m hm
 have hca:=fun o=>xQ hc o
 clear h hc;go_enter func85,ntmps85;go_wp2;refine bodyPost_ret (v := .tuple #[D3 ((f m).getD ([],false)),.bool (f m).isSome]) ?_ rfl ?_
 .simp[results,results85,go_sem]
 .exact⟨rfl,((Fr.refl xI w).alloc _).alloc _⟩
theorem M0(E:qJ Unit)(b c n z:Nat)(f:Wd->Option (Wd×Bool)):EI (lz c) (Jo E f) (fun _=>xI) (fun _ k=>k=b\/k=c) (sx b c n z f):=by
 refine⟨⟨85,#[.pointer (some ⟨c,0,none⟩)],rfl,fun args w=>by rfl,fun W s m hi hm=>?_⟩,fun _ _ q=>q.elim,fun s W k hi hk=>?_,fun s W W' hi hs hk=>?_⟩
 .refine(Lh hi.1 hi.2.1 m hm).mono ?_;rintro e w' ⟨rfl,hf⟩;refine⟨?_,⟨hi.1.fr hf id,hf.cell hi.2.1 id,hi.2.2⟩,hf,fun k hk => .inl hk⟩;show zju (su f m s).1 _;unfold su
  cases XV:f m with
  | none=>exact⟨_,_,rfl⟩
  | some x=>exact⟨hi.2.2 m x XV,rfl⟩
 .rcases hk with rfl|rfl
  .exact hi.1.lt
  .exact World.block_lt_of_cell? _ _ hi.2.1
 .exact⟨hi.1.keep (hk b (.inl rfl)),(World.cell?_of_block (hk c (.inr rfl))).trans hi.2.1,hi.2.2⟩
end Go.Proofs.YthpldolmpinnhaaGreatDoor
