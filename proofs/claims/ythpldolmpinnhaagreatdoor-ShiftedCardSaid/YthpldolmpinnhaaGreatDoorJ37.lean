import Derived.Test.YthpldolmpinnhaaGreatDoorJ36
import Derived.Maps.RangeWalk
namespace Go.Proofs.YthpldolmpinnhaaGreatDoor
open Go Go.RowKit
set_option maxRecDepth 10000
abbrev argV (x:Wd×Bool):Value := .agg #[strv x.1,.bool x.2]
def argD (x:Wd×Bool):DataW Unit := .agg [.lit (.string x.1),.lit (.bool x.2)]
def argR:Value->Option (DataW Unit×List MemPlace)
 | .agg a=>match a.toList with
  | [.string s,.bool x]=>if s.size<=5000000 then some (argD (s.data.toList,x),[]) else none
  | _=>none
 | _=>none
theorem argR_of (x:Wd×Bool) (h:x.1.length<=5000000):argR (argV x)=some (argD x,[]):=by
 show (if (ByteArray.mk x.1.toArray).size<=5000000 then some (argD ((ByteArray.mk x.1.toArray).data.toList,x.2),[]) else none)=_;rw [size_mk,toList_mk,if_pos h]
theorem argR_inv {v:Value} {y:DataW Unit×List MemPlace} (h:argR v=some y):∃ x:Wd×Bool,v=argV x/\y=(argD x,[])/\x.1.length<=5000000:=by
 unfold argR at h;split at h
 ·next a =>
  split at h
  ·next s x ha =>
   split at h
   ·next hs =>
    cases h;refine ⟨(s.data.toList,x),?_,rfl,hs⟩;have ea:a=#[.string s,.bool x]:=Array.toList_inj.1 ha;rw [ea]
   ·cases h
  ·cases h
 ·cases h
theorem argD_inj {x y:Wd×Bool} (h:argD x=argD y):x=y:=by
 obtain ⟨a,b⟩:=x;obtain ⟨c,d⟩:=y;simp only [argD,DataW.agg.injEq,List.cons.injEq,DataW.lit.injEq,Lit.string.injEq,Lit.bool.injEq,and_true] at h;rw [h.1,h.2]
def MapA (w:World) (b n z:Nat) (f:Wd->Option (Wd×Bool)):Prop :=
 ∃ D:DataW Unit,w.ownsMap Tryz.prog 9 argR b n D/\Maps.size D=z/\∀ m:Wd,Maps.has D (.string m)=(f m).isSome/\D.atKey (.string m) (argD ([],false))=argD ((f m).getD ([],false))
section
variable {w:World} {b n z:Nat} {f:Wd->Option (Wd×Bool)}
theorem MapA.lt (h:MapA w b n z f):b<w.heap.size:=by
 obtain ⟨D,⟨es,clock,ho,_⟩,_⟩:=h;exact (Array.getElem?_eq_some_iff.1 ho).1
theorem MapA.keep {w':World} (h:MapA w b n z f) (hb:w'.heap[b]? = w.heap[b]?):MapA w' b n z f:=by
 obtain ⟨D,⟨es,clock,ho,rest⟩,h2⟩:=h;exact ⟨D,⟨es,clock,hb.trans ho,rest⟩,h2⟩
theorem MapA.fr {w':World} {F F':Nat->Prop} (h:MapA w b n z f) (hf:Fr F F' w w') (hb:¬F b):MapA w' b n z f:=h.keep (hf.keep b h.lt hb)
theorem MapA.made (w:World):MapA (w.alloc (.map #[] 0)) w.heap.size 0 0 (fun _=>none):=⟨.map [],World.ownsMap_made w _ _ _,rfl,fun m=>⟨rfl,rfl⟩⟩
theorem MapA.len (h:MapA w b n z f) (ty:TypeId):(Builtin.len_ #[82] ty #[.map (some b)]).run Tryz.prog w = .ok (.int .i64 (z:Nat)) w:=by
 obtain ⟨D,h1,rfl,_⟩:=h;exact h1.len Tryz.underlying82 ty
theorem MapA.look (h:MapA w b n z f) (m:Wd) (hm:m.length<=5000000) :
  (Instr.lookup 82 (.map (some b)) (strv m) true).run Tryz.prog w = .ok (.tuple #[argV ((f m).getD ([],false)),.bool (f m).isSome]) w:=by
 obtain ⟨D,h1,-,h3⟩:=h;obtain ⟨v,ps,hrun,hv⟩:=h1.look_ok (Maps.string_keyed Tryz.underlying9) Tryz.underlying82 (z:=argV ([],false)) (by first | rfl | simp [go_sem]) (zd:=argD ([],false)) (zp:=[]) (argR_of _ (by simp))
  (key:=strv m) (WideMaps.keyOf_string_mk (s:=⟨m.toArray⟩) Tryz.underlying9 (by rw [size_mk];unfold maxLen;omega))
 rw [toList_mk] at hrun hv;rw [(h3 m).1] at hrun;obtain ⟨x,hx1,hx2,-⟩:=argR_inv hv;have he:D.atKey (.string m) (argD ([],false))=argD x:=congrArg Prod.fst hx2;rw [(h3 m).2] at he;rw [hrun,hx1,argD_inj he]
theorem MapA.put (h:MapA w b n z f) (m:Wd) (hm:m.length<=5000000) (x:Wd×Bool) (hx:x.1.length<=5000000) (hn:n<=1000000000) :
  ∃ w',(Instr.mapUpdate 82 (.map (some b)) (strv m) (argV x)).run Tryz.prog w = .ok () w'/\MapA w' b (n+1) (if (f m).isSome then z else z+1) (fun k=>if m=k then some x else f k)/\w.grownBy w' (some b):=by
 obtain ⟨D,h1,h2,h3⟩:=h;have hi:=h1.isMap;have hti:=h1.tidy (Maps.string_keyed Tryz.underlying9);obtain ⟨w',hrun,hown,hg⟩:=h1.update (Maps.string_keyed Tryz.underlying9) Tryz.underlying82 (by unfold maxLen;omega) (key:=strv m) (WideMaps.keyOf_string_mk (s:=⟨m.toArray⟩) Tryz.underlying9 (by rw [size_mk];unfold maxLen;omega)) (argR_of x hx);rw [toList_mk] at hown;refine ⟨w',hrun,⟨_,hown,?_,fun k=>?_⟩,hg⟩
 ·rw [Maps.size_put hti,(h3 m).1,h2]
 ·by_cases hx:m=k
  ·subst hx;simp only [↓reduceIte];exact ⟨by rw [Maps.has_put_same hi (show WideAt.IsKeyLit (.string m) from trivial)];simp,by rw [Maps.atKey_put_same hi (show WideAt.IsKeyLit (.string m) from trivial)];simp⟩
  ·simp only [hx,↓reduceIte];have hne:(Lit.string k) ≠ .string m:=fun q=>hx (by cases q;rfl)
   exact ⟨by rw [Maps.has_put_other hne];exact (h3 k).1,by rw [Maps.atKey_put_other hne];exact (h3 k).2⟩
def RngA (w:World) (b r n:Nat) (f:Wd->Option (Wd×Bool)) (left:Wd->Bool) (cnt:Nat):Prop :=
 ∃ (D:DataW Unit) (l:Lit->Bool),w.ranges Tryz.prog 9 argR b r n D l cnt/\(∀ m,l (.string m)=left m)/\(∀ k,l k=true->∃ m,k = .string m)/\∀ m:Wd,(left m=true->(f m).isSome)/\D.atKey (.string m) (argD ([],false))=argD ((f m).getD ([],false))
theorem RngA.left_eq {r cnt:Nat} {left:Wd->Bool} (h:RngA w b r n f left cnt):w.rangeLeft b r=cnt:=by
 obtain ⟨D,l,h1,-⟩:=h;exact h1.left_eq
theorem RngA.fr {w':World} {F F':Nat->Prop} {r cnt:Nat} {left:Wd->Bool} (h:RngA w b r n f left cnt) (hf:Fr F F' w w') (hb:¬F b) (hr:¬F r):RngA w' b r n f left cnt:=by
 obtain ⟨D,l,h1,h2⟩:=h;have l1:=h1.owns.lt;have l2:=h1.lt;obtain ⟨es,clock,since,seen,c0,a1,a2,a3,a4,a5,a6⟩:=h1;exact ⟨D,l,⟨es,clock,since,seen,c0,(hf.keep b l1 hb).trans a1,a2,a3,a4,(hf.keep r l2 hr).trans a5,a6⟩,h2⟩
theorem RngA.next {r cnt:Nat} {left:Wd->Bool} (h:RngA w b r n f left cnt) (ty:TypeId) :
  (cnt=0/\(∀ m,left m=false)/\(Instr.next (.pointer (some ⟨r,0,none⟩)) false ty).run Tryz.prog w = .ok (.tuple #[.bool false]) w) \/
  ∃ m x w' cnt',left m=true/\f m=some x/\(Instr.next (.pointer (some ⟨r,0,none⟩)) false ty).run Tryz.prog w = .ok (.tuple #[.bool true,strv m,argV x]) w' /\
   RngA w' b r n f (fun k=>left k && !decide (k=m)) cnt'/\cnt'<cnt/\w.grownBy w' (some r)/\w'.heap.size=w.heap.size/\(Instr.entry (.pointer (some ⟨r,0,none⟩))).run Tryz.prog w' = .ok (.tuple #[strv m,argV x]) w':=by
 obtain ⟨D,l,h1,h2,h3,h4⟩:=h;rcases h1.next (Maps.string_keyed Tryz.underlying9) ty with ⟨a1,a2,a3⟩ | ⟨key,v,kl,y,w',cnt',a1,a2,a3,a4,a5,a6,a7,a8,a9,a10⟩
 ·exact .inl ⟨a1,fun m=>by rw [←h2];exact a2 _,a3⟩
 ·obtain ⟨m,rfl⟩:=h3 kl a2;have hl:left m=true:=by rw [←h2];exact a2
  obtain ⟨hs,hat⟩:=h4 m;obtain ⟨x,rfl,rfl,hx⟩:=argR_inv a3;have e:=a4 (argD ([],false));rw [hat] at e;have e':=argD_inj e;have hfm:f m=some x:=by
   have:=hs hl
   cases hf:f m with
   | none=>rw [hf] at this;cases this
   | some q=>rw [hf] at e';simp at e';rw [e']
  have hkey:key=strv m:=by
   cases key<;>simp [keyOf,Tryz.underlying9,mapKey] at a1;obtain ⟨-,e⟩:=a1;rw [←e]
  subst hkey;refine .inr ⟨m,x,w',cnt',hl,hfm,a5,⟨D,_,a6,fun k=>?_,fun k hk=>h3 k (by simp only [Bool.and_eq_true] at hk;exact hk.1),fun k=>⟨fun hk=>(h4 k).1 (by simp only [Bool.and_eq_true] at hk;exact hk.1),(h4 k).2⟩⟩,a7,a8,a9,a10⟩;simp only [h2];congr 1;by_cases hkm:k=m
  ·subst hkm;simp [Lit.sameKey]
  ·have:(Lit.string k).sameKey (.string m)=false:=Maps.sameKey_ne (fun q=>hkm (by cases q;rfl));simp [this,hkm]
theorem MapA.range (h:MapA w b n z f):∃ w',(Instr.range 82 (.map (some b))).run Tryz.prog w = .ok (.pointer (some ⟨w.heap.size,0,none⟩)) w'/\RngA w' b w.heap.size n f (fun m=>(f m).isSome) z/\w.grownBy w' none/\w'.heap.size=w.heap.size+1:=by
 obtain ⟨D,h1,h2,h3⟩:=h;obtain ⟨w',hrun,r1,r2,r3⟩:=h1.range (Maps.string_keyed Tryz.underlying9) Tryz.underlying82;rw [h2] at r1;refine ⟨w',hrun,⟨D,_,r1,fun m=>(h3 m).1,fun k hk=>?_,fun m=>⟨id,(h3 m).2⟩⟩,r2,r3⟩;obtain ⟨es,clock,since,seen,c0,a1,a2,a3,a4,a5,a6,a7,a8,a9,a10⟩:=r1;obtain ⟨x,hx,rfl⟩:=a9 k hk;obtain ⟨y,hy⟩:=a2.reads x hx;have hkey:=Go.WideElems.rd_key hy;rw [Go.WideElems.rg_of hy];generalize x.key=key at hkey
 cases key<;>simp [keyOf,Tryz.underlying9,mapKey] at hkey;exact ⟨_,hkey.2.symm⟩
end
abbrev argsV (c:Nat):Value := .func (.func 85) #[] #[.pointer (some ⟨c,0,none⟩)]
def ArgI (b c n z:Nat) (f:Wd->Option (Wd×Bool)) (_:Unit) (w:World):Prop:=MapA w b n z f/\w.cell? ⟨c,0,none⟩=some (.map (some b))/\∀ m x,f m=some x->x.1.length<=1000000
def getF (f:Wd->Option (Wd×Bool)) (n:Wd) (u:Unit):GetO×Unit:=(match f n with | none => .no | some (t,num) => .val t num,u)
def mapE (E:EnvF Unit) (f:Wd->Option (Wd×Bool)):EnvF Unit:=⟨E.wr,E.sort,getF f⟩
set_option maxHeartbeats 2000000 in
theorem closure_any {b c n z:Nat} {f:Wd->Option (Wd×Bool)} {w:World} (h:MapA w b n z f) (hc:w.cell? ⟨c,0,none⟩=some (.map (some b))) (m:Wd) (hm:m.length<=5000000) :
  Calls Tryz.prog 85 #[strv m,.pointer (some ⟨c,0,none⟩)] w fun e w'=>e = .returned (.tuple #[argV ((f m).getD ([],false)),.bool (f m).isSome])/\Fr noF noF w w':=by
 have HL:=fun o=>(h.fr ((Fr.refl noF w).alloc o) id).look m hm
 have hca:=fun o=>cell_al hc o
 clear h hc;go_enter Tryz.func85,Tryz.ntmps85
 go_wp2
 refine bodyPost_ret (v := .tuple #[argV ((f m).getD ([],false)),.bool (f m).isSome]) ?_ rfl ?_
 ·simp [results,Tryz.results85,go_sem]
 ·exact ⟨rfl,((Fr.refl noF w).alloc _).alloc _⟩
theorem map_getm (E:EnvF Unit) (b c n z:Nat) (f:Wd->Option (Wd×Bool)):GetM (argsV c) (mapE E f) (fun _=>noF) (fun _ k=>k=b\/k=c) (ArgI b c n z f):=by
 refine ⟨⟨85,#[.pointer (some ⟨c,0,none⟩)],rfl,fun args w=>by rfl,fun W s m hi hm=>?_⟩,fun _ _ q=>q.elim,fun s W k hi hk=>?_,fun s W W' hi hs hk=>?_⟩
 ·refine (closure_any hi.1 hi.2.1 m hm).mono ?_;rintro e w' ⟨rfl,hf⟩;refine ⟨?_,⟨hi.1.fr hf id,hf.cell hi.2.1 id,hi.2.2⟩,hf,fun k hk => .inl hk⟩;show GetR (getF f m s).1 _;unfold getF
  cases hfm:f m with
  | none=>exact ⟨_,_,rfl⟩
  | some x=>exact ⟨hi.2.2 m x hfm,rfl⟩
 ·rcases hk with rfl | rfl
  ·exact hi.1.lt
  ·exact World.block_lt_of_cell? _ _ hi.2.1
 ·exact ⟨hi.1.keep (hk b (.inl rfl)),(World.cell?_of_block (hk c (.inr rfl))).trans hi.2.1,hi.2.2⟩
end Go.Proofs.YthpldolmpinnhaaGreatDoor
