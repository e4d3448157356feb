import Derived.Test.YthpldolmpinnhaaGreatDoorJK26
import Derived.Test.YthpldolmpinnhaaGreatDoorShelfV
import Derived.Laws.IdiomCopy
set_option maxHeartbeats 64000000
open Go.Lib renaming hid→z7,cell_of_heap→z8,frozen_of_heap→zV,runeCount→zD,validD→zE,Utf8Tabs→zH
open Go.Value renaming int→zy
open Go.RowKit.Below renaming heap_alloc→zx,refl→zj,heap_setCell→zY,setCell→zF
open Go.World renaming cell?_alloc_lt→zv,cell?_setCells_out→zg,block_lt_of_cell?→zL,setCells→zO
open Array renaming replicate→zu
open List renaming drop_zero→zk,length_map→zU,length→zI,length_pos_iff→zN
open Nat renaming le_refl→zf,lt_of_lt_of_le→zX
open Bool renaming and_eq_true→zZ,not_eq_true→zQ,or_eq_true→zP
open Go.Result renaming andThen→zJ
open Go.Conv renaming runesFrom→zG
open Go.Instr renaming index→zM
open Go.Proofs.Tryz
namespace Go.Proofs.YthpldolmpinnhaaGreatDoor
open Go Go.RowKit
set_option maxRecDepth 10000
def yj3:List UInt8:=[48,49,50,51,52,53,54,55,56,57]
def K9(dg:List UInt8):List UInt8:=if dg=[] then yj3 else dg
def IV(ra rb:Bool)(mi po gr:Int)(fi ne:Nat)(dg:List UInt8)(Qc Qo:World->Value->Prop)(w:World)(e:Ending)(w':World):Prop :=
 Below w.heap.size w w' /\
 if kV ra rb mi po gr fi ne dg then ∃ (g:Nat) (cv ov:Value),e = .returned (.pointer (some ⟨g,0,none⟩))/\w.heap.size<=g/\g<w'.heap.size /\
   Ib w' g mi po gr fi ((if ne=0 then fi else ne:Nat):Int) (vv (K9 dg))/\w'.cell? ⟨g,0,none⟩=some cv/\w'.cell? ⟨g,1,none⟩=some ov /\
   (∀ W,Below w'.heap.size w' W->Qc W cv)/\(∀ W,Below w'.heap.size w' W->Qo W ov)
 else e = .returned (.pointer none)
def Zd(b:Nat)(A B:World):Prop:=A.heap.size<=B.heap.size/\∀ j,j≠b->j≠b+1->j<A.heap.size->B.heap[j]? = A.heap[j]?
theorem Zd.refl(b:Nat)(A:World):Zd b A A:=⟨zf _,fun _ _ _ _=>rfl⟩
theorem Zd.trans{b:Nat}{A B C:World}(h:Zd b A B)(k:Zd b B C):Zd b A C :=
 ⟨Nat.le_trans h.1 k.1,fun j h1 h2 h3=>(k.2 j h1 h2 (zX h3 h.1)).trans (h.2 j h1 h2 h3)⟩
theorem Zd.below{b:Nat}{A B:World}(h:Below A.heap.size A B):Zd b A B:=⟨h.size,fun j _ _ h3=>h.block j h3⟩
theorem Zd.set{b:Nat}{A B:World}(h:Zd b A B)(p:Addr)(v:Value)(hp:p.block=b\/p.block=b+1):Zd b A (B.setCell p v) :=
 h.trans ⟨by simp,fun j h1 h2 _=>zY _ _ _ _ (by omega)⟩
theorem Zd.agree{b hi:Nat}{A B C:World}(h:Zd b A B)(hh:b+2<=hi)(hb:b+2<=A.heap.size)(k:Below B.heap.size B C):Pd b hi A C :=
 ⟨Nat.le_trans h.1 k.size,fun j hj=>by
  have xC:j<A.heap.size:=by omega
  rw[k.block j (zX xC h.1)];exact h.2 j (by omega) (by omega) xC⟩
theorem Sy(h:Array Obj)(a b:Obj):((h.push a).push b)[h.size+1]? = some b:=by
 have e:h.size+1=(h.push a).size:=by simp
 rw[e];exact Array.getElem?_push_size
theorem Vp(r:Int):Lib.validRune r=bF r:=by
 unfold Lib.validRune bF;rw[decide_eq_decide];omega
theorem aY{ra rb:Bool}{mi po gr:Int}{fi ne:Nat}{dg:List UInt8}(h:¬(ra=true/\rb=true/\max (fi:Int) (ne:Int)<=9/\¬mi=0/\¬po=0)):kV ra rb mi po gr fi ne dg=false:=by
 rw[←zQ];intro hk;simp only[kV,zZ,Bool.not_eq_true',beq_eq_false_iff_ne,decide_eq_true_eq] at hk;exact h ⟨hk.1,hk.2.1,by omega,hk.2.2.2.2.2.1,hk.2.2.2.2.2.2.1⟩
theorem Kz{ra rb:Bool}{mi po gr:Int}{fi ne:Nat}{dg:List UInt8}(h:bF mi=false\/bF po=false\/bF gr=false):kV ra rb mi po gr fi ne dg=false:=by
 rw[←zQ];intro hk;simp only[kV,zZ] at hk;rcases h with h|h|h
 ·rw[hk.2.2.1] at h;cases h
 ·rw[hk.2.2.2.1] at h;cases h
 ·rw[hk.2.2.2.2.1] at h;cases h
theorem bO{w W:World}(h:zH 3 4 w)(hb:Below w.heap.size w W):zH 3 4 W:=by
 have lt:∀ (a:Addr) (v:Value),w.cell? a=some v->a.block<w.heap.size:=fun a v h=>zL w a h
 refine⟨fun c hc=>?_,fun i hi=>⟨?_,?_⟩⟩
 ·rw[hb.cell (lt _ _ (h.1 c hc))];exact h.1 c hc
 ·rw[hb.cell (lt _ _ (h.2 i hi).1)];exact(h.2 i hi).1
 ·rw[hb.cell (lt _ _ (h.2 i hi).2)];exact(h.2 i hi).2
theorem B0{ra rb:Bool}{mi po gr:Int}{fi ne:Nat}{dg:List UInt8}(h:zE dg=false):kV ra rb mi po gr fi ne dg=false:=by
 rw[←zQ];intro hk;simp only[kV,zZ,decide_eq_true_eq] at hk;have h1:(uI dg).2=dg.length:=by have:=hk.2.2.2.2.2.2.2.1;omega
 rw[(b7 dg).2 h1] at h
 cases h
theorem ft{w:World}{o:Obj}{a:Addr}(h:a.block<w.heap.size):(w.alloc o).cell? a=w.cell? a:=zv w o a h
theorem B1:(uI (⟨#[48,49,50,51,52,53,54,55,56,57]⟩:ByteArray).data.toList).1.length=10:=by
 have h:=(gx ⟨#[48,49,50,51,52,53,54,55,56,57]⟩ 10 0 (by decide) (by decide) (by rw[zk,(b7 _).1 (by decide)];decide)).1;rw[zk] at h;rw[←h];decide
theorem B2{ra rb:Bool}{mi po gr:Int}{fi ne:Nat}{dg:List UInt8}(hd:¬dg=[])(h:¬(uI dg).1.length=10):kV ra rb mi po gr fi ne dg=false:=by
 rw[←zQ];intro hk;simp only[kV,zZ,zP,decide_eq_true_eq] at hk;rcases hk.2.2.2.2.2.2.2.2.1 with h1|h1
 ·exact h1 (zN.2 hd)
 ·refine h ?_;simp at h1;omega
theorem Vr(B:Nat)(w:World)(s:ByteArray)(pos:Nat):B<=w.heap.size->Below B w (w.iter s pos):=fun hB=>(zj _ _).alloc hB _
theorem heap_set{w:World}{b j:Nat}{cs:Array Value}{T:TypeId}{fr:Nat×Nat}(h:w.heap[b]? = some (.cells cs T fr))(v:Value):(w.setCell ⟨b,j,none⟩ v).heap[b]? = some (.cells (cs.setIfInBounds j v) T fr):=by
 simp[World.setCell,Array.getElem?_modify,h]
structure RW(b:Nat)(c o cv ov:Value)(mi po gr fi ne nx:Int)(dg:ByteArray)(W:World):Prop where
 hA:W.heap[b]? = some (.cells #[c,o,.int .i32 mi,.int .i32 po,.int .i32 gr,.int .u8 fi,.int .u8 ne,.string dg] 25 (0,0))
 hB:W.heap[b+1]? = some (.cells #[cv,ov,.int .i32 mi,.int .i32 po,.int .i32 gr,.int .i64 fi,.int .i64 nx,.int .i32 0,.int .i32 0,.int .i32 0,.int .i32 0,.int .i32 0,.int .i32 0,.int .i32 0,.int .i32 0,.int .i32 0,.int .i32 0] 143 (0,0))
theorem RW.below{b B:Nat}{c o cv ov:Value}{mi po gr fi ne nx:Int}{dg:ByteArray}{W W':World}(h:RW b c o cv ov mi po gr fi ne nx dg W)(hb:Below B W W')(xC:b+1<B):RW b c o cv ov mi po gr fi ne nx dg W' :=
 ⟨by rw[hb.block b (by omega)];exact h.hA,by rw[hb.block (b+1) xC];exact h.hB⟩
theorem RW.a{b:Nat}{c o cv ov:Value}{mi po gr fi ne nx:Int}{dg:ByteArray}{W:World}(h:RW b c o cv ov mi po gr fi ne nx dg W) :
  W.cell? ⟨b,0,none⟩=some c/\W.cell? ⟨b,1,none⟩=some o/\W.cell? ⟨b,2,none⟩=some (.int .i32 mi)/\W.cell? ⟨b,3,none⟩=some (.int .i32 po)/\W.cell? ⟨b,4,none⟩=some (.int .i32 gr) /\
  W.cell? ⟨b,5,none⟩=some (.int .u8 fi)/\W.cell? ⟨b,6,none⟩=some (.int .u8 ne)/\W.cell? ⟨b,7,none⟩=some (.string dg)/\W.frozen? ⟨b,7,none⟩=false :=
 ⟨z8 h.hA 0,z8 h.hA 1,z8 h.hA 2,z8 h.hA 3,z8 h.hA 4,z8 h.hA 5,z8 h.hA 6,z8 h.hA 7,zV h.hA 7⟩
theorem RW.b{b:Nat}{c o cv ov:Value}{mi po gr fi ne nx:Int}{dg:ByteArray}{W:World}(h:RW b c o cv ov mi po gr fi ne nx dg W) :
  W.cell? ⟨b+1,0,none⟩=some cv/\W.cell? ⟨b+1,1,none⟩=some ov/\W.cell? ⟨b+1,5,none⟩=some (.int .i64 fi)/\W.cell? ⟨b+1,6,none⟩=some (.int .i64 nx) /\
  W.frozen? ⟨b+1,0,none⟩=false/\W.frozen? ⟨b+1,1,none⟩=false/\W.frozen? ⟨b+1,6,none⟩=false :=
 ⟨z8 h.hB 0,z8 h.hB 1,z8 h.hB 5,z8 h.hB 6,zV h.hB 0,zV h.hB 1,zV h.hB 6⟩
theorem RW.Ya{b:Nat}{c o cv ov:Value}{mi po gr fi ne nx:Int}{dg:ByteArray}{W:World}(h:RW b c o cv ov mi po gr fi ne nx dg W)(v:Value):RW b c o v ov mi po gr fi ne nx dg (W.setCell ⟨b+1,0,none⟩ v) :=
 ⟨by rw[zY _ _ _ _ (by simp)];exact h.hA,by rw[heap_set h.hB];rfl⟩
theorem RW.C1{b:Nat}{c o cv ov:Value}{mi po gr fi ne nx:Int}{dg:ByteArray}{W:World}(h:RW b c o cv ov mi po gr fi ne nx dg W)(v:Value):RW b c o cv v mi po gr fi ne nx dg (W.setCell ⟨b+1,1,none⟩ v) :=
 ⟨by rw[zY _ _ _ _ (by simp)];exact h.hA,by rw[heap_set h.hB];rfl⟩
theorem RW.zek{b:Nat}{c o cv ov:Value}{mi po gr fi ne nx:Int}{dg:ByteArray}{W:World}(h:RW b c o cv ov mi po gr fi ne nx dg W)(v:Int):RW b c o cv ov mi po gr fi ne v dg (W.setCell ⟨b+1,6,none⟩ (.int .i64 v)) :=
 ⟨by rw[zY _ _ _ _ (by simp)];exact h.hA,by rw[heap_set h.hB];rfl⟩
theorem RW.zej{b:Nat}{c o cv ov:Value}{mi po gr fi ne nx:Int}{dg:ByteArray}{W:World}(h:RW b c o cv ov mi po gr fi ne nx dg W)(d:ByteArray):RW b c o cv ov mi po gr fi ne nx d (W.setCell ⟨b,7,none⟩ (.string d)) :=
 ⟨by rw[heap_set h.hA];rfl,by rw[zY _ _ _ _ (by simp)];exact h.hB⟩
theorem Sv(V:World)(cs:List Value)(r:Array Value)(T:TypeId)(j:Nat)(v:Value)(h:cs[j]? = some v) :
  (V.alloc (.cells (cs.toArray++r) T)).drew.drew.cell? ((⟨V.heap.size,0,none⟩:Addr).add j)=some v:=by
 have h1:(V.alloc (.cells (cs.toArray++r) T)).drew.drew.heap[V.heap.size]? = some (.cells (cs.toArray++r) T):=by
  show(V.heap.push _)[V.heap.size]? = _;simp
 have xC:j<cs.length:=by
  rcases Nat.lt_or_ge j cs.length with hh|hh
  ·exact hh
  ·rw[List.getElem?_eq_none hh] at h;cases h
 rw[ur,z8 h1 j,Array.getElem?_append_left (by simpa using xC)];simpa using h
theorem B3{V:World}{g:Nat}{cs:Array Value}{T:TypeId}(h:V.heap[g]? = some (.cells cs T (0,0)))(hs:cs.size=17)(n:Nat)(hn:n=10) :
  (∀ j,j<n->(V.cell? ⟨g,7+j,none⟩).isSome=true)/\∀ j,j<n->V.frozen? ⟨g,7+j,none⟩=false:=by
 subst hn;refine⟨fun j hj=>?_,fun j hj=>zV h _⟩;rw[z8 h (7+j)];have:7+j<cs.size:=by omega
 simp[this]
theorem Zd.setCells{b:Nat}{A:World}:∀ (vs:List Value) (B:World) (o:Nat),Zd b A B->Zd b A (B.setCells (b+1) o vs)
 | [],_,_,h=>h
 | v::vs,B,o,h=>by
  unfold zO;exact Zd.setCells vs _ _ (h.set _ _ (.inr rfl))
theorem XQ{b:Nat}{A:World}:∀ (vs:List Value) (B:World) (o:Nat),Below b A B->Below b A (B.setCells (b+1) o vs)
 | [],_,_,h=>h
 | v::vs,B,o,h=>by
  unfold zO;exact XQ vs _ _ (h.setCell (Nat.le_succ b) _)
theorem JG{mi po gr:Int}{fi ne:Nat}{dg D:List UInt8}(hD:D=K9 dg)(h3:max (fi:Int) (ne:Int)<=9)(h4:¬mi=0)(h5:¬po=0)(p1:bF mi=true)(p2:bF po=true)(p3:bF gr=true)
  (hp:(uI D).2=D.length) (hc:(uI D).1.length=10):kV true true mi po gr fi ne dg=true:=by
 unfold K9 at hD;by_cases h:dg=[]
 ·subst h;have e:(uI []).2=0:=by rw[kC]
  simp[kV,p1,p2,p3,h4,h5,e];omega
 ·rw[if_neg h] at hD;subst hD;simp[kV,p1,p2,p3,h4,h5,hp,hc];omega
theorem Ur{w W1 W3 W7:World}{D:ByteArray}{pos:Nat}{ob:Obj}{c oo cv ov:Value}{mi po gr:Int}{fi ne nx U8 wo:Nat}{rs:List Int}{dg:List UInt8}{Qc Qo:World->Value->Prop}
  (h:RW w.heap.size c oo cv ov mi po gr fi ne (nx:Int) D W7) (hb:Below w.heap.size w W7) (hz:w.heap.size+2<=W7.heap.size) (hl:rs.length=10) (CJ:nx=if ne=0 then fi else ne)
  (ZQ:rs=vv D.data.toList) (hD:D.data.toList=K9 dg) (hk:kV true true mi po gr fi ne dg=true)
  (s1:Zd w.heap.size W1 W7) (s3:Zd w.heap.size W3 W7) (h1:w.heap.size+2<=U8) (h3:w.heap.size+2<=wo) (z1:w.heap.size+2<=W1.heap.size) (z3:w.heap.size+2<=W3.heap.size)
  (q1:∀ W,Pd w.heap.size U8 W1 W->Qc W cv) (q3:∀ W,Pd w.heap.size wo W3 W->Qo W ov) :
  IV true true mi po gr fi ne dg Qc Qo w (.returned (.pointer (some ⟨w.heap.size+1,0,none⟩))) (((W7.iter D pos).alloc ob).drew.drew.setCells (w.heap.size+1) 7 (rs.map (zy .i32))):=by
 have hV:((W7.iter D pos).alloc ob).drew.drew.heap[w.heap.size+1]? = W7.heap[w.heap.size+1]? := by
  show((W7.alloc _).alloc _).heap[w.heap.size+1]? = _;rw[zx _ _ _ (by simp;omega),zx _ _ _ (by omega)]
 have Eb:=hV.trans h.hB;have sV:∀ {A:World},Zd w.heap.size A W7->Zd w.heap.size A (((W7.iter D pos).alloc ob).drew.drew.setCells (w.heap.size+1) 7 (rs.map (zy .i32))):=by
  intro A hA;refine Zd.setCells _ _ _ (hA.trans ⟨?_,fun j _ _ hj=>?_⟩)
  ·show W7.heap.size<=((W7.alloc _).alloc _).heap.size;simp;omega
  ·show((W7.alloc _).alloc _).heap[j]? = _;rw[zx _ _ _ (by simp;omega),zx _ _ _ hj]
 have hbV:Below w.heap.size w (((W7.iter D pos).alloc ob).drew.drew.setCells (w.heap.size+1) 7 (rs.map (zy .i32))):=by
  refine XQ _ _ _ ?_;have h1:Below w.heap.size w ((W7.iter D pos).alloc ob):=(hb.trans (Vr _ _ _ _ (by omega))).alloc (by show _<=(W7.alloc _).heap.size;simp;omega) _;exact⟨h1.os,h1.tape,h1.output,h1.size,h1.block⟩
 have hz9:=(sV (Zd.refl _ W7)).1;generalize hVV:((W7.iter D pos).alloc ob).drew.drew=V at *;have out:∀ j,j<7->(V.setCells (w.heap.size+1) 7 (rs.map (zy .i32))).cell? ⟨w.heap.size+1,j,none⟩=V.cell? ⟨w.heap.size+1,j,none⟩:=fun j hj=>zg _ _ _ _ _ (fun _ _ => .inl hj)
 refine⟨hbV,?_⟩;rw[if_pos hk];refine⟨w.heap.size+1,cv,ov,rfl,Nat.le_succ _,by omega,⟨?_,?_,?_,?_,?_,?_,?_⟩,?_,?_,fun W hW=>q1 W ((sV s1).agree h1 z1 hW),fun W hW=>q3 W ((sV s3).agree h3 z3 hW)⟩
 ·rw[out 2 (by decide)];exact z8 Eb 2
 ·rw[out 3 (by decide)];exact z8 Eb 3
 ·rw[out 4 (by decide)];exact z8 Eb 4
 ·rw[out 5 (by decide)];exact z8 Eb 5
 ·rw[out 6 (by decide),←CJ];exact z8 Eb 6
 ·rw[←hD,←ZQ];exact hl
 ·rw[←hD,←ZQ];intro j hj;have dI:=World.cell?_setCells_in (w.heap.size+1) (rs.map (zy .i32)) 7 V (by rw[zU];exact(B3 Eb rfl _ hl).1) j (by simpa using hj);rw[dI,List.getElem_map]
 ·rw[out 0 (by decide)];exact z8 Eb 0
 ·rw[out 1 (by decide)];exact z8 Eb 1
theorem Us(V:World)(rs:List Int)(r:Array Value)(cap b:Nat){cs:Array Value}{T:TypeId}(hl:rs.length=10)
  (Eb:(V.alloc (.cells ((rs.map (zy .i32)).toArray++r) 21)).drew.drew.heap[b]? = some (.cells cs T (0,0))) (hs:cs.size=17) :
  (Builtin.copy_ #[147,147] 3 #[.slice (some ⟨b,7,none⟩) 10 10,.slice (some ⟨V.heap.size,0,none⟩) 10 cap]).run Tryz.prog (V.alloc (.cells ((rs.map (zy .i32)).toArray++r) 21)).drew.drew =
   .ok (goInt (rs.map (zy .i32)).length) ((V.alloc (.cells ((rs.map (zy .i32)).toArray++r) 21)).drew.drew.setCells b 7 (rs.map (zy .i32))):=by
 have hd:=B3 Eb hs (rs.map (zy .i32)).length (by simp[hl]);have yj4:=Sv V (rs.map (zy .i32)) r 21;generalize (V.alloc (.cells ((rs.map (zy .i32)).toArray++r) 21)).drew.drew=W at *;exact run_copy_cells W 147 147 3 21 b 7 10 10 ⟨V.heap.size,0,none⟩ 10 cap (rs.map (zy .i32)) underlying147 (by kernel_rfl) (by simp[hl]) yj4 hd.1 hd.2 (by intro v hv;simp at hv;obtain⟨x,_,rfl⟩:=hv;rfl)
theorem aX(c o:Value)(ra rb:Bool)(mi po gr:Int)(fi ne:Nat)(dg:ByteArray)(Qc Qo:World->Value->Prop)(w:World)(hd:dg.size<=1000000)(o7:fi<=255)(vx:ne<=255)
  (hc:fN w c ra Qc) (ho:fN w o rb Qo) (hco:(∃ a n k,c = .slice a n k)/\∃ a n k,o = .slice a n k) (hT:zH 3 4 w) :
  Calls Tryz.prog 43 #[Sz c o mi po gr fi ne dg] w (IV ra rb mi po gr fi ne dg.data.toList Qc Qo w):=by
 obtain⟨⟨ca,cn,ck,rfl⟩,oa,on,ok,rfl⟩:=hco;have zeg:∀ W:World,(zM 144 (.agg #[.int .i32 mi,.int .i32 po,.int .i32 gr]) (.int .i64 0)).run Tryz.prog W = .ok (.int .i32 mi) W:=fun W=>by kernel_rfl
 have zef:∀ W:World,(zM 144 (.agg #[.int .i32 mi,.int .i32 po,.int .i32 gr]) (.int .i64 1)).run Tryz.prog W = .ok (.int .i32 po) W:=fun W=>by kernel_rfl
 have zed:∀ W:World,(zM 144 (.agg #[.int .i32 mi,.int .i32 po,.int .i32 gr]) (.int .i64 2)).run Tryz.prog W = .ok (.int .i32 gr) W:=fun W=>by kernel_rfl
 have HC:=z7 hc;have HO:=z7 ho;clear hc ho;go_enter func43,ntmps43;go_wp2_with fail;refine vN ?_;intro W hW;have hR:RW w.heap.size (.slice ca cn ck) (.slice oa on ok) (.slice none 0 0) (.slice none 0 0) mi po gr fi ne ne dg W:=by
  rw[hW];refine⟨?_,?_⟩
  ·rw[zx _ _ _ (by simp)];show(w.heap.push _)[w.heap.size]? = _;simp
  ·show((w.heap.push _).push _)[w.heap.size+1]? = _;exact Sy _ _ _
 have jT:Below w.heap.size w W:=by rw[hW];exact((zj _ _).alloc (zf _) _).alloc (by simp) _
 have hzW:w.heap.size+2<=W.heap.size:=by rw[hW];simp
 clear hW;have HZW:=z7 hzW;refine(HC.out W jT).mono ?_;rintro e W1 ⟨⟨a1,n1,k1,rfl,hQ1⟩,xB⟩;have IU:=hR.below xB (by omega);have uH:Below w.heap.size w W1:=jT.trans (xB.mono (by omega));have UL:w.heap.size+2<=W1.heap.size:=by have:=xB.size;omega
 clear hR jT hzW xB;obtain⟨g0,g1,g2,g3,g4,g5,g6⟩:=IU.b;obtain⟨a0,NQ,a2,a3,a4,a5,a6,a7,a8⟩:=IU.a;have HQ1:=z7 hQ1;clear hQ1;go_wp2_with fail;refine vN ?_;intro W2 M8;have Ln:RW w.heap.size (.slice ca cn ck) (.slice oa on ok) (.slice a1 n1 k1) (.slice none 0 0) mi po gr fi ne ne dg W2:=by rw[M8];exact IU.Ya _
 have qX:Below w.heap.size w W2:=by rw[M8];exact uH.setCell (p:=⟨w.heap.size+1,0,none⟩) (by simp) _
 have S9:Below w.heap.size W1 W2:=by rw[M8];exact(zj _ _).setCell (p:=⟨w.heap.size+1,0,none⟩) (by simp) _
 have QQ:w.heap.size+2<=W2.heap.size:=by rw[M8];simpa using UL
 have s12:Zd w.heap.size W1 W2:=by rw[M8];exact(Zd.refl _ _).set _ _ (.inr rfl)
 clear M8;refine(HO.out W2 qX).mono ?_;rintro e W3 ⟨⟨a9,n9,k9,rfl,hQ3⟩,uD⟩;have sk:=Ln.below uD (by omega);have Z8:Below w.heap.size w W3:=qX.trans (uD.mono (by omega));have Li:w.heap.size+2<=W3.heap.size:=by have:=uD.size;omega
 have s13:=s12.trans (Zd.below (b:=w.heap.size) uD);clear a0 NQ a2 a3 a4 a5 a6 a7 a8 g0 g1 g2 g3 g4 g5 g6;obtain⟨g0,g1,g2,g3,g4,g5,g6⟩:=sk.b;obtain⟨a0,NQ,a2,a3,a4,a5,a6,a7,a8⟩:=sk.a;have Rw:=z7 hQ3;clear hQ3;by_cases UI:ra=true/\rb=true/\max (fi:Int) (ne:Int)<=9/\¬mi=0/\¬po=0
 ·obtain⟨r1,r2,r3,r4,r5⟩:=UI;have hmi:(mi==0)=false:=by simpa using r4
  have hpo:(po==0)=false:=by simpa using r5
  go_wp2_with fail;refine QG ?_;intro W4 FC;have EB:RW w.heap.size (.slice ca cn ck) (.slice oa on ok) (.slice a1 n1 k1) (.slice a9 n9 k9) mi po gr fi ne ne dg W4:=by rw[FC];exact sk.C1 _
  have bP:Below w.heap.size w W4:=by rw[FC];exact Z8.setCell (p:=⟨w.heap.size+1,1,none⟩) (by simp) _
  have xxx:Below (w.heap.size+1) W3 W4:=by rw[FC];exact(zj _ _).setCell (p:=⟨w.heap.size+1,1,none⟩) (by simp) _
  have hz4:w.heap.size+2<=W4.heap.size:=by rw[FC];simpa using Li
  have s34:Zd w.heap.size W3 W4:=by rw[FC];exact(Zd.refl _ _).set _ _ (.inr rfl)
  have HW4:=z7 FC;clear FC;clear a0 NQ a2 a3 a4 a5 a6 a7 a8 g0 g1 g2 g3 g4 g5 g6;go_loopw [71] (fun i wr=>∃ k:Nat,k<=3/\i = .int .i64 k/\wr=W4/\(0<k->bF mi=true)/\(1<k->bF po=true)/\(2<k->bF gr=true)) (fun i _=>3 - (intOf i).toNat)
  case atStart=>exact⟨0,by omega,rfl,rfl,fun h=>by omega,fun h=>by omega,fun h=>by omega⟩
  case round =>
   obtain⟨k,hk,rfl,Eg,p1,p2,p3⟩:=hrel;subst Eg;have fM:k=0\/k=1\/k=2\/k=3:=by omega
   rcases fM with Cu|hk1|lZ|hk3
   ·subst Cu;go_wp2_with fail;refine(Tryz.utf8_ValidRune mi _).mono ?_;rintro e w' ⟨rfl,rfl⟩;rw[Vp]
    cases hp:bF mi
    ·have HF:=z7 (Kz (ra:=ra) (rb:=rb) (fi:=fi) (ne:=ne) (dg:=dg.data.toList) (mi:=mi) (po:=po) (gr:=gr) (.inl hp));clear hp;go_wp2;go_ret;refine⟨bP,?_⟩;rw[HF.out];exact rfl
    ·have HP:=z7 hp;clear hp;go_wp2;go_roundw
     case rel=>exact⟨1,by omega,by go_num,by first|rfl|trivial,fun _=>HP.out,fun h=>by omega,fun h=>by omega⟩
     case measure=>simp[intOf]
   ·subst hk1;go_wp2_with fail;refine(Tryz.utf8_ValidRune po _).mono ?_;rintro e w' ⟨rfl,rfl⟩;rw[Vp]
    cases hp:bF po
    ·have HF:=z7 (Kz (ra:=ra) (rb:=rb) (fi:=fi) (ne:=ne) (dg:=dg.data.toList) (mi:=mi) (po:=po) (gr:=gr) (.inr (.inl hp)));clear hp;go_wp2;go_ret;refine⟨bP,?_⟩;rw[HF.out];exact rfl
    ·have HP:=z7 hp;clear hp;go_wp2;go_roundw
     case rel=>exact⟨2,by omega,by go_num,by first|rfl|trivial,fun _=>p1 (by omega),fun _=>HP.out,fun h=>by omega⟩
     case measure=>simp[intOf]
   ·subst lZ;go_wp2_with fail;refine(Tryz.utf8_ValidRune gr _).mono ?_;rintro e w' ⟨rfl,rfl⟩;rw[Vp]
    cases hp:bF gr
    ·have HF:=z7 (Kz (ra:=ra) (rb:=rb) (fi:=fi) (ne:=ne) (dg:=dg.data.toList) (mi:=mi) (po:=po) (gr:=gr) (.inr (.inr hp)));clear hp;go_wp2;go_ret;refine⟨bP,?_⟩;rw[HF.out];exact rfl
    ·have HP:=z7 hp;clear hp;go_wp2;go_roundw
     case rel=>exact⟨3,by omega,by go_num,by first|rfl|trivial,fun _=>p1 (by omega),fun _=>p2 (by omega),fun _=>HP.out⟩
     case measure=>simp[intOf]
   ·subst hk3;by_cases n0:ne=0
    ·have n0':((ne:Int)==0)=true:=by simp[n0]
     by_cases d0:dg.data.toList=[]
     ·have d0':dg.toList.isEmpty=true:=by rw[toList_eq,d0];rfl
      obtain⟨g0,g1,g2,g3,g4,g5,g6⟩:=EB.b;obtain⟨a0,NQ,a2,a3,a4,a5,a6,a7,a8⟩:=EB.a;go_wp2_with fail;refine vN ?_;intro W6 Jc;have hR6:RW w.heap.size (.slice ca cn ck) (.slice oa on ok) (.slice a1 n1 k1) (.slice a9 n9 k9) mi po gr fi ne ((fi:Nat):Int) ⟨#[48,49,50,51,52,53,54,55,56,57]⟩ W6:=by rw[Jc];exact((EB.zek _).zej _)
      have GL:Below w.heap.size wr W6:=by rw[Jc];(repeat(first|(with_reducible exact zj _ _)|(with_reducible refine zF ?_ ?_ _;rotate_left;focus(first|(simp;done)|(simp;omega)))))
      have s46:Zd w.heap.size wr W6:=by rw[Jc];exact(((Zd.refl _ _).set _ _ (.inr rfl)).set _ _ (.inl rfl))
      have hz6:w.heap.size+2<=W6.heap.size:=by have:=GL.size;omega
      clear a0 NQ a2 a3 a4 a5 a6 a7 a8 g0 g1 g2 g3 g4 g5 g6 Jc;have YF:=bP.trans GL;have hT6:=bO hT YF;refine(Tryz.utf8_ValidString ⟨#[48,49,50,51,52,53,54,55,56,57]⟩ W6 (by first|omega|decide) hT6).mono ?_;rintro e W7 ⟨rfl,jQ⟩
      cases hv:zE (⟨#[48,49,50,51,52,53,54,55,56,57]⟩:ByteArray).data.toList
      ·exact absurd hv (by decide)
      ·have C9:=z7 hv;clear hv;have NK:=hR6.below jQ (by omega);have Ky:Below w.heap.size w W7:=YF.trans (jQ.mono (by omega));have aV:Zd w.heap.size W3 W7:=(s34.trans s46).trans (Zd.below jQ);have hz7:w.heap.size+2<=W7.heap.size:=by have:=jQ.size;omega
       obtain⟨a0,NQ,a2,a3,a4,a5,a6,a7,a8⟩:=NK.a;go_wp2_with fail;refine(Tryz.utf8_RuneCountInString ⟨#[48,49,50,51,52,53,54,55,56,57]⟩ W7 (by first|omega|decide)).mono ?_;rintro e W8 ⟨rfl,pos,rfl⟩;have VS:(uI (⟨#[48,49,50,51,52,53,54,55,56,57]⟩:ByteArray).data.toList).2=(⟨#[48,49,50,51,52,53,54,55,56,57]⟩:ByteArray).data.toList.length:=(b7 _).1 C9.out;have VE:=gx ⟨#[48,49,50,51,52,53,54,55,56,57]⟩ (⟨#[48,49,50,51,52,53,54,55,56,57]⟩:ByteArray).size 0 (by omega) (by omega) (by rw[zk,VS,xi];simp);rw[zk] at VE;rw[show zD ⟨#[48,49,50,51,52,53,54,55,56,57]⟩=(uI (⟨#[48,49,50,51,52,53,54,55,56,57]⟩:ByteArray).data.toList).1.length from VE.1];have Di:=z7 VE;have DO:=z7 VS;clear VE VS;obtain⟨cnt,Z6⟩:∃ n,(uI (⟨#[48,49,50,51,52,53,54,55,56,57]⟩:ByteArray).data.toList).1.length=n:=⟨_,rfl⟩;rw[Z6];have Vs:=z7 Z6;clear Z6;by_cases dM:cnt=10
       ·subst dM;have Uv:zG ⟨#[48,49,50,51,52,53,54,55,56,57]⟩ (⟨#[48,49,50,51,52,53,54,55,56,57]⟩:ByteArray).size 0 #[]=((vv (⟨#[48,49,50,51,52,53,54,55,56,57]⟩:ByteArray).data.toList).map (zy .i32)).toArray:=by have:=Di.out.2 #[];simpa using this
        have Kr:(vv (⟨#[48,49,50,51,52,53,54,55,56,57]⟩:ByteArray).data.toList).length=10:=by
         have:=congrArg zI (ZP _ (⟨#[48,49,50,51,52,53,54,55,56,57]⟩:ByteArray).data.toList (zf _));rw[zU,Vs.out] at this;exact this
        obtain⟨rs,ZQ⟩:∃ r:List Int,r=vv (⟨#[48,49,50,51,52,53,54,55,56,57]⟩:ByteArray).data.toList:=⟨_,rfl⟩;rw[←ZQ] at Uv Kr;have hcv:∀ W:World,(convert 9 147 (.string ⟨#[48,49,50,51,52,53,54,55,56,57]⟩)).run Tryz.prog W = .ok (.slice (some ⟨W.heap.size,0,none⟩) 10 (grownCap W 10 0 21)) (W.drew.alloc (.cells ((rs.map (zy .i32)).toArray++zu (grownCap W 10 0 21 - 10) (.int .i32 0)) 21)):=by
         intro W;have:=run_runes_of_string (P:=Tryz.prog) W 9 147 21 ⟨#[48,49,50,51,52,53,54,55,56,57]⟩ underlying9 underlying147 underlying21 (by rw[Uv];simp;omega);rw[Uv] at this;simpa[Kr] using this
        have HRF:=z7 Uv;have AK:=z7 ZQ;clear Uv ZQ;go_wp2_with fail;have kO:(W7.iter ⟨#[48,49,50,51,52,53,54,55,56,57]⟩ pos).drew.cell? ⟨w.heap.size,7,none⟩=some (.string ⟨#[48,49,50,51,52,53,54,55,56,57]⟩):=by
         show(W7.alloc _).cell? _=_;rw[zv _ _ _ (by simp;omega)];exact a7
        refine rt (fun W':World=>W'.cell? ⟨w.heap.size,7,none⟩=some (.string ⟨#[48,49,50,51,52,53,54,55,56,57]⟩)) [0,1,2,3,4,5] 2 kO ?_;(iterate 6 ((first|refine ty ?_|refine tn ?_);try simp only[pl]))
        refine xq ?_;refine xg 6 (by kernel_rfl) rfl (fun K hK=>?_);go_simp;refine hK.out _ _ ?_ (fun _=>?_)
        ·show((W7.iter ⟨#[48,49,50,51,52,53,54,55,56,57]⟩ pos).alloc _).cell? _=_;rw[ft (by show _<(W7.alloc _).heap.size;simp;omega)];exact kO
        clear hK K;refine xg 7 (by kernel_rfl) rfl (fun K hK=>?_);go_simp;have NJ:(((W7.iter ⟨#[48,49,50,51,52,53,54,55,56,57]⟩ pos).alloc (.cells ((rs.map (zy .i32)).toArray++zu (grownCap (W7.iter ⟨#[48,49,50,51,52,53,54,55,56,57]⟩ pos).drew 10 0 21 - 10) (.int .i32 0)) 21)).drew.drew).heap[w.heap.size+1]? = W7.heap[w.heap.size+1]? := by
         show((W7.alloc _).alloc _).heap[w.heap.size+1]? = _;rw[zx _ _ _ (by simp;omega),zx _ _ _ (by omega)]
        have Eb:=NJ.trans NK.hB;have GM:=Us (W7.iter ⟨#[48,49,50,51,52,53,54,55,56,57]⟩ pos) rs (zu (grownCap (W7.iter ⟨#[48,49,50,51,52,53,54,55,56,57]⟩ pos).drew 10 0 21 - 10) (.int .i32 0)) (grownCap (W7.iter ⟨#[48,49,50,51,52,53,54,55,56,57]⟩ pos).drew 10 0 21) (w.heap.size+1) Kr Eb (by simp);rw[GM];simp only[zJ];refine hK.out _ _ ?_ (fun _=>?_)
        ·rw[zg _ _ _ _ _ (fun h=>absurd h (by simp))];show((W7.iter ⟨#[48,49,50,51,52,53,54,55,56,57]⟩ pos).alloc _).cell? _=_;rw[ft (by show _<(W7.alloc _).heap.size;simp;omega)];exact kO
        clear hK K;refine wpAnyH_done (by kernel_rfl) ?_ _;go_wp2;refine bodyPost_ret (v := .pointer (some ⟨w.heap.size+1,0,none⟩)) ?_ rfl ?_
        ·simp[results,results43,go_sem]
        ·have HD:(⟨#[48,49,50,51,52,53,54,55,56,57]⟩:ByteArray).data.toList=K9 dg.data.toList:=by rw[d0];rfl
         have HK:=JG (fi:=fi) (ne:=ne) HD r3 r4 r5 (p1 (by omega)) (p2 (by omega)) (p3 (by omega)) DO.out Vs.out;rw[show ra=true from r1,show rb=true from r2];exact Ur (nx:=fi) NK Ky hz7 Kr (by rw[if_pos n0]) AK.out HD HK (s13.trans aV) aV HZW.out QQ UL Li HQ1.out Rw.out
       ·exact absurd (Vs.out.symm.trans B1) dM
     ·have d0':dg.toList.isEmpty=false:=by rw[toList_eq];simpa using d0
      obtain⟨g0,g1,g2,g3,g4,g5,g6⟩:=EB.b;obtain⟨a0,NQ,a2,a3,a4,a5,a6,a7,a8⟩:=EB.a;go_wp2_with fail;refine vN ?_;intro W6 Jc;have hR6:RW w.heap.size (.slice ca cn ck) (.slice oa on ok) (.slice a1 n1 k1) (.slice a9 n9 k9) mi po gr fi ne ((fi:Nat):Int) dg W6:=by rw[Jc];exact(EB.zek _)
      have GL:Below w.heap.size wr W6:=by rw[Jc];(repeat(first|(with_reducible exact zj _ _)|(with_reducible refine zF ?_ ?_ _;rotate_left;focus(first|(simp;done)|(simp;omega)))))
      have s46:Zd w.heap.size wr W6:=by rw[Jc];exact((Zd.refl _ _).set _ _ (.inr rfl))
      have hz6:w.heap.size+2<=W6.heap.size:=by have:=GL.size;omega
      clear a0 NQ a2 a3 a4 a5 a6 a7 a8 g0 g1 g2 g3 g4 g5 g6 Jc;have YF:=bP.trans GL;have hT6:=bO hT YF;refine(Tryz.utf8_ValidString dg W6 (by first|omega|decide) hT6).mono ?_;rintro e W7 ⟨rfl,jQ⟩
      cases hv:zE (dg:ByteArray).data.toList
      ·have HF:=z7 (B0 (ra:=ra) (rb:=rb) (fi:=fi) (ne:=ne) (mi:=mi) (po:=po) (gr:=gr) hv);clear hv;go_wp2;go_ret;refine⟨YF.trans (jQ.mono (by omega)),?_⟩;rw[HF.out];exact rfl
      ·have C9:=z7 hv;clear hv;have NK:=hR6.below jQ (by omega);have Ky:Below w.heap.size w W7:=YF.trans (jQ.mono (by omega));have aV:Zd w.heap.size W3 W7:=(s34.trans s46).trans (Zd.below jQ);have hz7:w.heap.size+2<=W7.heap.size:=by have:=jQ.size;omega
       obtain⟨a0,NQ,a2,a3,a4,a5,a6,a7,a8⟩:=NK.a;go_wp2_with fail;refine(Tryz.utf8_RuneCountInString dg W7 (by first|omega|decide)).mono ?_;rintro e W8 ⟨rfl,pos,rfl⟩;have VS:(uI (dg:ByteArray).data.toList).2=(dg:ByteArray).data.toList.length:=(b7 _).1 C9.out;have VE:=gx dg (dg:ByteArray).size 0 (by omega) (by omega) (by rw[zk,VS,xi];simp);rw[zk] at VE;rw[show zD dg=(uI (dg:ByteArray).data.toList).1.length from VE.1];have Di:=z7 VE;have DO:=z7 VS;clear VE VS;obtain⟨cnt,Z6⟩:∃ n,(uI (dg:ByteArray).data.toList).1.length=n:=⟨_,rfl⟩;rw[Z6];have Vs:=z7 Z6;clear Z6;by_cases dM:cnt=10
       ·subst dM;have Uv:zG dg (dg:ByteArray).size 0 #[]=((vv (dg:ByteArray).data.toList).map (zy .i32)).toArray:=by have:=Di.out.2 #[];simpa using this
        have Kr:(vv (dg:ByteArray).data.toList).length=10:=by
         have:=congrArg zI (ZP _ (dg:ByteArray).data.toList (zf _));rw[zU,Vs.out] at this;exact this
        obtain⟨rs,ZQ⟩:∃ r:List Int,r=vv (dg:ByteArray).data.toList:=⟨_,rfl⟩;rw[←ZQ] at Uv Kr;have hcv:∀ W:World,(convert 9 147 (.string dg)).run Tryz.prog W = .ok (.slice (some ⟨W.heap.size,0,none⟩) 10 (grownCap W 10 0 21)) (W.drew.alloc (.cells ((rs.map (zy .i32)).toArray++zu (grownCap W 10 0 21 - 10) (.int .i32 0)) 21)):=by
         intro W;have:=run_runes_of_string (P:=Tryz.prog) W 9 147 21 dg underlying9 underlying147 underlying21 (by rw[Uv];simp;omega);rw[Uv] at this;simpa[Kr] using this
        have HRF:=z7 Uv;have AK:=z7 ZQ;clear Uv ZQ;go_wp2_with fail;have kO:(W7.iter dg pos).drew.cell? ⟨w.heap.size,7,none⟩=some (.string dg):=by
         show(W7.alloc _).cell? _=_;rw[zv _ _ _ (by simp;omega)];exact a7
        refine rt (fun W':World=>W'.cell? ⟨w.heap.size,7,none⟩=some (.string dg)) [0,1,2,3,4,5] 2 kO ?_;(iterate 6 ((first|refine ty ?_|refine tn ?_);try simp only[pl]))
        refine xq ?_;refine xg 6 (by kernel_rfl) rfl (fun K hK=>?_);go_simp;refine hK.out _ _ ?_ (fun _=>?_)
        ·show((W7.iter dg pos).alloc _).cell? _=_;rw[ft (by show _<(W7.alloc _).heap.size;simp;omega)];exact kO
        clear hK K;refine xg 7 (by kernel_rfl) rfl (fun K hK=>?_);go_simp;have NJ:(((W7.iter dg pos).alloc (.cells ((rs.map (zy .i32)).toArray++zu (grownCap (W7.iter dg pos).drew 10 0 21 - 10) (.int .i32 0)) 21)).drew.drew).heap[w.heap.size+1]? = W7.heap[w.heap.size+1]? := by
         show((W7.alloc _).alloc _).heap[w.heap.size+1]? = _;rw[zx _ _ _ (by simp;omega),zx _ _ _ (by omega)]
        have Eb:=NJ.trans NK.hB;have GM:=Us (W7.iter dg pos) rs (zu (grownCap (W7.iter dg pos).drew 10 0 21 - 10) (.int .i32 0)) (grownCap (W7.iter dg pos).drew 10 0 21) (w.heap.size+1) Kr Eb (by simp);rw[GM];simp only[zJ];refine hK.out _ _ ?_ (fun _=>?_)
        ·rw[zg _ _ _ _ _ (fun h=>absurd h (by simp))];show((W7.iter dg pos).alloc _).cell? _=_;rw[ft (by show _<(W7.alloc _).heap.size;simp;omega)];exact kO
        clear hK K;refine wpAnyH_done (by kernel_rfl) ?_ _;go_wp2;refine bodyPost_ret (v := .pointer (some ⟨w.heap.size+1,0,none⟩)) ?_ rfl ?_
        ·simp[results,results43,go_sem]
        ·have HD:(dg:ByteArray).data.toList=K9 dg.data.toList:=by unfold K9;rw[if_neg d0]
         have HK:=JG (fi:=fi) (ne:=ne) HD r3 r4 r5 (p1 (by omega)) (p2 (by omega)) (p3 (by omega)) DO.out Vs.out;rw[show ra=true from r1,show rb=true from r2];exact Ur (nx:=fi) NK Ky hz7 Kr (by rw[if_pos n0]) AK.out HD HK (s13.trans aV) aV HZW.out QQ UL Li HQ1.out Rw.out
       ·have yj9:((cnt:Int) !=10)=true:=by simp;omega
        have HF:=z7 (B2 (ra:=ra) (rb:=rb) (fi:=fi) (ne:=ne) (mi:=mi) (po:=po) (gr:=gr) d0 (fun h=>dM (Vs.out.symm.trans h)));go_wp2;go_ret;refine⟨Ky.trans (Vr _ _ _ _ (by omega)),?_⟩;rw[HF.out];exact rfl
    ·have n0':((ne:Int)==0)=false:=by simpa using n0
     by_cases d0:dg.data.toList=[]
     ·have d0':dg.toList.isEmpty=true:=by rw[toList_eq,d0];rfl
      obtain⟨g0,g1,g2,g3,g4,g5,g6⟩:=EB.b;obtain⟨a0,NQ,a2,a3,a4,a5,a6,a7,a8⟩:=EB.a;go_wp2_with fail;refine vN ?_;intro W6 Jc;have hR6:RW w.heap.size (.slice ca cn ck) (.slice oa on ok) (.slice a1 n1 k1) (.slice a9 n9 k9) mi po gr fi ne ((ne:Nat):Int) ⟨#[48,49,50,51,52,53,54,55,56,57]⟩ W6:=by rw[Jc];exact(EB.zej _)
      have GL:Below w.heap.size wr W6:=by rw[Jc];(repeat(first|(with_reducible exact zj _ _)|(with_reducible refine zF ?_ ?_ _;rotate_left;focus(first|(simp;done)|(simp;omega)))))
      have s46:Zd w.heap.size wr W6:=by rw[Jc];exact((Zd.refl _ _).set _ _ (.inl rfl))
      have hz6:w.heap.size+2<=W6.heap.size:=by have:=GL.size;omega
      clear a0 NQ a2 a3 a4 a5 a6 a7 a8 g0 g1 g2 g3 g4 g5 g6 Jc;have YF:=bP.trans GL;have hT6:=bO hT YF;refine(Tryz.utf8_ValidString ⟨#[48,49,50,51,52,53,54,55,56,57]⟩ W6 (by first|omega|decide) hT6).mono ?_;rintro e W7 ⟨rfl,jQ⟩
      cases hv:zE (⟨#[48,49,50,51,52,53,54,55,56,57]⟩:ByteArray).data.toList
      ·exact absurd hv (by decide)
      ·have C9:=z7 hv;clear hv;have NK:=hR6.below jQ (by omega);have Ky:Below w.heap.size w W7:=YF.trans (jQ.mono (by omega));have aV:Zd w.heap.size W3 W7:=(s34.trans s46).trans (Zd.below jQ);have hz7:w.heap.size+2<=W7.heap.size:=by have:=jQ.size;omega
       obtain⟨a0,NQ,a2,a3,a4,a5,a6,a7,a8⟩:=NK.a;go_wp2_with fail;refine(Tryz.utf8_RuneCountInString ⟨#[48,49,50,51,52,53,54,55,56,57]⟩ W7 (by first|omega|decide)).mono ?_;rintro e W8 ⟨rfl,pos,rfl⟩;have VS:(uI (⟨#[48,49,50,51,52,53,54,55,56,57]⟩:ByteArray).data.toList).2=(⟨#[48,49,50,51,52,53,54,55,56,57]⟩:ByteArray).data.toList.length:=(b7 _).1 C9.out;have VE:=gx ⟨#[48,49,50,51,52,53,54,55,56,57]⟩ (⟨#[48,49,50,51,52,53,54,55,56,57]⟩:ByteArray).size 0 (by omega) (by omega) (by rw[zk,VS,xi];simp);rw[zk] at VE;rw[show zD ⟨#[48,49,50,51,52,53,54,55,56,57]⟩=(uI (⟨#[48,49,50,51,52,53,54,55,56,57]⟩:ByteArray).data.toList).1.length from VE.1];have Di:=z7 VE;have DO:=z7 VS;clear VE VS;obtain⟨cnt,Z6⟩:∃ n,(uI (⟨#[48,49,50,51,52,53,54,55,56,57]⟩:ByteArray).data.toList).1.length=n:=⟨_,rfl⟩;rw[Z6];have Vs:=z7 Z6;clear Z6;by_cases dM:cnt=10
       ·subst dM;have Uv:zG ⟨#[48,49,50,51,52,53,54,55,56,57]⟩ (⟨#[48,49,50,51,52,53,54,55,56,57]⟩:ByteArray).size 0 #[]=((vv (⟨#[48,49,50,51,52,53,54,55,56,57]⟩:ByteArray).data.toList).map (zy .i32)).toArray:=by have:=Di.out.2 #[];simpa using this
        have Kr:(vv (⟨#[48,49,50,51,52,53,54,55,56,57]⟩:ByteArray).data.toList).length=10:=by
         have:=congrArg zI (ZP _ (⟨#[48,49,50,51,52,53,54,55,56,57]⟩:ByteArray).data.toList (zf _));rw[zU,Vs.out] at this;exact this
        obtain⟨rs,ZQ⟩:∃ r:List Int,r=vv (⟨#[48,49,50,51,52,53,54,55,56,57]⟩:ByteArray).data.toList:=⟨_,rfl⟩;rw[←ZQ] at Uv Kr;have hcv:∀ W:World,(convert 9 147 (.string ⟨#[48,49,50,51,52,53,54,55,56,57]⟩)).run Tryz.prog W = .ok (.slice (some ⟨W.heap.size,0,none⟩) 10 (grownCap W 10 0 21)) (W.drew.alloc (.cells ((rs.map (zy .i32)).toArray++zu (grownCap W 10 0 21 - 10) (.int .i32 0)) 21)):=by
         intro W;have:=run_runes_of_string (P:=Tryz.prog) W 9 147 21 ⟨#[48,49,50,51,52,53,54,55,56,57]⟩ underlying9 underlying147 underlying21 (by rw[Uv];simp;omega);rw[Uv] at this;simpa[Kr] using this
        have HRF:=z7 Uv;have AK:=z7 ZQ;clear Uv ZQ;go_wp2_with fail;have kO:(W7.iter ⟨#[48,49,50,51,52,53,54,55,56,57]⟩ pos).drew.cell? ⟨w.heap.size,7,none⟩=some (.string ⟨#[48,49,50,51,52,53,54,55,56,57]⟩):=by
         show(W7.alloc _).cell? _=_;rw[zv _ _ _ (by simp;omega)];exact a7
        refine rt (fun W':World=>W'.cell? ⟨w.heap.size,7,none⟩=some (.string ⟨#[48,49,50,51,52,53,54,55,56,57]⟩)) [0,1,2,3,4,5] 2 kO ?_;(iterate 6 ((first|refine ty ?_|refine tn ?_);try simp only[pl]))
        refine xq ?_;refine xg 6 (by kernel_rfl) rfl (fun K hK=>?_);go_simp;refine hK.out _ _ ?_ (fun _=>?_)
        ·show((W7.iter ⟨#[48,49,50,51,52,53,54,55,56,57]⟩ pos).alloc _).cell? _=_;rw[ft (by show _<(W7.alloc _).heap.size;simp;omega)];exact kO
        clear hK K;refine xg 7 (by kernel_rfl) rfl (fun K hK=>?_);go_simp;have NJ:(((W7.iter ⟨#[48,49,50,51,52,53,54,55,56,57]⟩ pos).alloc (.cells ((rs.map (zy .i32)).toArray++zu (grownCap (W7.iter ⟨#[48,49,50,51,52,53,54,55,56,57]⟩ pos).drew 10 0 21 - 10) (.int .i32 0)) 21)).drew.drew).heap[w.heap.size+1]? = W7.heap[w.heap.size+1]? := by
         show((W7.alloc _).alloc _).heap[w.heap.size+1]? = _;rw[zx _ _ _ (by simp;omega),zx _ _ _ (by omega)]
        have Eb:=NJ.trans NK.hB;have GM:=Us (W7.iter ⟨#[48,49,50,51,52,53,54,55,56,57]⟩ pos) rs (zu (grownCap (W7.iter ⟨#[48,49,50,51,52,53,54,55,56,57]⟩ pos).drew 10 0 21 - 10) (.int .i32 0)) (grownCap (W7.iter ⟨#[48,49,50,51,52,53,54,55,56,57]⟩ pos).drew 10 0 21) (w.heap.size+1) Kr Eb (by simp);rw[GM];simp only[zJ];refine hK.out _ _ ?_ (fun _=>?_)
        ·rw[zg _ _ _ _ _ (fun h=>absurd h (by simp))];show((W7.iter ⟨#[48,49,50,51,52,53,54,55,56,57]⟩ pos).alloc _).cell? _=_;rw[ft (by show _<(W7.alloc _).heap.size;simp;omega)];exact kO
        clear hK K;refine wpAnyH_done (by kernel_rfl) ?_ _;go_wp2;refine bodyPost_ret (v := .pointer (some ⟨w.heap.size+1,0,none⟩)) ?_ rfl ?_
        ·simp[results,results43,go_sem]
        ·have HD:(⟨#[48,49,50,51,52,53,54,55,56,57]⟩:ByteArray).data.toList=K9 dg.data.toList:=by rw[d0];rfl
         have HK:=JG (fi:=fi) (ne:=ne) HD r3 r4 r5 (p1 (by omega)) (p2 (by omega)) (p3 (by omega)) DO.out Vs.out;rw[show ra=true from r1,show rb=true from r2];exact Ur (nx:=ne) NK Ky hz7 Kr (by rw[if_neg n0]) AK.out HD HK (s13.trans aV) aV HZW.out QQ UL Li HQ1.out Rw.out
       ·exact absurd (Vs.out.symm.trans B1) dM
     ·have d0':dg.toList.isEmpty=false:=by rw[toList_eq];simpa using d0
      obtain⟨g0,g1,g2,g3,g4,g5,g6⟩:=EB.b;obtain⟨a0,NQ,a2,a3,a4,a5,a6,a7,a8⟩:=EB.a;go_wp2_with fail;refine vN ?_;intro W6 Jc;have hR6:RW w.heap.size (.slice ca cn ck) (.slice oa on ok) (.slice a1 n1 k1) (.slice a9 n9 k9) mi po gr fi ne ((ne:Nat):Int) dg W6:=by rw[Jc];exact EB
      have GL:Below w.heap.size wr W6:=by rw[Jc];(repeat(first|(with_reducible exact zj _ _)|(with_reducible refine zF ?_ ?_ _;rotate_left;focus(first|(simp;done)|(simp;omega)))))
      have s46:Zd w.heap.size wr W6:=by rw[Jc];exact(Zd.refl _ _)
      have hz6:w.heap.size+2<=W6.heap.size:=by have:=GL.size;omega
      clear a0 NQ a2 a3 a4 a5 a6 a7 a8 g0 g1 g2 g3 g4 g5 g6 Jc;have YF:=bP.trans GL;have hT6:=bO hT YF;refine(Tryz.utf8_ValidString dg W6 (by first|omega|decide) hT6).mono ?_;rintro e W7 ⟨rfl,jQ⟩
      cases hv:zE (dg:ByteArray).data.toList
      ·have HF:=z7 (B0 (ra:=ra) (rb:=rb) (fi:=fi) (ne:=ne) (mi:=mi) (po:=po) (gr:=gr) hv);clear hv;go_wp2;go_ret;refine⟨YF.trans (jQ.mono (by omega)),?_⟩;rw[HF.out];exact rfl
      ·have C9:=z7 hv;clear hv;have NK:=hR6.below jQ (by omega);have Ky:Below w.heap.size w W7:=YF.trans (jQ.mono (by omega));have aV:Zd w.heap.size W3 W7:=(s34.trans s46).trans (Zd.below jQ);have hz7:w.heap.size+2<=W7.heap.size:=by have:=jQ.size;omega
       obtain⟨a0,NQ,a2,a3,a4,a5,a6,a7,a8⟩:=NK.a;go_wp2_with fail;refine(Tryz.utf8_RuneCountInString dg W7 (by first|omega|decide)).mono ?_;rintro e W8 ⟨rfl,pos,rfl⟩;have VS:(uI (dg:ByteArray).data.toList).2=(dg:ByteArray).data.toList.length:=(b7 _).1 C9.out;have VE:=gx dg (dg:ByteArray).size 0 (by omega) (by omega) (by rw[zk,VS,xi];simp);rw[zk] at VE;rw[show zD dg=(uI (dg:ByteArray).data.toList).1.length from VE.1];have Di:=z7 VE;have DO:=z7 VS;clear VE VS;obtain⟨cnt,Z6⟩:∃ n,(uI (dg:ByteArray).data.toList).1.length=n:=⟨_,rfl⟩;rw[Z6];have Vs:=z7 Z6;clear Z6;by_cases dM:cnt=10
       ·subst dM;have Uv:zG dg (dg:ByteArray).size 0 #[]=((vv (dg:ByteArray).data.toList).map (zy .i32)).toArray:=by have:=Di.out.2 #[];simpa using this
        have Kr:(vv (dg:ByteArray).data.toList).length=10:=by
         have:=congrArg zI (ZP _ (dg:ByteArray).data.toList (zf _));rw[zU,Vs.out] at this;exact this
        obtain⟨rs,ZQ⟩:∃ r:List Int,r=vv (dg:ByteArray).data.toList:=⟨_,rfl⟩;rw[←ZQ] at Uv Kr;have hcv:∀ W:World,(convert 9 147 (.string dg)).run Tryz.prog W = .ok (.slice (some ⟨W.heap.size,0,none⟩) 10 (grownCap W 10 0 21)) (W.drew.alloc (.cells ((rs.map (zy .i32)).toArray++zu (grownCap W 10 0 21 - 10) (.int .i32 0)) 21)):=by
         intro W;have:=run_runes_of_string (P:=Tryz.prog) W 9 147 21 dg underlying9 underlying147 underlying21 (by rw[Uv];simp;omega);rw[Uv] at this;simpa[Kr] using this
        have HRF:=z7 Uv;have AK:=z7 ZQ;clear Uv ZQ;go_wp2_with fail;have kO:(W7.iter dg pos).drew.cell? ⟨w.heap.size,7,none⟩=some (.string dg):=by
         show(W7.alloc _).cell? _=_;rw[zv _ _ _ (by simp;omega)];exact a7
        refine rt (fun W':World=>W'.cell? ⟨w.heap.size,7,none⟩=some (.string dg)) [0,1,2,3,4,5] 2 kO ?_;(iterate 6 ((first|refine ty ?_|refine tn ?_);try simp only[pl]))
        refine xq ?_;refine xg 6 (by kernel_rfl) rfl (fun K hK=>?_);go_simp;refine hK.out _ _ ?_ (fun _=>?_)
        ·show((W7.iter dg pos).alloc _).cell? _=_;rw[ft (by show _<(W7.alloc _).heap.size;simp;omega)];exact kO
        clear hK K;refine xg 7 (by kernel_rfl) rfl (fun K hK=>?_);go_simp;have NJ:(((W7.iter dg pos).alloc (.cells ((rs.map (zy .i32)).toArray++zu (grownCap (W7.iter dg pos).drew 10 0 21 - 10) (.int .i32 0)) 21)).drew.drew).heap[w.heap.size+1]? = W7.heap[w.heap.size+1]? := by
         show((W7.alloc _).alloc _).heap[w.heap.size+1]? = _;rw[zx _ _ _ (by simp;omega),zx _ _ _ (by omega)]
        have Eb:=NJ.trans NK.hB;have GM:=Us (W7.iter dg pos) rs (zu (grownCap (W7.iter dg pos).drew 10 0 21 - 10) (.int .i32 0)) (grownCap (W7.iter dg pos).drew 10 0 21) (w.heap.size+1) Kr Eb (by simp);rw[GM];simp only[zJ];refine hK.out _ _ ?_ (fun _=>?_)
        ·rw[zg _ _ _ _ _ (fun h=>absurd h (by simp))];show((W7.iter dg pos).alloc _).cell? _=_;rw[ft (by show _<(W7.alloc _).heap.size;simp;omega)];exact kO
        clear hK K;refine wpAnyH_done (by kernel_rfl) ?_ _;go_wp2;refine bodyPost_ret (v := .pointer (some ⟨w.heap.size+1,0,none⟩)) ?_ rfl ?_
        ·simp[results,results43,go_sem]
        ·have HD:(dg:ByteArray).data.toList=K9 dg.data.toList:=by unfold K9;rw[if_neg d0]
         have HK:=JG (fi:=fi) (ne:=ne) HD r3 r4 r5 (p1 (by omega)) (p2 (by omega)) (p3 (by omega)) DO.out Vs.out;rw[show ra=true from r1,show rb=true from r2];exact Ur (nx:=ne) NK Ky hz7 Kr (by rw[if_neg n0]) AK.out HD HK (s13.trans aV) aV HZW.out QQ UL Li HQ1.out Rw.out
       ·have yj9:((cnt:Int) !=10)=true:=by simp;omega
        have HF:=z7 (B2 (ra:=ra) (rb:=rb) (fi:=fi) (ne:=ne) (mi:=mi) (po:=po) (gr:=gr) d0 (fun h=>dM (Vs.out.symm.trans h)));go_wp2;go_ret;refine⟨Ky.trans (Vr _ _ _ _ (by omega)),?_⟩;rw[HF.out];exact rfl
 ·have HF:=z7 (aY (gr:=gr) (dg:=dg.data.toList) UI);go_wp2;all_goals first
   |(exfalso;refine UI ⟨by assumption,by assumption,by assumption,by assumption,?_⟩;rename_i hh;simp_all;done)
   |(refine bodyPost_ret (v := .pointer none) ?_ rfl ?_
     focus(simp[results,results43,go_sem, *])
     refine⟨Z8.trans ((zj _ _).setCell (p:=⟨w.heap.size+1,1,none⟩) (by simp) _),?_⟩;first
      | rw[HF.out]
      |(have hf:=HF.out;rw[‹ra=true›,‹rb=true›] at hf;rw[hf])
     exact rfl)
theorem oz(l:List UInt8):(Z5 l).1<=1114111:=by
 have hb:=(l.getD 0 0).toNat_lt;unfold Z5 Lib.decodeN;repeat' split
 all_goals (simp only[];omega)
theorem GN:∀ (n:Nat) (l:List UInt8),l.length<=n->∀ x∈vv l,az x
 | 0,l,h,x,hx=>by
  have:l=[]:=List.eq_nil_of_length_eq_zero (by omega);subst this;rw[jl] at hx;cases hx
 | n+1,l,h,x,hx=>by
  by_cases hl:l=[]\/xp l=0
  ·rw[vv,dif_pos hl] at hx;cases hx
  ·simp only[not_or] at hl;rw[fT hl.1 hl.2] at hx;have hp:=zN.2 hl.1;rcases List.mem_cons.1 hx with rfl|hx
   ·have:=oz l;exact⟨by omega,by omega⟩
   ·exact GN n _ (by simp;omega) x hx
theorem fN.later{w w1:World}{c:Value}{r:Bool}{Q:World->Value->Prop}(h:fN w c r Q)(hb:Below w.heap.size w w1):fN w1 c r Q:=by
 intro W hW;refine(h W (hb.trans (hW.mono hb.size))).mono ?_;rintro e W2 ⟨⟨a,n,k,he,hQ⟩,xD⟩;exact⟨⟨a,n,k,he,fun W3 h3=>hQ W3 ⟨h3.1,fun j hj=>h3.2 j (hj.imp (fun q=>zX q hb.size) id)⟩⟩,xD⟩
theorem oy{w:World}{base size n:Nat}{e:TypeId}{v:Value}{xs:List Value}(h:w.ownsRow base e size v n xs)(hn:0<n) :
  ∃ g cap,v = .slice (some ⟨g,0,none⟩) n cap/\base<=g/\g<w.heap.size/\n<=cap/\∀ j,j<n*size->w.cell? ⟨g,j,none⟩=xs[j]? := by
 have xC:=h.lt;rcases h.2 with⟨_,h0⟩|⟨g,cap,cur,hv,hg,hh,h1,_,_,ht⟩
 ·omega
 ·subst hv;exact⟨g,cap,rfl,hg,(xC g rfl).2,h1,fun j hj=>h.cellAt j hj⟩
theorem B4{l:List UInt8}(h:qg l=true):(uv l).all xF=true/\(ua l).all xF=true/\0<(uv l).length/\(uv l).length+(ua l).length<=30:=by
 simp only[qg,Uc,zZ,zP,decide_eq_true_eq] at h;have hw:=h.1.1.1.1;have hf:=h.1.1.1.2;simp only[vO,zZ] at hw;refine⟨hw.1,?_,?_,h.1.1.2⟩
 ·rcases hf with hf|hf
  ·have hp:¬(V9 l).idxOf 46<(V9 l).length:=by simpa[Yf] using hf
   have:ua l=[]:=by unfold ua;exact List.drop_of_length_le (by omega)
   rw[this];rfl
  ·simp only[vO,zZ] at hf;exact hf.1
 ·have:=hw.2
  cases hl:uv l with
  | nil=>rw[hl] at this;cases this
  | cons a b=>simp
structure aU(w:World):Prop where
 oq:zH 3 4 w
 err:Qh w
theorem aU.below{w w':World}(h:aU w)(hb:Below w.heap.size w w'):aU w':=⟨bO h.oq hb,h.err.below hb⟩
theorem KN{l:List UInt8}{f:Fo}(h:jU l = .ok f):um l = .ok f/\XZ f=none:=by
 unfold jU at h
 cases hp:um l with
 | error e=>rw[hp] at h;cases h
 | ok g =>
  rw[hp] at h;dsimp only at h
  cases hc:XZ g with
  | some e=>rw[hc] at h;cases h
  | none=>rw[hc] at h;cases h;exact⟨rfl,hc⟩
theorem jc.below{w w':World}(h:jc w)(hb:Below w.heap.size w w'):jc w' :=
 h.fr (F:=xN) (F':=xN) (B:=2+1) (Fr.of hb) (fun _ q=>q.elim) (Nat.lt_succ_self _)
structure ZG(w:World):Prop where
 tabs:aU w
 names:ui w
 sj:jc w
theorem ZG.below{w w':World}(h:ZG w)(hb:Below w.heap.size w w'):ZG w':=⟨h.tabs.below hb,h.names.below hb,h.sj.below hb⟩
structure B5(P q g mb:Nat)(f:Fo)(vC vI:Value)(rs:List (Value×Value))(mi po gr:Int)(fi ne:Nat)(dg:List UInt8)(cv ov:Value)(w:World):Prop where
 p0:w.cell? ⟨P,0,none⟩=some (.pointer (some ⟨q,0,none⟩))
 p1:w.cell? ⟨P,1,none⟩=some (.pointer (some ⟨g,0,none⟩))
 prog:jy q (MkS.all f) vC vI rs mb w
 gl:g<w.heap.size
 loc:Ib w g mi po gr fi ((if ne=0 then fi else ne:Nat):Int) (vv (K9 dg))
 g0:w.cell? ⟨g,0,none⟩=some cv
 g1:w.cell? ⟨g,1,none⟩=some ov
theorem B5.below{P q g mb:Nat}{f:Fo}{vC vI:Value}{rs:List (Value×Value)}{mi po gr:Int}{fi ne:Nat}{dg:List UInt8}{cv ov:Value}{w w':World}(h:B5 P q g mb f vC vI rs mi po gr fi ne dg cv ov w)(hb:Below w.heap.size w w'):B5 P q g mb f vC vI rs mi po gr fi ne dg cv ov w':=by
 have hf:Fr xN xN w w':=Fr.of hb;exact⟨hf.cell h.p0 id,hf.cell h.p1 id,h.prog.below hb,zX h.gl hb.size,h.loc.below hb h.gl,hf.cell h.g0 id,hf.cell h.g1 id⟩
def zi0(kn:Bool)(r:Except (Nat×Nat) Fo)(mi po gr:Int)(fi ne:Nat)(dg:List UInt8)(Qc Qo:World->Value->Prop)(w:World)(e:Ending)(w':World):Prop :=
 Below w.heap.size w w' /\
 if kn=false then e = .returned (.tuple #[.pointer none,Ap 8])
 else match r with
  | .error (n,a)=>∃ b,e = .returned (.tuple #[.pointer none,.iface 101 (.pointer (some ⟨b,0,none⟩))])/\w'.cell? ⟨b,0,none⟩=some (.int .i64 n)/\w'.cell? ⟨b,1,none⟩=some (.int .i64 a)
  | .ok f=>∃ P q g mb vC vI rs cv ov,e = .returned (.tuple #[.pointer (some ⟨P,0,none⟩),.nilIface])/\B5 P q g mb f vC vI rs mi po gr fi ne dg cv ov w'/\(∀ W,Below w'.heap.size w' W->Qc W cv)/\∀ W,Below w'.heap.size w' W->Qo W ov
theorem CG(s:ByteArray)(c o:Value)(ra rb:Bool)(mi po gr:Int)(fi ne:Nat)(dg:ByteArray)(Qc Qo:World->Value->Prop)(w:World)(hs:s.size<=1000000)(hd:dg.size<=1000000)(o7:fi<=255)(vx:ne<=255)
  (hc:fN w c ra Qc) (ho:fN w o rb Qo) (hco:(∃ a n k,c = .slice a n k)/\∃ a n k,o = .slice a n k) (hE:ZG w) :
  Calls Tryz.prog 33 #[.string s,Sz c o mi po gr fi ne dg] w (zi0 (kV ra rb mi po gr fi ne dg.data.toList) (jU s.data.toList) mi po gr fi ne dg.data.toList Qc Qo w):=by
 have HC:=z7 hc;have HO:=z7 ho;have HCO:=z7 hco;have HE:=z7 hE;clear hc ho hco hE;go_enter func33,ntmps33;go_wp2_with fail;refine vN ?_;intro W hW;have hb:Below w.heap.size w W:=by rw[hW];exact(zj _ _).alloc (zf _) _
 clear hW;refine(aX c o ra rb mi po gr fi ne dg Qc Qo W hd o7 vx (HC.out.later hb) (HO.out.later hb) HCO.out (HE.out.below hb).tabs.oq).mono ?_;rintro e w1 ⟨xB,vM⟩;have uH:Below w.heap.size w w1:=hb.trans (xB.mono hb.size);obtain⟨kn,DJ⟩:∃ kn,kV ra rb mi po gr fi ne dg.data.toList=kn:=⟨_,rfl⟩;rw[DJ] at vM;have Ti:=z7 DJ;clear DJ
 cases kn
 ·rw[if_neg (by simp)] at vM;subst vM;clear hb xB;go_wp2;go_ret2
  refine⟨uH,?_⟩;rw[if_pos Ti.out];rfl
 ·rw[if_pos rfl] at vM;obtain⟨g,cv,ov,rfl,aQ,Y9,hX,c0,c1,hqc,hqo⟩:=vM;have HX:=z7 hX;have HQC:=z7 hqc;have HQO:=z7 hqo;have HC0:=z7 c0;have HC1:=z7 c1;clear hX hqc hqo hb xB c0 c1;obtain⟨r,hr⟩:∃ r,jU s.data.toList=r:=⟨_,rfl⟩;have HRM:=z7 (I9 s w1 (by omega) (HE.out.below uH).tabs.oq (HE.out.below uH).names);rw[hr] at HRM ⊢;have HR:=z7 hr;clear hr;go_wp2_with fail;refine HRM.out.mono ?_;rintro e w2 ⟨hq,xD⟩;have qX:=uH.trans (xD.mono uH.size);clear HRM
  cases r with
  | error en =>
   obtain⟨n,a⟩:=en;obtain⟨v,b,rfl,⟨va,vn,vk,rfl⟩,f0,f1⟩:=hq;clear xD;go_wp2;go_ret2
   refine⟨qX,?_⟩;rw[if_neg (by rw[Ti.out];simp),HR.out];exact⟨b,rfl,f0,f1⟩
  | ok f =>
   obtain⟨⟨a,k,vs,rfl,vE,Xq⟩,FW⟩:=hq;obtain⟨Ub,Xp⟩:=KN HR.out;obtain⟨k1,k2⟩:=Iq Ub Xp;have VT:=HE.out.below qX;have HP:=z7 (Af f w2 a k vs vE Xq (zf _) FW.msg FW.wf k1 (by have:=FW.len;omega) (by omega) VT.sj VT.names);obtain⟨L,hL⟩:∃ L,f.len=L:=⟨_,rfl⟩;rw[hL] at HP ⊢;clear vE Xq FW Ub Xp k1 k2 VT hL;go_wp2_with fail;refine HP.out.mono ?_;rintro e w3 ⟨q,vC,vI,rs,mb,rfl,EZ,hq0,uD⟩;have zi3:=xD.trans (uD.mono xD.size);have Z8:=qX.trans (uD.mono qX.size);have HPA:=z7 EZ;clear EZ HP;go_wp2;go_ret2
   obtain⟨z,hz⟩:∃ z,w3.heap.size=z:=⟨_,rfl⟩;have jG:=fun i=>xu w3 #[.pointer (some ⟨q,0,none⟩),.pointer (some ⟨g,0,none⟩)] 90 (0,0) i
   have qz:Below w3.heap.size w3 (w3.alloc (.cells #[.pointer (some ⟨q,0,none⟩),.pointer (some ⟨g,0,none⟩)] 90)):=(zj _ _).alloc (zf _) _;have NG:=zi3.trans (qz.mono zi3.size);have zi4:Fr xN xN w1 _:=Fr.of NG;refine⟨Z8.trans (qz.mono Z8.size),?_⟩;rw[if_neg (by rw[Ti.out];simp),HR.out];refine⟨_,q,g,mb,vC,vI,rs,cv,ov,rfl,⟨jG 0,jG 1,HPA.out.below qz,zX Y9 NG.size,HX.out.below NG Y9,zi4.cell HC0.out id,zi4.cell HC1.out id⟩,fun W hW=>HQC.out W (NG.trans (hW.mono NG.size)),fun W hW=>HQO.out W (NG.trans (hW.mono NG.size))⟩
theorem aK(b:Nat)(n a:Int)(w:World)(hE:Qh w)(h0:w.cell? ⟨b,0,none⟩=some (.int .i64 n))(h1:w.cell? ⟨b,1,none⟩=some (.int .i64 a)) :
  Calls Tryz.prog 30 #[.iface 101 (.pointer (some ⟨b,0,none⟩))] w (XX n a w):=by
 have HE:=z7 hE;have H0:=z7 h0;have H1:=z7 h1;have xC:b<w.heap.size:=zL w _ h0;clear hE h0 h1;go_enter func30,ntmps30;go_wp2_with fail;refine vN ?_;intro W hW;have hb:Below w.heap.size w W:=by rw[hW];exact((zj _ _).alloc (zf _) _).alloc (by simp) _
 have hz:w.heap.size+2<=W.heap.size:=by rw[hW];simp
 have hA:W.cell? ⟨w.heap.size,0,none⟩=some (.pointer none)/\W.frozen? ⟨w.heap.size,0,none⟩=false:=by rw[hW];constructor<;>go_simp
 clear hW;refine(An ⟨b,0,none⟩ ⟨w.heap.size,0,none⟩ _ W (HE.out.below hb) hA.1 hA.2).mono ?_;rintro e w2 ⟨rfl,p1,p2,p3,p4,FO⟩;have xD:Below w.heap.size W w2:=by rw[FO];exact(((((zj _ _).alloc (by omega) _).alloc (by simp;omega) _).alloc (by simp;omega) _).alloc (by simp;omega) _).setCell (by simp) _
 have qX:=hb.trans xD;have hC:w2.cell? ⟨w.heap.size,0,none⟩=some (.pointer (some ⟨b,0,none⟩)):=by
  rw[FO,xf,if_pos rfl];rw[zv _ _ _ (by simp;omega),zv _ _ _ (by simp;omega),zv _ _ _ (by simp;omega),zv _ _ _ (by show w.heap.size<_;omega),hA.1];rfl
 have d0:=(qX.cell (p:=⟨b,0,none⟩) xC).trans H0.out;have d1:=(qX.cell (p:=⟨b,1,none⟩) xC).trans H1.out;clear FO xD hA;have kO:w2.drew.cell? ⟨w.heap.size,0,none⟩=some (.pointer (some ⟨b,0,none⟩))/\w2.drew.cell? ⟨b,0,none⟩=some (.int .i64 n)/\w2.drew.cell? ⟨b,1,none⟩=some (.int .i64 a):=⟨hC,d0,d1⟩;go_wp2_with fail;refine rt (fun W':World=>W'.cell? ⟨w.heap.size,0,none⟩=some (.pointer (some ⟨b,0,none⟩))/\W'.cell? ⟨b,0,none⟩=some (.int .i64 n)/\W'.cell? ⟨b,1,none⟩=some (.int .i64 a)) [0,1,2,3,4,5,6,7,8,9] 0 kO ?_;(iterate 10 ((first|refine ty ?_|refine tn ?_);try simp only[pl]))
 refine xq ?_;refine wpAnyH_done (by kernel_rfl) ?_ _;go_wp2;go_ret2
 exact⟨rfl,qX.drew⟩
def zv5(kn:Bool)(r:Except (Nat×Nat) Fo)(mi po gr:Int)(fi ne:Nat)(dg:List UInt8)(Qc Qo:World->Value->Prop)(w:World)(e:Ending)(w':World):Prop :=
 Below w.heap.size w w' /\
 if kn=false then e = .returned (.tuple #[.pointer none,.int .i64 8,.int .i64 0])
 else match r with
  | .error (n,a)=>e = .returned (.tuple #[.pointer none,.int .i64 (n:Nat),.int .i64 (a:Nat)])
  | .ok f=>∃ P q g mb vC vI rs cv ov,e = .returned (.tuple #[.pointer (some ⟨P,0,none⟩),.int .i64 0,.int .i64 0])/\B5 P q g mb f vC vI rs mi po gr fi ne dg cv ov w'/\(∀ W,Below w'.heap.size w' W->Qc W cv)/\∀ W,Below w'.heap.size w' W->Qo W ov
theorem CF(s:ByteArray)(c o:Value)(ra rb:Bool)(mi po gr:Int)(fi ne:Nat)(dg:ByteArray)(Qc Qo:World->Value->Prop)(w:World)(hs:s.size<=1000000)(hd:dg.size<=1000000)(o7:fi<=255)(vx:ne<=255)
  (hc:fN w c ra Qc) (ho:fN w o rb Qo) (hco:(∃ a n k,c = .slice a n k)/\∃ a n k,o = .slice a n k) (hE:ZG w) :
  Calls Tryz.prog 20 #[.string s,Sz c o mi po gr fi ne dg] w (zv5 (kV ra rb mi po gr fi ne dg.data.toList) (jU s.data.toList) mi po gr fi ne dg.data.toList Qc Qo w):=by
 have HC:=z7 hc;have HO:=z7 ho;have HCO:=z7 hco;have HE:=z7 hE;clear hc ho hco hE;go_enter func20,ntmps20;go_wp2_with fail;refine vN ?_;intro W hW;have hb:Below w.heap.size w W:=by rw[hW];exact(zj _ _).alloc (zf _) _
 clear hW;refine(CG s c o ra rb mi po gr fi ne dg Qc Qo W hs hd o7 vx (HC.out.later hb) (HO.out.later hb) HCO.out (HE.out.below hb)).mono ?_;rintro e w1 ⟨xB,vM⟩;have uH:Below w.heap.size w w1:=hb.trans (xB.mono hb.size);have VT:=HE.out.below uH;obtain⟨kn,DJ⟩:∃ kn,kV ra rb mi po gr fi ne dg.data.toList=kn:=⟨_,rfl⟩;rw[DJ] at vM;have Ti:=z7 DJ;clear DJ
 cases kn
 ·rw[if_pos rfl] at vM;subst vM;have HT:=z7 (At 8 w1 VT.tabs.err);clear hb xB VT;go_wp2_with fail;refine HT.out.mono ?_;rintro e w2 ⟨rfl,xD⟩;have qX:=uH.trans (xD.mono uH.size);clear HT xD;go_wp2;go_ret3
  refine⟨qX,?_⟩;rw[if_pos Ti.out];rfl
 ·rw[if_neg (by simp)] at vM;obtain⟨r,hr⟩:∃ r,jU s.data.toList=r:=⟨_,rfl⟩;rw[hr] at vM;have HR:=z7 hr;clear hr
  cases r with
  | error en =>
   obtain⟨n,a⟩:=en;obtain⟨b,rfl,f0,f1⟩:=vM;have HT:=z7 (aK b n a w1 VT.tabs.err f0 f1);clear hb xB VT f0 f1;go_wp2_with fail;refine HT.out.mono ?_;rintro e w2 ⟨rfl,xD⟩;have qX:=uH.trans (xD.mono uH.size);clear HT xD;go_wp2;go_ret3
   refine⟨qX,?_⟩;rw[if_neg (by rw[Ti.out];simp),HR.out];rfl
  | ok f =>
   obtain⟨P,q,g,mb,vC,vI,rs,cv,ov,rfl,hph,hqc,hqo⟩:=vM;have HT:=z7 (GF w1);have HP:=z7 hph;have HQ:=z7 (And.intro hqc hqo);clear hb xB VT hph hqc hqo;go_wp2_with fail;refine HT.out.mono ?_;rintro e w2 ⟨rfl,xD⟩;have qX:=uH.trans (xD.mono uH.size);have GO:=z7 (HP.out.below xD);clear HT;go_wp2;go_ret3
   refine⟨qX,?_⟩;rw[if_neg (by rw[Ti.out];simp),HR.out];exact⟨P,q,g,mb,vC,vI,rs,cv,ov,rfl,GO.out,fun W hW=>HQ.out.1 W (xD.trans (hW.mono xD.size)),fun W hW=>HQ.out.2 W (xD.trans (hW.mono xD.size))⟩
end Go.Proofs.YthpldolmpinnhaaGreatDoor
