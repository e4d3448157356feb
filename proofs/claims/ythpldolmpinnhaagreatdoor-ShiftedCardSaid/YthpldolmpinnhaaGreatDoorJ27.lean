import Derived.Test.YthpldolmpinnhaaGreatDoorJ26
import Derived.Test.YthpldolmpinnhaaGreatDoorShelfV
import Derived.Laws.IdiomCopy
namespace Go.Proofs.YthpldolmpinnhaaGreatDoor
open Go Go.RowKit
set_option maxRecDepth 10000
def tenL:List UInt8:=[48,49,50,51,52,53,54,55,56,57]
def digL (dg:List UInt8):List UInt8:=if dg=[] then tenL else dg
def ReadPost (ra rb:Bool) (mi po gr:Int) (fi ne:Nat) (dg:List UInt8) (Qc Qo:World->Value->Prop) (w:World) (e:Ending) (w':World):Prop :=
 Below w.heap.size w w' /\
 if knownL ra rb mi po gr fi ne dg then ∃ (g:Nat) (cv ov:Value),e = .returned (.pointer (some ⟨g,0,none⟩))/\w.heap.size<=g/\g<w'.heap.size /\
   LocX w' g mi po gr fi ((if ne=0 then fi else ne:Nat):Int) (runesL (digL dg))/\w'.cell? ⟨g,0,none⟩=some cv/\w'.cell? ⟨g,1,none⟩=some ov /\
   (∀ W,Below w'.heap.size w' W->Qc W cv)/\(∀ W,Below w'.heap.size w' W->Qo W ov)
 else e = .returned (.pointer none)
def Sam (b:Nat) (A B:World):Prop:=A.heap.size<=B.heap.size/\∀ j,j≠b->j≠b+1->j<A.heap.size->B.heap[j]? = A.heap[j]?
theorem Sam.refl (b:Nat) (A:World):Sam b A A:=⟨Nat.le_refl _,fun _ _ _ _=>rfl⟩
theorem Sam.trans {b:Nat} {A B C:World} (h:Sam b A B) (k:Sam b B C):Sam b A C :=
 ⟨Nat.le_trans h.1 k.1,fun j h1 h2 h3=>(k.2 j h1 h2 (Nat.lt_of_lt_of_le h3 h.1)).trans (h.2 j h1 h2 h3)⟩
theorem Sam.below {b:Nat} {A B:World} (h:Below A.heap.size A B):Sam b A B:=⟨h.size,fun j _ _ h3=>h.block j h3⟩
theorem Sam.set {b:Nat} {A B:World} (h:Sam b A B) (p:Addr) (v:Value) (hp:p.block=b\/p.block=b+1):Sam b A (B.setCell p v) :=
 h.trans ⟨by simp,fun j h1 h2 _=>Below.heap_setCell _ _ _ _ (by omega)⟩
theorem Sam.agree {b hi:Nat} {A B C:World} (h:Sam b A B) (hh:b+2<=hi) (hb:b+2<=A.heap.size) (k:Below B.heap.size B C):Agree b hi A C :=
 ⟨Nat.le_trans h.1 k.size,fun j hj=>by
  have hlt:j<A.heap.size:=by omega
  rw [k.block j (Nat.lt_of_lt_of_le hlt h.1)];exact h.2 j (by omega) (by omega) hlt⟩
theorem push_last (h:Array Obj) (a b:Obj):((h.push a).push b)[h.size+1]? = some b:=by
 have e:h.size+1=(h.push a).size:=by simp
 rw [e];exact Array.getElem?_push_size
theorem valid_isPt (r:Int):Lib.validRune r=isPt r:=by
 unfold Lib.validRune isPt;rw [decide_eq_decide];omega
theorem kn_false {ra rb:Bool} {mi po gr:Int} {fi ne:Nat} {dg:List UInt8} (h:¬(ra=true/\rb=true/\max (fi:Int) (ne:Int)<=9/\¬mi=0/\¬po=0)):knownL ra rb mi po gr fi ne dg=false:=by
 rw [←Bool.not_eq_true];intro hk;simp only [knownL,Bool.and_eq_true,Bool.not_eq_true',beq_eq_false_iff_ne,decide_eq_true_eq] at hk;exact h ⟨hk.1,hk.2.1,by omega,hk.2.2.2.2.2.1,hk.2.2.2.2.2.2.1⟩
theorem kn_false2 {ra rb:Bool} {mi po gr:Int} {fi ne:Nat} {dg:List UInt8} (h:isPt mi=false\/isPt po=false\/isPt gr=false):knownL ra rb mi po gr fi ne dg=false:=by
 rw [←Bool.not_eq_true];intro hk;simp only [knownL,Bool.and_eq_true] at hk;rcases h with h | h | h
 ·rw [hk.2.2.1] at h;cases h
 ·rw [hk.2.2.2.1] at h;cases h
 ·rw [hk.2.2.2.2.1] at h;cases h
theorem tabs_later {w W:World} (h:Lib.Utf8Tabs 3 4 w) (hb:Below w.heap.size w W):Lib.Utf8Tabs 3 4 W:=by
 have lt:∀ (a:Addr) (v:Value),w.cell? a=some v->a.block<w.heap.size:=fun a v h=>World.block_lt_of_cell? w a h
 refine ⟨fun c hc=>?_,fun i hi=>⟨?_,?_⟩⟩
 ·rw [hb.cell (lt _ _ (h.1 c hc))];exact h.1 c hc
 ·rw [hb.cell (lt _ _ (h.2 i hi).1)];exact (h.2 i hi).1
 ·rw [hb.cell (lt _ _ (h.2 i hi).2)];exact (h.2 i hi).2
theorem kn_false3 {ra rb:Bool} {mi po gr:Int} {fi ne:Nat} {dg:List UInt8} (h:Lib.validD dg=false):knownL ra rb mi po gr fi ne dg=false:=by
 rw [←Bool.not_eq_true];intro hk;simp only [knownL,Bool.and_eq_true,decide_eq_true_eq] at hk;have h1:(ptsL dg).2=dg.length:=by have:=hk.2.2.2.2.2.2.2.1;omega
 rw [(valid_pts dg).2 h1] at h
 cases h
theorem cell_old {w:World} {o:Obj} {a:Addr} (h:a.block<w.heap.size):(w.alloc o).cell? a=w.cell? a:=World.cell?_alloc_lt w o a h
theorem ten_count:(ptsL (⟨#[48,49,50,51,52,53,54,55,56,57]⟩:ByteArray).data.toList).1.length=10:=by
 have h:=(count_pts ⟨#[48,49,50,51,52,53,54,55,56,57]⟩ 10 0 (by decide) (by decide) (by rw [List.drop_zero,(valid_pts _).1 (by decide)];decide)).1;rw [List.drop_zero] at h;rw [←h];decide
theorem kn_false4 {ra rb:Bool} {mi po gr:Int} {fi ne:Nat} {dg:List UInt8} (hd:¬dg=[]) (h:¬(ptsL dg).1.length=10):knownL ra rb mi po gr fi ne dg=false:=by
 rw [←Bool.not_eq_true];intro hk;simp only [knownL,Bool.and_eq_true,Bool.or_eq_true,decide_eq_true_eq] at hk;rcases hk.2.2.2.2.2.2.2.2.1 with h1 | h1
 ·exact h1 (List.length_pos_iff.2 hd)
 ·refine h ?_;simp at h1;omega
theorem below_iter (B:Nat) (w:World) (s:ByteArray) (pos:Nat):B<=w.heap.size->Below B w (w.iter s pos):=fun hB=>(Below.refl _ _).alloc hB _
theorem heap_set {w:World} {b j:Nat} {cs:Array Value} {T:TypeId} {fr:Nat×Nat} (h:w.heap[b]? = some (.cells cs T fr)) (v:Value):(w.setCell ⟨b,j,none⟩ v).heap[b]? = some (.cells (cs.setIfInBounds j v) T fr):=by
 simp [World.setCell,Array.getElem?_modify,h]
structure RW (b:Nat) (c o cv ov:Value) (mi po gr fi ne nx:Int) (dg:ByteArray) (W:World):Prop where
 hA:W.heap[b]? = some (.cells #[c,o,.int .i32 mi,.int .i32 po,.int .i32 gr,.int .u8 fi,.int .u8 ne,.string dg] 25 (0,0))
 hB:W.heap[b+1]? = some (.cells #[cv,ov,.int .i32 mi,.int .i32 po,.int .i32 gr,.int .i64 fi,.int .i64 nx,.int .i32 0,.int .i32 0,.int .i32 0,.int .i32 0,.int .i32 0,.int .i32 0,.int .i32 0,.int .i32 0,.int .i32 0,.int .i32 0] 143 (0,0))
theorem RW.below {b B:Nat} {c o cv ov:Value} {mi po gr fi ne nx:Int} {dg:ByteArray} {W W':World} (h:RW b c o cv ov mi po gr fi ne nx dg W) (hb:Below B W W') (hlt:b+1<B):RW b c o cv ov mi po gr fi ne nx dg W' :=
 ⟨by rw [hb.block b (by omega)];exact h.hA,by rw [hb.block (b+1) hlt];exact h.hB⟩
theorem RW.a {b:Nat} {c o cv ov:Value} {mi po gr fi ne nx:Int} {dg:ByteArray} {W:World} (h:RW b c o cv ov mi po gr fi ne nx dg W) :
  W.cell? ⟨b,0,none⟩=some c/\W.cell? ⟨b,1,none⟩=some o/\W.cell? ⟨b,2,none⟩=some (.int .i32 mi)/\W.cell? ⟨b,3,none⟩=some (.int .i32 po)/\W.cell? ⟨b,4,none⟩=some (.int .i32 gr) /\
  W.cell? ⟨b,5,none⟩=some (.int .u8 fi)/\W.cell? ⟨b,6,none⟩=some (.int .u8 ne)/\W.cell? ⟨b,7,none⟩=some (.string dg)/\W.frozen? ⟨b,7,none⟩=false :=
 ⟨Lib.cell_of_heap h.hA 0,Lib.cell_of_heap h.hA 1,Lib.cell_of_heap h.hA 2,Lib.cell_of_heap h.hA 3,Lib.cell_of_heap h.hA 4,Lib.cell_of_heap h.hA 5,Lib.cell_of_heap h.hA 6,Lib.cell_of_heap h.hA 7,Lib.frozen_of_heap h.hA 7⟩
theorem RW.b {b:Nat} {c o cv ov:Value} {mi po gr fi ne nx:Int} {dg:ByteArray} {W:World} (h:RW b c o cv ov mi po gr fi ne nx dg W) :
  W.cell? ⟨b+1,0,none⟩=some cv/\W.cell? ⟨b+1,1,none⟩=some ov/\W.cell? ⟨b+1,5,none⟩=some (.int .i64 fi)/\W.cell? ⟨b+1,6,none⟩=some (.int .i64 nx) /\
  W.frozen? ⟨b+1,0,none⟩=false/\W.frozen? ⟨b+1,1,none⟩=false/\W.frozen? ⟨b+1,6,none⟩=false :=
 ⟨Lib.cell_of_heap h.hB 0,Lib.cell_of_heap h.hB 1,Lib.cell_of_heap h.hB 5,Lib.cell_of_heap h.hB 6,Lib.frozen_of_heap h.hB 0,Lib.frozen_of_heap h.hB 1,Lib.frozen_of_heap h.hB 6⟩
theorem RW.set0 {b:Nat} {c o cv ov:Value} {mi po gr fi ne nx:Int} {dg:ByteArray} {W:World} (h:RW b c o cv ov mi po gr fi ne nx dg W) (v:Value):RW b c o v ov mi po gr fi ne nx dg (W.setCell ⟨b+1,0,none⟩ v) :=
 ⟨by rw [Below.heap_setCell _ _ _ _ (by simp)];exact h.hA,by rw [heap_set h.hB];rfl⟩
theorem RW.set1 {b:Nat} {c o cv ov:Value} {mi po gr fi ne nx:Int} {dg:ByteArray} {W:World} (h:RW b c o cv ov mi po gr fi ne nx dg W) (v:Value):RW b c o cv v mi po gr fi ne nx dg (W.setCell ⟨b+1,1,none⟩ v) :=
 ⟨by rw [Below.heap_setCell _ _ _ _ (by simp)];exact h.hA,by rw [heap_set h.hB];rfl⟩
theorem RW.set6 {b:Nat} {c o cv ov:Value} {mi po gr fi ne nx:Int} {dg:ByteArray} {W:World} (h:RW b c o cv ov mi po gr fi ne nx dg W) (v:Int):RW b c o cv ov mi po gr fi ne v dg (W.setCell ⟨b+1,6,none⟩ (.int .i64 v)) :=
 ⟨by rw [Below.heap_setCell _ _ _ _ (by simp)];exact h.hA,by rw [heap_set h.hB];rfl⟩
theorem RW.setd {b:Nat} {c o cv ov:Value} {mi po gr fi ne nx:Int} {dg:ByteArray} {W:World} (h:RW b c o cv ov mi po gr fi ne nx dg W) (d:ByteArray):RW b c o cv ov mi po gr fi ne nx d (W.setCell ⟨b,7,none⟩ (.string d)) :=
 ⟨by rw [heap_set h.hA];rfl,by rw [Below.heap_setCell _ _ _ _ (by simp)];exact h.hB⟩
theorem src_cells (V:World) (cs:List Value) (r:Array Value) (T:TypeId) (j:Nat) (v:Value) (h:cs[j]? = some v) :
  (V.alloc (.cells (cs.toArray++r) T)).drew.drew.cell? ((⟨V.heap.size,0,none⟩:Addr).add j)=some v:=by
 have h1:(V.alloc (.cells (cs.toArray++r) T)).drew.drew.heap[V.heap.size]? = some (.cells (cs.toArray++r) T):=by
  show (V.heap.push _)[V.heap.size]? = _;simp
 have hlt:j<cs.length:=by
  rcases Nat.lt_or_ge j cs.length with hh | hh
  ·exact hh
  ·rw [List.getElem?_eq_none hh] at h;cases h
 rw [addr_add0,Lib.cell_of_heap h1 j,Array.getElem?_append_left (by simpa using hlt)];simpa using h
theorem dst_cells {V:World} {g:Nat} {cs:Array Value} {T:TypeId} (h:V.heap[g]? = some (.cells cs T (0,0))) (hs:cs.size=17) (n:Nat) (hn:n=10) :
  (∀ j,j<n->(V.cell? ⟨g,7+j,none⟩).isSome=true)/\∀ j,j<n->V.frozen? ⟨g,7+j,none⟩=false:=by
 subst hn;refine ⟨fun j hj=>?_,fun j hj=>Lib.frozen_of_heap h _⟩;rw [Lib.cell_of_heap h (7+j)];have:7+j<cs.size:=by omega
 simp [this]
theorem Sam.setCells {b:Nat} {A:World}:∀ (vs:List Value) (B:World) (o:Nat),Sam b A B->Sam b A (B.setCells (b+1) o vs)
 | [],_,_,h=>h
 | v::vs,B,o,h=>by
  unfold World.setCells;exact Sam.setCells vs _ _ (h.set _ _ (.inr rfl))
theorem below_setCells {b:Nat} {A:World}:∀ (vs:List Value) (B:World) (o:Nat),Below b A B->Below b A (B.setCells (b+1) o vs)
 | [],_,_,h=>h
 | v::vs,B,o,h=>by
  unfold World.setCells;exact below_setCells vs _ _ (h.setCell (Nat.le_succ b) _)
theorem kn_true {mi po gr:Int} {fi ne:Nat} {dg D:List UInt8} (hD:D=digL dg) (h3:max (fi:Int) (ne:Int)<=9) (h4:¬mi=0) (h5:¬po=0) (p1:isPt mi=true) (p2:isPt po=true) (p3:isPt gr=true)
  (hp:(ptsL D).2=D.length) (hc:(ptsL D).1.length=10):knownL true true mi po gr fi ne dg=true:=by
 unfold digL at hD;by_cases h:dg=[]
 ·subst h;have e:(ptsL []).2=0:=by rw [ptsL_nil]
  simp [knownL,p1,p2,p3,h4,h5,e];omega
 ·rw [if_neg h] at hD;subst hD;simp [knownL,p1,p2,p3,h4,h5,hp,hc];omega
theorem read_fin {w W1 W3 W7:World} {D:ByteArray} {pos:Nat} {ob:Obj} {c oo cv ov:Value} {mi po gr:Int} {fi ne nx hi1 hi3:Nat} {rs:List Int} {dg:List UInt8} {Qc Qo:World->Value->Prop}
  (h:RW w.heap.size c oo cv ov mi po gr fi ne (nx:Int) D W7) (hb:Below w.heap.size w W7) (hz:w.heap.size+2<=W7.heap.size) (hl:rs.length=10) (hnx:nx=if ne=0 then fi else ne)
  (hrs:rs=runesL D.data.toList) (hD:D.data.toList=digL dg) (hk:knownL true true mi po gr fi ne dg=true)
  (s1:Sam w.heap.size W1 W7) (s3:Sam w.heap.size W3 W7) (h1:w.heap.size+2<=hi1) (h3:w.heap.size+2<=hi3) (z1:w.heap.size+2<=W1.heap.size) (z3:w.heap.size+2<=W3.heap.size)
  (q1:∀ W,Agree w.heap.size hi1 W1 W->Qc W cv) (q3:∀ W,Agree w.heap.size hi3 W3 W->Qo W ov) :
  ReadPost true true mi po gr fi ne dg Qc Qo w (.returned (.pointer (some ⟨w.heap.size+1,0,none⟩))) (((W7.iter D pos).alloc ob).drew.drew.setCells (w.heap.size+1) 7 (rs.map (Value.int .i32))):=by
 have hV:((W7.iter D pos).alloc ob).drew.drew.heap[w.heap.size+1]? = W7.heap[w.heap.size+1]? := by
  show ((W7.alloc _).alloc _).heap[w.heap.size+1]? = _;rw [Below.heap_alloc _ _ _ (by simp;omega),Below.heap_alloc _ _ _ (by omega)]
 have hVB:=hV.trans h.hB;have sV:∀ {A:World},Sam w.heap.size A W7->Sam w.heap.size A (((W7.iter D pos).alloc ob).drew.drew.setCells (w.heap.size+1) 7 (rs.map (Value.int .i32))):=by
  intro A hA;refine Sam.setCells _ _ _ (hA.trans ⟨?_,fun j _ _ hj=>?_⟩)
  ·show W7.heap.size<=((W7.alloc _).alloc _).heap.size;simp;omega
  ·show ((W7.alloc _).alloc _).heap[j]? = _;rw [Below.heap_alloc _ _ _ (by simp;omega),Below.heap_alloc _ _ _ hj]
 have hbV:Below w.heap.size w (((W7.iter D pos).alloc ob).drew.drew.setCells (w.heap.size+1) 7 (rs.map (Value.int .i32))):=by
  refine below_setCells _ _ _ ?_;have h1:Below w.heap.size w ((W7.iter D pos).alloc ob):=(hb.trans (below_iter _ _ _ _ (by omega))).alloc (by show _<=(W7.alloc _).heap.size;simp;omega) _;exact ⟨h1.os,h1.tape,h1.output,h1.size,h1.block⟩
 have hz9:=(sV (Sam.refl _ W7)).1;generalize hVV:((W7.iter D pos).alloc ob).drew.drew=V at *;have out:∀ j,j<7->(V.setCells (w.heap.size+1) 7 (rs.map (Value.int .i32))).cell? ⟨w.heap.size+1,j,none⟩=V.cell? ⟨w.heap.size+1,j,none⟩:=fun j hj=>World.cell?_setCells_out _ _ _ _ _ (fun _ _ => .inl hj)
 refine ⟨hbV,?_⟩;rw [if_pos hk];refine ⟨w.heap.size+1,cv,ov,rfl,Nat.le_succ _,by omega,⟨?_,?_,?_,?_,?_,?_,?_⟩,?_,?_,fun W hW=>q1 W ((sV s1).agree h1 z1 hW),fun W hW=>q3 W ((sV s3).agree h3 z3 hW)⟩
 ·rw [out 2 (by decide)];exact Lib.cell_of_heap hVB 2
 ·rw [out 3 (by decide)];exact Lib.cell_of_heap hVB 3
 ·rw [out 4 (by decide)];exact Lib.cell_of_heap hVB 4
 ·rw [out 5 (by decide)];exact Lib.cell_of_heap hVB 5
 ·rw [out 6 (by decide),←hnx];exact Lib.cell_of_heap hVB 6
 ·rw [←hD,←hrs];exact hl
 ·rw [←hD,←hrs];intro j hj;have hin:=World.cell?_setCells_in (w.heap.size+1) (rs.map (Value.int .i32)) 7 V (by rw [List.length_map];exact (dst_cells hVB rfl _ hl).1) j (by simpa using hj);rw [hin,List.getElem_map]
 ·rw [out 0 (by decide)];exact Lib.cell_of_heap hVB 0
 ·rw [out 1 (by decide)];exact Lib.cell_of_heap hVB 1
theorem copy_run (V:World) (rs:List Int) (r:Array Value) (cap b:Nat) {cs:Array Value} {T:TypeId} (hl:rs.length=10)
  (hVB:(V.alloc (.cells ((rs.map (Value.int .i32)).toArray++r) 21)).drew.drew.heap[b]? = some (.cells cs T (0,0))) (hs:cs.size=17) :
  (Builtin.copy_ #[147,147] 3 #[.slice (some ⟨b,7,none⟩) 10 10,.slice (some ⟨V.heap.size,0,none⟩) 10 cap]).run Tryz.prog (V.alloc (.cells ((rs.map (Value.int .i32)).toArray++r) 21)).drew.drew =
   .ok (goInt (rs.map (Value.int .i32)).length) ((V.alloc (.cells ((rs.map (Value.int .i32)).toArray++r) 21)).drew.drew.setCells b 7 (rs.map (Value.int .i32))):=by
 have hd:=dst_cells hVB hs (rs.map (Value.int .i32)).length (by simp [hl]);have hsrc:=src_cells V (rs.map (Value.int .i32)) r 21;generalize (V.alloc (.cells ((rs.map (Value.int .i32)).toArray++r) 21)).drew.drew=W at *;exact run_copy_cells W 147 147 3 21 b 7 10 10 ⟨V.heap.size,0,none⟩ 10 cap (rs.map (Value.int .i32)) Tryz.underlying147 (by kernel_rfl) (by simp [hl]) hsrc hd.1 hd.2 (by intro v hv;simp at hv;obtain ⟨x,_,rfl⟩:=hv;rfl)

set_option maxHeartbeats 4000000 in
theorem read_any (c o : Value) (ra rb : Bool) (mi po gr : Int) (fi ne : Nat) (dg : ByteArray) (Qc Qo : World → Value → Prop) (w : World) (hd : dg.size ≤ 1000000) (hfi : fi ≤ 255) (hne : ne ≤ 255)
    (hc : PReadAt w c ra Qc) (ho : PReadAt w o rb Qo) (hco : (∃ a n k, c = .slice a n k) ∧ ∃ a n k, o = .slice a n k) (hT : Lib.Utf8Tabs 3 4 w) :
    Calls Tryz.prog 43 #[locv c o mi po gr fi ne dg] w (ReadPost ra rb mi po gr fi ne dg.data.toList Qc Qo w) := by
  obtain ⟨⟨ca, cn, ck, rfl⟩, oa, on, ok, rfl⟩ := hco
  have hix0 : ∀ W : World, (Instr.index 144 (.agg #[.int .i32 mi, .int .i32 po, .int .i32 gr]) (.int .i64 0)).run Tryz.prog W = .ok (.int .i32 mi) W := fun W => by kernel_rfl
  have hix1 : ∀ W : World, (Instr.index 144 (.agg #[.int .i32 mi, .int .i32 po, .int .i32 gr]) (.int .i64 1)).run Tryz.prog W = .ok (.int .i32 po) W := fun W => by kernel_rfl
  have hix2 : ∀ W : World, (Instr.index 144 (.agg #[.int .i32 mi, .int .i32 po, .int .i32 gr]) (.int .i64 2)).run Tryz.prog W = .ok (.int .i32 gr) W := fun W => by kernel_rfl
  have HC := Lib.hid hc
  have HO := Lib.hid ho
  clear hc ho
  go_enter Tryz.func43, Tryz.ntmps43
  go_wp2_with fail
  refine calls_gen ?_
  intro W hW
  have hR : RW w.heap.size (.slice ca cn ck) (.slice oa on ok) (.slice none 0 0) (.slice none 0 0) mi po gr fi ne ne dg W := by
    rw [hW]
    refine ⟨?_, ?_⟩
    · rw [Below.heap_alloc _ _ _ (by simp)]
      show (w.heap.push _)[w.heap.size]? = _
      simp
    · show ((w.heap.push _).push _)[w.heap.size + 1]? = _
      exact push_last _ _ _
  have hbW : Below w.heap.size w W := by rw [hW]; exact ((Below.refl _ _).alloc (Nat.le_refl _) _).alloc (by simp) _
  have hzW : w.heap.size + 2 ≤ W.heap.size := by rw [hW]; simp
  clear hW
  have HZW := Lib.hid hzW
  refine (HC.out W hbW).mono ?_
  rintro e W1 ⟨⟨a1, n1, k1, rfl, hQ1⟩, hb1⟩
  have hR1 := hR.below hb1 (by omega)
  have hb01 : Below w.heap.size w W1 := hbW.trans (hb1.mono (by omega))
  have hz1 : w.heap.size + 2 ≤ W1.heap.size := by have := hb1.size; omega
  clear hR hbW hzW hb1
  obtain ⟨g0, g1, g2, g3, g4, g5, g6⟩ := hR1.b
  obtain ⟨a0, a1', a2, a3, a4, a5, a6, a7, a8⟩ := hR1.a
  have HQ1 := Lib.hid hQ1
  clear hQ1
  go_wp2_with fail
  refine calls_gen ?_
  intro W2 hW2
  have hR2 : RW w.heap.size (.slice ca cn ck) (.slice oa on ok) (.slice a1 n1 k1) (.slice none 0 0) mi po gr fi ne ne dg W2 := by rw [hW2]; exact hR1.set0 _
  have hb02 : Below w.heap.size w W2 := by rw [hW2]; exact hb01.setCell (p := ⟨w.heap.size + 1, 0, none⟩) (by simp) _
  have hb12 : Below w.heap.size W1 W2 := by rw [hW2]; exact (Below.refl _ _).setCell (p := ⟨w.heap.size + 1, 0, none⟩) (by simp) _
  have hz2 : w.heap.size + 2 ≤ W2.heap.size := by rw [hW2]; simpa using hz1
  have s12 : Sam w.heap.size W1 W2 := by rw [hW2]; exact (Sam.refl _ _).set _ _ (.inr rfl)
  clear hW2
  refine (HO.out W2 hb02).mono ?_
  rintro e W3 ⟨⟨a9, n9, k9, rfl, hQ3⟩, hb3⟩
  have hR3 := hR2.below hb3 (by omega)
  have hb03 : Below w.heap.size w W3 := hb02.trans (hb3.mono (by omega))
  have hz3 : w.heap.size + 2 ≤ W3.heap.size := by have := hb3.size; omega
  have s13 := s12.trans (Sam.below (b := w.heap.size) hb3)
  clear a0 a1' a2 a3 a4 a5 a6 a7 a8 g0 g1 g2 g3 g4 g5 g6
  obtain ⟨g0, g1, g2, g3, g4, g5, g6⟩ := hR3.b
  obtain ⟨a0, a1', a2, a3, a4, a5, a6, a7, a8⟩ := hR3.a
  have HQ3 := Lib.hid hQ3
  clear hQ3
  by_cases hgood : ra = true ∧ rb = true ∧ max (fi : Int) (ne : Int) ≤ 9 ∧ ¬ mi = 0 ∧ ¬ po = 0
  · obtain ⟨r1, r2, r3, r4, r5⟩ := hgood
    have hmi : (mi == 0) = false := by simpa using r4
    have hpo : (po == 0) = false := by simpa using r5
    go_wp2_with fail
    refine wp_gen ?_
    intro W4 hW4
    have hR4 : RW w.heap.size (.slice ca cn ck) (.slice oa on ok) (.slice a1 n1 k1) (.slice a9 n9 k9) mi po gr fi ne ne dg W4 := by rw [hW4]; exact hR3.set1 _
    have hb04 : Below w.heap.size w W4 := by rw [hW4]; exact hb03.setCell (p := ⟨w.heap.size + 1, 1, none⟩) (by simp) _
    have hb34 : Below (w.heap.size + 1) W3 W4 := by rw [hW4]; exact (Below.refl _ _).setCell (p := ⟨w.heap.size + 1, 1, none⟩) (by simp) _
    have hz4 : w.heap.size + 2 ≤ W4.heap.size := by rw [hW4]; simpa using hz3
    have s34 : Sam w.heap.size W3 W4 := by rw [hW4]; exact (Sam.refl _ _).set _ _ (.inr rfl)
    have HW4 := Lib.hid hW4
    clear hW4
    clear a0 a1' a2 a3 a4 a5 a6 a7 a8 g0 g1 g2 g3 g4 g5 g6
    go_loopw [71] (fun i wr => ∃ k : Nat, k ≤ 3 ∧ i = .int .i64 k ∧ wr = W4 ∧ (0 < k → isPt mi = true) ∧ (1 < k → isPt po = true) ∧ (2 < k → isPt gr = true)) (fun i _ => 3 - (intOf i).toNat)
    case atStart => exact ⟨0, by omega, rfl, rfl, fun h => by omega, fun h => by omega, fun h => by omega⟩
    case round =>
      obtain ⟨k, hk, rfl, hwr, p1, p2, p3⟩ := hrel
      subst hwr
      have hk4 : k = 0 ∨ k = 1 ∨ k = 2 ∨ k = 3 := by omega
      rcases hk4 with hk0 | hk1 | hk2 | hk3
      · subst hk0
        go_wp2_with fail
        refine (Tryz.utf8_ValidRune mi _).mono ?_
        rintro e w' ⟨rfl, rfl⟩
        rw [valid_isPt]
        cases hp : isPt mi
        · have HF := Lib.hid (kn_false2 (ra := ra) (rb := rb) (fi := fi) (ne := ne) (dg := dg.data.toList) (mi := mi) (po := po) (gr := gr) (.inl hp))
          clear hp
          go_wp2
          go_ret
          refine ⟨hb04, ?_⟩
          rw [HF.out]
          exact rfl
        · have HP := Lib.hid hp
          clear hp
          go_wp2
          go_roundw
          case rel => exact ⟨1, by omega, by go_num, by first | rfl | trivial, fun _ => HP.out, fun h => by omega, fun h => by omega⟩
          case measure => simp [intOf]
      · subst hk1
        go_wp2_with fail
        refine (Tryz.utf8_ValidRune po _).mono ?_
        rintro e w' ⟨rfl, rfl⟩
        rw [valid_isPt]
        cases hp : isPt po
        · have HF := Lib.hid (kn_false2 (ra := ra) (rb := rb) (fi := fi) (ne := ne) (dg := dg.data.toList) (mi := mi) (po := po) (gr := gr) (.inr (.inl hp)))
          clear hp
          go_wp2
          go_ret
          refine ⟨hb04, ?_⟩
          rw [HF.out]
          exact rfl
        · have HP := Lib.hid hp
          clear hp
          go_wp2
          go_roundw
          case rel => exact ⟨2, by omega, by go_num, by first | rfl | trivial, fun _ => p1 (by omega), fun _ => HP.out, fun h => by omega⟩
          case measure => simp [intOf]
      · subst hk2
        go_wp2_with fail
        refine (Tryz.utf8_ValidRune gr _).mono ?_
        rintro e w' ⟨rfl, rfl⟩
        rw [valid_isPt]
        cases hp : isPt gr
        · have HF := Lib.hid (kn_false2 (ra := ra) (rb := rb) (fi := fi) (ne := ne) (dg := dg.data.toList) (mi := mi) (po := po) (gr := gr) (.inr (.inr hp)))
          clear hp
          go_wp2
          go_ret
          refine ⟨hb04, ?_⟩
          rw [HF.out]
          exact rfl
        · have HP := Lib.hid hp
          clear hp
          go_wp2
          go_roundw
          case rel => exact ⟨3, by omega, by go_num, by first | rfl | trivial, fun _ => p1 (by omega), fun _ => p2 (by omega), fun _ => HP.out⟩
          case measure => simp [intOf]
      · subst hk3
        -- ARMS
        by_cases n0 : ne = 0
        · have n0' : ((ne : Int) == 0) = true := by simp [n0]
          by_cases d0 : dg.data.toList = []
          · have d0' : dg.toList.isEmpty = true := by rw [toList_eq, d0]; rfl
            obtain ⟨g0, g1, g2, g3, g4, g5, g6⟩ := hR4.b
            obtain ⟨a0, a1', a2, a3, a4, a5, a6, a7, a8⟩ := hR4.a
            go_wp2_with fail
            refine calls_gen ?_
            intro W6 hW6
            have hR6 : RW w.heap.size (.slice ca cn ck) (.slice oa on ok) (.slice a1 n1 k1) (.slice a9 n9 k9) mi po gr fi ne ((fi : Nat) : Int) ⟨#[48, 49, 50, 51, 52, 53, 54, 55, 56, 57]⟩ W6 := by rw [hW6]; exact ((hR4.set6 _).setd _)
            have hb46 : Below w.heap.size wr W6 := by rw [hW6]; (repeat (first | (with_reducible exact Below.refl _ _) | (with_reducible refine Below.setCell ?_ ?_ _; rotate_left; focus (first | (simp; done) | (simp; omega)))))
            have s46 : Sam w.heap.size wr W6 := by rw [hW6]; exact (((Sam.refl _ _).set _ _ (.inr rfl)).set _ _ (.inl rfl))
            have hz6 : w.heap.size + 2 ≤ W6.heap.size := by have := hb46.size; omega
            clear a0 a1' a2 a3 a4 a5 a6 a7 a8 g0 g1 g2 g3 g4 g5 g6 hW6
            have hb06 := hb04.trans hb46
            have hT6 := tabs_later hT hb06
            refine (Tryz.utf8_ValidString ⟨#[48, 49, 50, 51, 52, 53, 54, 55, 56, 57]⟩ W6 (by first | omega | decide) hT6).mono ?_
            rintro e W7 ⟨rfl, hb7⟩
            cases hv : Lib.validD (⟨#[48, 49, 50, 51, 52, 53, 54, 55, 56, 57]⟩ : ByteArray).data.toList
            · exact absurd hv (by decide)
            · have HVL := Lib.hid hv
              clear hv
              have hR7 := hR6.below hb7 (by omega)
              have hb07 : Below w.heap.size w W7 := hb06.trans (hb7.mono (by omega))
              have s37 : Sam w.heap.size W3 W7 := (s34.trans s46).trans (Sam.below hb7)
              have hz7 : w.heap.size + 2 ≤ W7.heap.size := by have := hb7.size; omega
              obtain ⟨a0, a1', a2, a3, a4, a5, a6, a7, a8⟩ := hR7.a
              go_wp2_with fail
              refine (Tryz.utf8_RuneCountInString ⟨#[48, 49, 50, 51, 52, 53, 54, 55, 56, 57]⟩ W7 (by first | omega | decide)).mono ?_
              rintro e W8 ⟨rfl, pos, rfl⟩
              have hpt : (ptsL (⟨#[48, 49, 50, 51, 52, 53, 54, 55, 56, 57]⟩ : ByteArray).data.toList).2 = (⟨#[48, 49, 50, 51, 52, 53, 54, 55, 56, 57]⟩ : ByteArray).data.toList.length := (valid_pts _).1 HVL.out
              have hcp := count_pts ⟨#[48, 49, 50, 51, 52, 53, 54, 55, 56, 57]⟩ (⟨#[48, 49, 50, 51, 52, 53, 54, 55, 56, 57]⟩ : ByteArray).size 0 (by omega) (by omega) (by rw [List.drop_zero, hpt, size_toList]; simp)
              rw [List.drop_zero] at hcp
              rw [show Lib.runeCount ⟨#[48, 49, 50, 51, 52, 53, 54, 55, 56, 57]⟩ = (ptsL (⟨#[48, 49, 50, 51, 52, 53, 54, 55, 56, 57]⟩ : ByteArray).data.toList).1.length from hcp.1]
              have HCP := Lib.hid hcp
              have HPT := Lib.hid hpt
              clear hcp hpt
              obtain ⟨cnt, hcnt⟩ : ∃ n, (ptsL (⟨#[48, 49, 50, 51, 52, 53, 54, 55, 56, 57]⟩ : ByteArray).data.toList).1.length = n := ⟨_, rfl⟩
              rw [hcnt]
              have HCNT := Lib.hid hcnt
              clear hcnt
              by_cases h10 : cnt = 10
              · subst h10
                have hrf : Conv.runesFrom ⟨#[48, 49, 50, 51, 52, 53, 54, 55, 56, 57]⟩ (⟨#[48, 49, 50, 51, 52, 53, 54, 55, 56, 57]⟩ : ByteArray).size 0 #[] = ((runesL (⟨#[48, 49, 50, 51, 52, 53, 54, 55, 56, 57]⟩ : ByteArray).data.toList).map (Value.int .i32)).toArray := by have := HCP.out.2 #[]; simpa using this
                have hrl : (runesL (⟨#[48, 49, 50, 51, 52, 53, 54, 55, 56, 57]⟩ : ByteArray).data.toList).length = 10 := by
                  have := congrArg List.length (runes_enc _ (⟨#[48, 49, 50, 51, 52, 53, 54, 55, 56, 57]⟩ : ByteArray).data.toList (Nat.le_refl _))
                  rw [List.length_map, HCNT.out] at this
                  exact this
                obtain ⟨rs, hrs⟩ : ∃ r : List Int, r = runesL (⟨#[48, 49, 50, 51, 52, 53, 54, 55, 56, 57]⟩ : ByteArray).data.toList := ⟨_, rfl⟩
                rw [← hrs] at hrf hrl
                have hcv : ∀ W : World, (convert 9 147 (.string ⟨#[48, 49, 50, 51, 52, 53, 54, 55, 56, 57]⟩)).run Tryz.prog W = .ok (.slice (some ⟨W.heap.size, 0, none⟩) 10 (grownCap W 10 0 21)) (W.drew.alloc (.cells ((rs.map (Value.int .i32)).toArray ++ Array.replicate (grownCap W 10 0 21 - 10) (.int .i32 0)) 21)) := by
                  intro W
                  have := run_runes_of_string (P := Tryz.prog) W 9 147 21 ⟨#[48, 49, 50, 51, 52, 53, 54, 55, 56, 57]⟩ Tryz.underlying9 Tryz.underlying147 Tryz.underlying21 (by rw [hrf]; simp; omega)
                  rw [hrf] at this
                  simpa [hrl] using this
                have HRF := Lib.hid hrf
                have HRS := Lib.hid hrs
                clear hrf hrs
                go_wp2_with fail
                have hS0 : (W7.iter ⟨#[48, 49, 50, 51, 52, 53, 54, 55, 56, 57]⟩ pos).drew.cell? ⟨w.heap.size, 7, none⟩ = some (.string ⟨#[48, 49, 50, 51, 52, 53, 54, 55, 56, 57]⟩) := by
                  show (W7.alloc _).cell? _ = _
                  rw [World.cell?_alloc_lt _ _ _ (by simp; omega)]
                  exact a7
                refine wp_region_takes (fun W' : World => W'.cell? ⟨w.heap.size, 7, none⟩ = some (.string ⟨#[48, 49, 50, 51, 52, 53, 54, 55, 56, 57]⟩)) [0, 1, 2, 3, 4, 5] 2 (by intro _ _ d _ _ h; cases d <;> exact h) (by kernel_rfl) (by kernel_rfl) hS0 ?_
                (iterate 6 (first | (refine takes_yes (v := ?_) rfl (by rfl) ?_ ?_; rotate_left; (focus ((intro w' hS'; (try dsimp only at hS'); go_simp; try (with_reducible rfl)); done)); (try simp only [Act.put, List.setIfInBounds_toArray, List.set_cons_zero, List.set_cons_succ])) | (refine takes_no rfl (by rfl) ?_; (try simp only [Act.put, List.setIfInBounds_toArray, List.set_cons_zero, List.set_cons_succ]))))
                refine takes_nil ?_
                refine wpAnyH_only 6 (by kernel_rfl) rfl (fun K hK => ?_)
                go_simp
                refine hK.out _ _ ?_ (fun _ => ?_)
                · show ((W7.iter ⟨#[48, 49, 50, 51, 52, 53, 54, 55, 56, 57]⟩ pos).alloc _).cell? _ = _
                  rw [cell_old (by show _ < (W7.alloc _).heap.size; simp; omega)]
                  exact hS0
                clear hK K
                refine wpAnyH_only 7 (by kernel_rfl) rfl (fun K hK => ?_)
                go_simp
                have hVB0 : (((W7.iter ⟨#[48, 49, 50, 51, 52, 53, 54, 55, 56, 57]⟩ pos).alloc (.cells ((rs.map (Value.int .i32)).toArray ++ Array.replicate (grownCap (W7.iter ⟨#[48, 49, 50, 51, 52, 53, 54, 55, 56, 57]⟩ pos).drew 10 0 21 - 10) (.int .i32 0)) 21)).drew.drew).heap[w.heap.size + 1]? = W7.heap[w.heap.size + 1]? := by
                  show ((W7.alloc _).alloc _).heap[w.heap.size + 1]? = _
                  rw [Below.heap_alloc _ _ _ (by simp; omega), Below.heap_alloc _ _ _ (by omega)]
                have hVB := hVB0.trans hR7.hB
                have hcopy := copy_run (W7.iter ⟨#[48, 49, 50, 51, 52, 53, 54, 55, 56, 57]⟩ pos) rs (Array.replicate (grownCap (W7.iter ⟨#[48, 49, 50, 51, 52, 53, 54, 55, 56, 57]⟩ pos).drew 10 0 21 - 10) (.int .i32 0)) (grownCap (W7.iter ⟨#[48, 49, 50, 51, 52, 53, 54, 55, 56, 57]⟩ pos).drew 10 0 21) (w.heap.size + 1) hrl hVB (by simp)
                rw [hcopy]
                simp only [Result.andThen]
                refine hK.out _ _ ?_ (fun _ => ?_)
                · rw [World.cell?_setCells_out _ _ _ _ _ (fun h => absurd h (by simp))]
                  show ((W7.iter ⟨#[48, 49, 50, 51, 52, 53, 54, 55, 56, 57]⟩ pos).alloc _).cell? _ = _
                  rw [cell_old (by show _ < (W7.alloc _).heap.size; simp; omega)]
                  exact hS0
                clear hK K
                refine wpAnyH_done (by kernel_rfl) ?_ _
                go_wp2
                refine bodyPost_ret (v := .pointer (some ⟨w.heap.size + 1, 0, none⟩)) ?_ rfl ?_
                · simp [results, Tryz.results43, go_sem]
                · have HD : (⟨#[48, 49, 50, 51, 52, 53, 54, 55, 56, 57]⟩ : ByteArray).data.toList = digL dg.data.toList := by rw [d0]; rfl
                  have HK := kn_true (fi := fi) (ne := ne) HD r3 r4 r5 (p1 (by omega)) (p2 (by omega)) (p3 (by omega)) HPT.out HCNT.out
                  rw [show ra = true from r1, show rb = true from r2]
                  exact read_fin (nx := fi) hR7 hb07 hz7 hrl (by rw [if_pos n0]) HRS.out HD HK (s13.trans s37) s37 HZW.out hz2 hz1 hz3 HQ1.out HQ3.out
              · exact absurd (HCNT.out.symm.trans ten_count) h10
          · have d0' : dg.toList.isEmpty = false := by rw [toList_eq]; simpa using d0
            obtain ⟨g0, g1, g2, g3, g4, g5, g6⟩ := hR4.b
            obtain ⟨a0, a1', a2, a3, a4, a5, a6, a7, a8⟩ := hR4.a
            go_wp2_with fail
            refine calls_gen ?_
            intro W6 hW6
            have hR6 : RW w.heap.size (.slice ca cn ck) (.slice oa on ok) (.slice a1 n1 k1) (.slice a9 n9 k9) mi po gr fi ne ((fi : Nat) : Int) dg W6 := by rw [hW6]; exact (hR4.set6 _)
            have hb46 : Below w.heap.size wr W6 := by rw [hW6]; (repeat (first | (with_reducible exact Below.refl _ _) | (with_reducible refine Below.setCell ?_ ?_ _; rotate_left; focus (first | (simp; done) | (simp; omega)))))
            have s46 : Sam w.heap.size wr W6 := by rw [hW6]; exact ((Sam.refl _ _).set _ _ (.inr rfl))
            have hz6 : w.heap.size + 2 ≤ W6.heap.size := by have := hb46.size; omega
            clear a0 a1' a2 a3 a4 a5 a6 a7 a8 g0 g1 g2 g3 g4 g5 g6 hW6
            have hb06 := hb04.trans hb46
            have hT6 := tabs_later hT hb06
            refine (Tryz.utf8_ValidString dg W6 (by first | omega | decide) hT6).mono ?_
            rintro e W7 ⟨rfl, hb7⟩
            cases hv : Lib.validD (dg : ByteArray).data.toList
            · have HF := Lib.hid (kn_false3 (ra := ra) (rb := rb) (fi := fi) (ne := ne) (mi := mi) (po := po) (gr := gr) hv)
              clear hv
              go_wp2
              go_ret
              refine ⟨hb06.trans (hb7.mono (by omega)), ?_⟩
              rw [HF.out]
              exact rfl
            · have HVL := Lib.hid hv
              clear hv
              have hR7 := hR6.below hb7 (by omega)
              have hb07 : Below w.heap.size w W7 := hb06.trans (hb7.mono (by omega))
              have s37 : Sam w.heap.size W3 W7 := (s34.trans s46).trans (Sam.below hb7)
              have hz7 : w.heap.size + 2 ≤ W7.heap.size := by have := hb7.size; omega
              obtain ⟨a0, a1', a2, a3, a4, a5, a6, a7, a8⟩ := hR7.a
              go_wp2_with fail
              refine (Tryz.utf8_RuneCountInString dg W7 (by first | omega | decide)).mono ?_
              rintro e W8 ⟨rfl, pos, rfl⟩
              have hpt : (ptsL (dg : ByteArray).data.toList).2 = (dg : ByteArray).data.toList.length := (valid_pts _).1 HVL.out
              have hcp := count_pts dg (dg : ByteArray).size 0 (by omega) (by omega) (by rw [List.drop_zero, hpt, size_toList]; simp)
              rw [List.drop_zero] at hcp
              rw [show Lib.runeCount dg = (ptsL (dg : ByteArray).data.toList).1.length from hcp.1]
              have HCP := Lib.hid hcp
              have HPT := Lib.hid hpt
              clear hcp hpt
              obtain ⟨cnt, hcnt⟩ : ∃ n, (ptsL (dg : ByteArray).data.toList).1.length = n := ⟨_, rfl⟩
              rw [hcnt]
              have HCNT := Lib.hid hcnt
              clear hcnt
              by_cases h10 : cnt = 10
              · subst h10
                have hrf : Conv.runesFrom dg (dg : ByteArray).size 0 #[] = ((runesL (dg : ByteArray).data.toList).map (Value.int .i32)).toArray := by have := HCP.out.2 #[]; simpa using this
                have hrl : (runesL (dg : ByteArray).data.toList).length = 10 := by
                  have := congrArg List.length (runes_enc _ (dg : ByteArray).data.toList (Nat.le_refl _))
                  rw [List.length_map, HCNT.out] at this
                  exact this
                obtain ⟨rs, hrs⟩ : ∃ r : List Int, r = runesL (dg : ByteArray).data.toList := ⟨_, rfl⟩
                rw [← hrs] at hrf hrl
                have hcv : ∀ W : World, (convert 9 147 (.string dg)).run Tryz.prog W = .ok (.slice (some ⟨W.heap.size, 0, none⟩) 10 (grownCap W 10 0 21)) (W.drew.alloc (.cells ((rs.map (Value.int .i32)).toArray ++ Array.replicate (grownCap W 10 0 21 - 10) (.int .i32 0)) 21)) := by
                  intro W
                  have := run_runes_of_string (P := Tryz.prog) W 9 147 21 dg Tryz.underlying9 Tryz.underlying147 Tryz.underlying21 (by rw [hrf]; simp; omega)
                  rw [hrf] at this
                  simpa [hrl] using this
                have HRF := Lib.hid hrf
                have HRS := Lib.hid hrs
                clear hrf hrs
                go_wp2_with fail
                have hS0 : (W7.iter dg pos).drew.cell? ⟨w.heap.size, 7, none⟩ = some (.string dg) := by
                  show (W7.alloc _).cell? _ = _
                  rw [World.cell?_alloc_lt _ _ _ (by simp; omega)]
                  exact a7
                refine wp_region_takes (fun W' : World => W'.cell? ⟨w.heap.size, 7, none⟩ = some (.string dg)) [0, 1, 2, 3, 4, 5] 2 (by intro _ _ d _ _ h; cases d <;> exact h) (by kernel_rfl) (by kernel_rfl) hS0 ?_
                (iterate 6 (first | (refine takes_yes (v := ?_) rfl (by rfl) ?_ ?_; rotate_left; (focus ((intro w' hS'; (try dsimp only at hS'); go_simp; try (with_reducible rfl)); done)); (try simp only [Act.put, List.setIfInBounds_toArray, List.set_cons_zero, List.set_cons_succ])) | (refine takes_no rfl (by rfl) ?_; (try simp only [Act.put, List.setIfInBounds_toArray, List.set_cons_zero, List.set_cons_succ]))))
                refine takes_nil ?_
                refine wpAnyH_only 6 (by kernel_rfl) rfl (fun K hK => ?_)
                go_simp
                refine hK.out _ _ ?_ (fun _ => ?_)
                · show ((W7.iter dg pos).alloc _).cell? _ = _
                  rw [cell_old (by show _ < (W7.alloc _).heap.size; simp; omega)]
                  exact hS0
                clear hK K
                refine wpAnyH_only 7 (by kernel_rfl) rfl (fun K hK => ?_)
                go_simp
                have hVB0 : (((W7.iter dg pos).alloc (.cells ((rs.map (Value.int .i32)).toArray ++ Array.replicate (grownCap (W7.iter dg pos).drew 10 0 21 - 10) (.int .i32 0)) 21)).drew.drew).heap[w.heap.size + 1]? = W7.heap[w.heap.size + 1]? := by
                  show ((W7.alloc _).alloc _).heap[w.heap.size + 1]? = _
                  rw [Below.heap_alloc _ _ _ (by simp; omega), Below.heap_alloc _ _ _ (by omega)]
                have hVB := hVB0.trans hR7.hB
                have hcopy := copy_run (W7.iter dg pos) rs (Array.replicate (grownCap (W7.iter dg pos).drew 10 0 21 - 10) (.int .i32 0)) (grownCap (W7.iter dg pos).drew 10 0 21) (w.heap.size + 1) hrl hVB (by simp)
                rw [hcopy]
                simp only [Result.andThen]
                refine hK.out _ _ ?_ (fun _ => ?_)
                · rw [World.cell?_setCells_out _ _ _ _ _ (fun h => absurd h (by simp))]
                  show ((W7.iter dg pos).alloc _).cell? _ = _
                  rw [cell_old (by show _ < (W7.alloc _).heap.size; simp; omega)]
                  exact hS0
                clear hK K
                refine wpAnyH_done (by kernel_rfl) ?_ _
                go_wp2
                refine bodyPost_ret (v := .pointer (some ⟨w.heap.size + 1, 0, none⟩)) ?_ rfl ?_
                · simp [results, Tryz.results43, go_sem]
                · have HD : (dg : ByteArray).data.toList = digL dg.data.toList := by unfold digL; rw [if_neg d0]
                  have HK := kn_true (fi := fi) (ne := ne) HD r3 r4 r5 (p1 (by omega)) (p2 (by omega)) (p3 (by omega)) HPT.out HCNT.out
                  rw [show ra = true from r1, show rb = true from r2]
                  exact read_fin (nx := fi) hR7 hb07 hz7 hrl (by rw [if_pos n0]) HRS.out HD HK (s13.trans s37) s37 HZW.out hz2 hz1 hz3 HQ1.out HQ3.out
              · have h10' : ((cnt : Int) != 10) = true := by simp; omega
                have HF := Lib.hid (kn_false4 (ra := ra) (rb := rb) (fi := fi) (ne := ne) (mi := mi) (po := po) (gr := gr) d0 (fun h => h10 (HCNT.out.symm.trans h)))
                go_wp2
                go_ret
                refine ⟨hb07.trans (below_iter _ _ _ _ (by omega)), ?_⟩
                rw [HF.out]
                exact rfl
        · have n0' : ((ne : Int) == 0) = false := by simpa using n0
          by_cases d0 : dg.data.toList = []
          · have d0' : dg.toList.isEmpty = true := by rw [toList_eq, d0]; rfl
            obtain ⟨g0, g1, g2, g3, g4, g5, g6⟩ := hR4.b
            obtain ⟨a0, a1', a2, a3, a4, a5, a6, a7, a8⟩ := hR4.a
            go_wp2_with fail
            refine calls_gen ?_
            intro W6 hW6
            have hR6 : RW w.heap.size (.slice ca cn ck) (.slice oa on ok) (.slice a1 n1 k1) (.slice a9 n9 k9) mi po gr fi ne ((ne : Nat) : Int) ⟨#[48, 49, 50, 51, 52, 53, 54, 55, 56, 57]⟩ W6 := by rw [hW6]; exact (hR4.setd _)
            have hb46 : Below w.heap.size wr W6 := by rw [hW6]; (repeat (first | (with_reducible exact Below.refl _ _) | (with_reducible refine Below.setCell ?_ ?_ _; rotate_left; focus (first | (simp; done) | (simp; omega)))))
            have s46 : Sam w.heap.size wr W6 := by rw [hW6]; exact ((Sam.refl _ _).set _ _ (.inl rfl))
            have hz6 : w.heap.size + 2 ≤ W6.heap.size := by have := hb46.size; omega
            clear a0 a1' a2 a3 a4 a5 a6 a7 a8 g0 g1 g2 g3 g4 g5 g6 hW6
            have hb06 := hb04.trans hb46
            have hT6 := tabs_later hT hb06
            refine (Tryz.utf8_ValidString ⟨#[48, 49, 50, 51, 52, 53, 54, 55, 56, 57]⟩ W6 (by first | omega | decide) hT6).mono ?_
            rintro e W7 ⟨rfl, hb7⟩
            cases hv : Lib.validD (⟨#[48, 49, 50, 51, 52, 53, 54, 55, 56, 57]⟩ : ByteArray).data.toList
            · exact absurd hv (by decide)
            · have HVL := Lib.hid hv
              clear hv
              have hR7 := hR6.below hb7 (by omega)
              have hb07 : Below w.heap.size w W7 := hb06.trans (hb7.mono (by omega))
              have s37 : Sam w.heap.size W3 W7 := (s34.trans s46).trans (Sam.below hb7)
              have hz7 : w.heap.size + 2 ≤ W7.heap.size := by have := hb7.size; omega
              obtain ⟨a0, a1', a2, a3, a4, a5, a6, a7, a8⟩ := hR7.a
              go_wp2_with fail
              refine (Tryz.utf8_RuneCountInString ⟨#[48, 49, 50, 51, 52, 53, 54, 55, 56, 57]⟩ W7 (by first | omega | decide)).mono ?_
              rintro e W8 ⟨rfl, pos, rfl⟩
              have hpt : (ptsL (⟨#[48, 49, 50, 51, 52, 53, 54, 55, 56, 57]⟩ : ByteArray).data.toList).2 = (⟨#[48, 49, 50, 51, 52, 53, 54, 55, 56, 57]⟩ : ByteArray).data.toList.length := (valid_pts _).1 HVL.out
              have hcp := count_pts ⟨#[48, 49, 50, 51, 52, 53, 54, 55, 56, 57]⟩ (⟨#[48, 49, 50, 51, 52, 53, 54, 55, 56, 57]⟩ : ByteArray).size 0 (by omega) (by omega) (by rw [List.drop_zero, hpt, size_toList]; simp)
              rw [List.drop_zero] at hcp
              rw [show Lib.runeCount ⟨#[48, 49, 50, 51, 52, 53, 54, 55, 56, 57]⟩ = (ptsL (⟨#[48, 49, 50, 51, 52, 53, 54, 55, 56, 57]⟩ : ByteArray).data.toList).1.length from hcp.1]
              have HCP := Lib.hid hcp
              have HPT := Lib.hid hpt
              clear hcp hpt
              obtain ⟨cnt, hcnt⟩ : ∃ n, (ptsL (⟨#[48, 49, 50, 51, 52, 53, 54, 55, 56, 57]⟩ : ByteArray).data.toList).1.length = n := ⟨_, rfl⟩
              rw [hcnt]
              have HCNT := Lib.hid hcnt
              clear hcnt
              by_cases h10 : cnt = 10
              · subst h10
                have hrf : Conv.runesFrom ⟨#[48, 49, 50, 51, 52, 53, 54, 55, 56, 57]⟩ (⟨#[48, 49, 50, 51, 52, 53, 54, 55, 56, 57]⟩ : ByteArray).size 0 #[] = ((runesL (⟨#[48, 49, 50, 51, 52, 53, 54, 55, 56, 57]⟩ : ByteArray).data.toList).map (Value.int .i32)).toArray := by have := HCP.out.2 #[]; simpa using this
                have hrl : (runesL (⟨#[48, 49, 50, 51, 52, 53, 54, 55, 56, 57]⟩ : ByteArray).data.toList).length = 10 := by
                  have := congrArg List.length (runes_enc _ (⟨#[48, 49, 50, 51, 52, 53, 54, 55, 56, 57]⟩ : ByteArray).data.toList (Nat.le_refl _))
                  rw [List.length_map, HCNT.out] at this
                  exact this
                obtain ⟨rs, hrs⟩ : ∃ r : List Int, r = runesL (⟨#[48, 49, 50, 51, 52, 53, 54, 55, 56, 57]⟩ : ByteArray).data.toList := ⟨_, rfl⟩
                rw [← hrs] at hrf hrl
                have hcv : ∀ W : World, (convert 9 147 (.string ⟨#[48, 49, 50, 51, 52, 53, 54, 55, 56, 57]⟩)).run Tryz.prog W = .ok (.slice (some ⟨W.heap.size, 0, none⟩) 10 (grownCap W 10 0 21)) (W.drew.alloc (.cells ((rs.map (Value.int .i32)).toArray ++ Array.replicate (grownCap W 10 0 21 - 10) (.int .i32 0)) 21)) := by
                  intro W
                  have := run_runes_of_string (P := Tryz.prog) W 9 147 21 ⟨#[48, 49, 50, 51, 52, 53, 54, 55, 56, 57]⟩ Tryz.underlying9 Tryz.underlying147 Tryz.underlying21 (by rw [hrf]; simp; omega)
                  rw [hrf] at this
                  simpa [hrl] using this
                have HRF := Lib.hid hrf
                have HRS := Lib.hid hrs
                clear hrf hrs
                go_wp2_with fail
                have hS0 : (W7.iter ⟨#[48, 49, 50, 51, 52, 53, 54, 55, 56, 57]⟩ pos).drew.cell? ⟨w.heap.size, 7, none⟩ = some (.string ⟨#[48, 49, 50, 51, 52, 53, 54, 55, 56, 57]⟩) := by
                  show (W7.alloc _).cell? _ = _
                  rw [World.cell?_alloc_lt _ _ _ (by simp; omega)]
                  exact a7
                refine wp_region_takes (fun W' : World => W'.cell? ⟨w.heap.size, 7, none⟩ = some (.string ⟨#[48, 49, 50, 51, 52, 53, 54, 55, 56, 57]⟩)) [0, 1, 2, 3, 4, 5] 2 (by intro _ _ d _ _ h; cases d <;> exact h) (by kernel_rfl) (by kernel_rfl) hS0 ?_
                (iterate 6 (first | (refine takes_yes (v := ?_) rfl (by rfl) ?_ ?_; rotate_left; (focus ((intro w' hS'; (try dsimp only at hS'); go_simp; try (with_reducible rfl)); done)); (try simp only [Act.put, List.setIfInBounds_toArray, List.set_cons_zero, List.set_cons_succ])) | (refine takes_no rfl (by rfl) ?_; (try simp only [Act.put, List.setIfInBounds_toArray, List.set_cons_zero, List.set_cons_succ]))))
                refine takes_nil ?_
                refine wpAnyH_only 6 (by kernel_rfl) rfl (fun K hK => ?_)
                go_simp
                refine hK.out _ _ ?_ (fun _ => ?_)
                · show ((W7.iter ⟨#[48, 49, 50, 51, 52, 53, 54, 55, 56, 57]⟩ pos).alloc _).cell? _ = _
                  rw [cell_old (by show _ < (W7.alloc _).heap.size; simp; omega)]
                  exact hS0
                clear hK K
                refine wpAnyH_only 7 (by kernel_rfl) rfl (fun K hK => ?_)
                go_simp
                have hVB0 : (((W7.iter ⟨#[48, 49, 50, 51, 52, 53, 54, 55, 56, 57]⟩ pos).alloc (.cells ((rs.map (Value.int .i32)).toArray ++ Array.replicate (grownCap (W7.iter ⟨#[48, 49, 50, 51, 52, 53, 54, 55, 56, 57]⟩ pos).drew 10 0 21 - 10) (.int .i32 0)) 21)).drew.drew).heap[w.heap.size + 1]? = W7.heap[w.heap.size + 1]? := by
                  show ((W7.alloc _).alloc _).heap[w.heap.size + 1]? = _
                  rw [Below.heap_alloc _ _ _ (by simp; omega), Below.heap_alloc _ _ _ (by omega)]
                have hVB := hVB0.trans hR7.hB
                have hcopy := copy_run (W7.iter ⟨#[48, 49, 50, 51, 52, 53, 54, 55, 56, 57]⟩ pos) rs (Array.replicate (grownCap (W7.iter ⟨#[48, 49, 50, 51, 52, 53, 54, 55, 56, 57]⟩ pos).drew 10 0 21 - 10) (.int .i32 0)) (grownCap (W7.iter ⟨#[48, 49, 50, 51, 52, 53, 54, 55, 56, 57]⟩ pos).drew 10 0 21) (w.heap.size + 1) hrl hVB (by simp)
                rw [hcopy]
                simp only [Result.andThen]
                refine hK.out _ _ ?_ (fun _ => ?_)
                · rw [World.cell?_setCells_out _ _ _ _ _ (fun h => absurd h (by simp))]
                  show ((W7.iter ⟨#[48, 49, 50, 51, 52, 53, 54, 55, 56, 57]⟩ pos).alloc _).cell? _ = _
                  rw [cell_old (by show _ < (W7.alloc _).heap.size; simp; omega)]
                  exact hS0
                clear hK K
                refine wpAnyH_done (by kernel_rfl) ?_ _
                go_wp2
                refine bodyPost_ret (v := .pointer (some ⟨w.heap.size + 1, 0, none⟩)) ?_ rfl ?_
                · simp [results, Tryz.results43, go_sem]
                · have HD : (⟨#[48, 49, 50, 51, 52, 53, 54, 55, 56, 57]⟩ : ByteArray).data.toList = digL dg.data.toList := by rw [d0]; rfl
                  have HK := kn_true (fi := fi) (ne := ne) HD r3 r4 r5 (p1 (by omega)) (p2 (by omega)) (p3 (by omega)) HPT.out HCNT.out
                  rw [show ra = true from r1, show rb = true from r2]
                  exact read_fin (nx := ne) hR7 hb07 hz7 hrl (by rw [if_neg n0]) HRS.out HD HK (s13.trans s37) s37 HZW.out hz2 hz1 hz3 HQ1.out HQ3.out
              · exact absurd (HCNT.out.symm.trans ten_count) h10
          · have d0' : dg.toList.isEmpty = false := by rw [toList_eq]; simpa using d0
            obtain ⟨g0, g1, g2, g3, g4, g5, g6⟩ := hR4.b
            obtain ⟨a0, a1', a2, a3, a4, a5, a6, a7, a8⟩ := hR4.a
            go_wp2_with fail
            refine calls_gen ?_
            intro W6 hW6
            have hR6 : RW w.heap.size (.slice ca cn ck) (.slice oa on ok) (.slice a1 n1 k1) (.slice a9 n9 k9) mi po gr fi ne ((ne : Nat) : Int) dg W6 := by rw [hW6]; exact hR4
            have hb46 : Below w.heap.size wr W6 := by rw [hW6]; (repeat (first | (with_reducible exact Below.refl _ _) | (with_reducible refine Below.setCell ?_ ?_ _; rotate_left; focus (first | (simp; done) | (simp; omega)))))
            have s46 : Sam w.heap.size wr W6 := by rw [hW6]; exact (Sam.refl _ _)
            have hz6 : w.heap.size + 2 ≤ W6.heap.size := by have := hb46.size; omega
            clear a0 a1' a2 a3 a4 a5 a6 a7 a8 g0 g1 g2 g3 g4 g5 g6 hW6
            have hb06 := hb04.trans hb46
            have hT6 := tabs_later hT hb06
            refine (Tryz.utf8_ValidString dg W6 (by first | omega | decide) hT6).mono ?_
            rintro e W7 ⟨rfl, hb7⟩
            cases hv : Lib.validD (dg : ByteArray).data.toList
            · have HF := Lib.hid (kn_false3 (ra := ra) (rb := rb) (fi := fi) (ne := ne) (mi := mi) (po := po) (gr := gr) hv)
              clear hv
              go_wp2
              go_ret
              refine ⟨hb06.trans (hb7.mono (by omega)), ?_⟩
              rw [HF.out]
              exact rfl
            · have HVL := Lib.hid hv
              clear hv
              have hR7 := hR6.below hb7 (by omega)
              have hb07 : Below w.heap.size w W7 := hb06.trans (hb7.mono (by omega))
              have s37 : Sam w.heap.size W3 W7 := (s34.trans s46).trans (Sam.below hb7)
              have hz7 : w.heap.size + 2 ≤ W7.heap.size := by have := hb7.size; omega
              obtain ⟨a0, a1', a2, a3, a4, a5, a6, a7, a8⟩ := hR7.a
              go_wp2_with fail
              refine (Tryz.utf8_RuneCountInString dg W7 (by first | omega | decide)).mono ?_
              rintro e W8 ⟨rfl, pos, rfl⟩
              have hpt : (ptsL (dg : ByteArray).data.toList).2 = (dg : ByteArray).data.toList.length := (valid_pts _).1 HVL.out
              have hcp := count_pts dg (dg : ByteArray).size 0 (by omega) (by omega) (by rw [List.drop_zero, hpt, size_toList]; simp)
              rw [List.drop_zero] at hcp
              rw [show Lib.runeCount dg = (ptsL (dg : ByteArray).data.toList).1.length from hcp.1]
              have HCP := Lib.hid hcp
              have HPT := Lib.hid hpt
              clear hcp hpt
              obtain ⟨cnt, hcnt⟩ : ∃ n, (ptsL (dg : ByteArray).data.toList).1.length = n := ⟨_, rfl⟩
              rw [hcnt]
              have HCNT := Lib.hid hcnt
              clear hcnt
              by_cases h10 : cnt = 10
              · subst h10
                have hrf : Conv.runesFrom dg (dg : ByteArray).size 0 #[] = ((runesL (dg : ByteArray).data.toList).map (Value.int .i32)).toArray := by have := HCP.out.2 #[]; simpa using this
                have hrl : (runesL (dg : ByteArray).data.toList).length = 10 := by
                  have := congrArg List.length (runes_enc _ (dg : ByteArray).data.toList (Nat.le_refl _))
                  rw [List.length_map, HCNT.out] at this
                  exact this
                obtain ⟨rs, hrs⟩ : ∃ r : List Int, r = runesL (dg : ByteArray).data.toList := ⟨_, rfl⟩
                rw [← hrs] at hrf hrl
                have hcv : ∀ W : World, (convert 9 147 (.string dg)).run Tryz.prog W = .ok (.slice (some ⟨W.heap.size, 0, none⟩) 10 (grownCap W 10 0 21)) (W.drew.alloc (.cells ((rs.map (Value.int .i32)).toArray ++ Array.replicate (grownCap W 10 0 21 - 10) (.int .i32 0)) 21)) := by
                  intro W
                  have := run_runes_of_string (P := Tryz.prog) W 9 147 21 dg Tryz.underlying9 Tryz.underlying147 Tryz.underlying21 (by rw [hrf]; simp; omega)
                  rw [hrf] at this
                  simpa [hrl] using this
                have HRF := Lib.hid hrf
                have HRS := Lib.hid hrs
                clear hrf hrs
                go_wp2_with fail
                have hS0 : (W7.iter dg pos).drew.cell? ⟨w.heap.size, 7, none⟩ = some (.string dg) := by
                  show (W7.alloc _).cell? _ = _
                  rw [World.cell?_alloc_lt _ _ _ (by simp; omega)]
                  exact a7
                refine wp_region_takes (fun W' : World => W'.cell? ⟨w.heap.size, 7, none⟩ = some (.string dg)) [0, 1, 2, 3, 4, 5] 2 (by intro _ _ d _ _ h; cases d <;> exact h) (by kernel_rfl) (by kernel_rfl) hS0 ?_
                (iterate 6 (first | (refine takes_yes (v := ?_) rfl (by rfl) ?_ ?_; rotate_left; (focus ((intro w' hS'; (try dsimp only at hS'); go_simp; try (with_reducible rfl)); done)); (try simp only [Act.put, List.setIfInBounds_toArray, List.set_cons_zero, List.set_cons_succ])) | (refine takes_no rfl (by rfl) ?_; (try simp only [Act.put, List.setIfInBounds_toArray, List.set_cons_zero, List.set_cons_succ]))))
                refine takes_nil ?_
                refine wpAnyH_only 6 (by kernel_rfl) rfl (fun K hK => ?_)
                go_simp
                refine hK.out _ _ ?_ (fun _ => ?_)
                · show ((W7.iter dg pos).alloc _).cell? _ = _
                  rw [cell_old (by show _ < (W7.alloc _).heap.size; simp; omega)]
                  exact hS0
                clear hK K
                refine wpAnyH_only 7 (by kernel_rfl) rfl (fun K hK => ?_)
                go_simp
                have hVB0 : (((W7.iter dg pos).alloc (.cells ((rs.map (Value.int .i32)).toArray ++ Array.replicate (grownCap (W7.iter dg pos).drew 10 0 21 - 10) (.int .i32 0)) 21)).drew.drew).heap[w.heap.size + 1]? = W7.heap[w.heap.size + 1]? := by
                  show ((W7.alloc _).alloc _).heap[w.heap.size + 1]? = _
                  rw [Below.heap_alloc _ _ _ (by simp; omega), Below.heap_alloc _ _ _ (by omega)]
                have hVB := hVB0.trans hR7.hB
                have hcopy := copy_run (W7.iter dg pos) rs (Array.replicate (grownCap (W7.iter dg pos).drew 10 0 21 - 10) (.int .i32 0)) (grownCap (W7.iter dg pos).drew 10 0 21) (w.heap.size + 1) hrl hVB (by simp)
                rw [hcopy]
                simp only [Result.andThen]
                refine hK.out _ _ ?_ (fun _ => ?_)
                · rw [World.cell?_setCells_out _ _ _ _ _ (fun h => absurd h (by simp))]
                  show ((W7.iter dg pos).alloc _).cell? _ = _
                  rw [cell_old (by show _ < (W7.alloc _).heap.size; simp; omega)]
                  exact hS0
                clear hK K
                refine wpAnyH_done (by kernel_rfl) ?_ _
                go_wp2
                refine bodyPost_ret (v := .pointer (some ⟨w.heap.size + 1, 0, none⟩)) ?_ rfl ?_
                · simp [results, Tryz.results43, go_sem]
                · have HD : (dg : ByteArray).data.toList = digL dg.data.toList := by unfold digL; rw [if_neg d0]
                  have HK := kn_true (fi := fi) (ne := ne) HD r3 r4 r5 (p1 (by omega)) (p2 (by omega)) (p3 (by omega)) HPT.out HCNT.out
                  rw [show ra = true from r1, show rb = true from r2]
                  exact read_fin (nx := ne) hR7 hb07 hz7 hrl (by rw [if_neg n0]) HRS.out HD HK (s13.trans s37) s37 HZW.out hz2 hz1 hz3 HQ1.out HQ3.out
              · have h10' : ((cnt : Int) != 10) = true := by simp; omega
                have HF := Lib.hid (kn_false4 (ra := ra) (rb := rb) (fi := fi) (ne := ne) (mi := mi) (po := po) (gr := gr) d0 (fun h => h10 (HCNT.out.symm.trans h)))
                go_wp2
                go_ret
                refine ⟨hb07.trans (below_iter _ _ _ _ (by omega)), ?_⟩
                rw [HF.out]
                exact rfl
  · have HF := Lib.hid (kn_false (gr := gr) (dg := dg.data.toList) hgood)
    go_wp2
    all_goals first
      | (exfalso; refine hgood ⟨by assumption, by assumption, by assumption, by assumption, ?_⟩; rename_i hh; simp_all; done)
      | (refine bodyPost_ret (v := .pointer none) ?_ rfl ?_
         focus (simp [results, Tryz.results43, go_sem, *])
         refine ⟨hb03.trans ((Below.refl _ _).setCell (p := ⟨w.heap.size + 1, 1, none⟩) (by simp) _), ?_⟩
         first
           | rw [HF.out]
           | (have hf := HF.out; rw [‹ra = true›, ‹rb = true›] at hf; rw [hf])
         exact rfl)
theorem decN_le (l:List UInt8):(decN l).1<=1114111:=by
 have hb:=(l.getD 0 0).toNat_lt;unfold decN Lib.decodeN;repeat' split
 all_goals (simp only [];omega)
theorem runesL_i32:∀ (n:Nat) (l:List UInt8),l.length<=n->∀ x∈runesL l,I32 x
 | 0,l,h,x,hx=>by
  have:l=[]:=List.eq_nil_of_length_eq_zero (by omega);subst this;rw [runesL_nil] at hx;cases hx
 | n+1,l,h,x,hx=>by
  by_cases hl:l=[]\/sizeL l=0
  ·rw [runesL,dif_pos hl] at hx;cases hx
  ·simp only [not_or] at hl;rw [runesL_step hl.1 hl.2] at hx;have hp:=List.length_pos_iff.2 hl.1;rcases List.mem_cons.1 hx with rfl | hx
   ·have:=decN_le l;exact ⟨by omega,by omega⟩
   ·exact runesL_i32 n _ (by simp;omega) x hx
theorem PReadAt.later {w w1:World} {c:Value} {r:Bool} {Q:World->Value->Prop} (h:PReadAt w c r Q) (hb:Below w.heap.size w w1):PReadAt w1 c r Q:=by
 intro W hW;refine (h W (hb.trans (hW.mono hb.size))).mono ?_;rintro e W2 ⟨⟨a,n,k,he,hQ⟩,hb2⟩;exact ⟨⟨a,n,k,he,fun W3 h3=>hQ W3 ⟨h3.1,fun j hj=>h3.2 j (hj.imp (fun q=>Nat.lt_of_lt_of_le q hb.size) id)⟩⟩,hb2⟩
theorem num_parts {l:List UInt8} (h:isNumL l=true):(wholeL l).all isDig=true/\(fracL l).all isDig=true/\0<(wholeL l).length/\(wholeL l).length+(fracL l).length<=30:=by
 simp only [isNumL,figsL,Bool.and_eq_true,Bool.or_eq_true,decide_eq_true_eq] at h;have hw:=h.1.1.1.1;have hf:=h.1.1.1.2;simp only [numeralsL,Bool.and_eq_true] at hw;refine ⟨hw.1,?_,?_,h.1.1.2⟩
 ·rcases hf with hf | hf
  ·have hp:¬(absL l).idxOf 46<(absL l).length:=by simpa [pointL] using hf
   have:fracL l=[]:=by unfold fracL;exact List.drop_of_length_le (by omega)
   rw [this];rfl
  ·simp only [numeralsL,Bool.and_eq_true] at hf;exact hf.1
 ·have:=hw.2
  cases hl:wholeL l with
  | nil=>rw [hl] at this;cases this
  | cons a b=>simp
structure Tabs (w:World):Prop where
 utf8:Lib.Utf8Tabs 3 4 w
 err:ErrT w
theorem Tabs.below {w w':World} (h:Tabs w) (hb:Below w.heap.size w w'):Tabs w':=⟨tabs_later h.utf8 hb,h.err.below hb⟩
theorem readP_parts {l:List UInt8} {f:Fo} (h:readP l = .ok f):parseR l = .ok f/\chkL f=none:=by
 unfold readP at h
 cases hp:parseR l with
 | error e=>rw [hp] at h;cases h
 | ok g =>
  rw [hp] at h;dsimp only at h
  cases hc:chkL g with
  | some e=>rw [hc] at h;cases h
  | none=>rw [hc] at h;cases h;exact ⟨rfl,hc⟩
theorem FrmsAt.below {w w':World} (h:FrmsAt w) (hb:Below w.heap.size w w'):FrmsAt w' :=
 h.fr (F:=noF) (F':=noF) (B:=2+1) (Fr.of hb) (fun _ q=>q.elim) (Nat.lt_succ_self _)
structure CmpEnv (w:World):Prop where
 tabs:Tabs w
 names:NamesAt w
 forms:FrmsAt w
theorem CmpEnv.below {w w':World} (h:CmpEnv w) (hb:Below w.heap.size w w'):CmpEnv w':=⟨h.tabs.below hb,h.names.below hb,h.forms.below hb⟩
structure PhrAt (P q g mb:Nat) (f:Fo) (vC vI:Value) (rs:List (Value×Value)) (mi po gr:Int) (fi ne:Nat) (dg:List UInt8) (cv ov:Value) (w:World):Prop where
 p0:w.cell? ⟨P,0,none⟩=some (.pointer (some ⟨q,0,none⟩))
 p1:w.cell? ⟨P,1,none⟩=some (.pointer (some ⟨g,0,none⟩))
 prog:ProgAt q (MkS.all f) vC vI rs mb w
 gl:g<w.heap.size
 loc:LocX w g mi po gr fi ((if ne=0 then fi else ne:Nat):Int) (runesL (digL dg))
 g0:w.cell? ⟨g,0,none⟩=some cv
 g1:w.cell? ⟨g,1,none⟩=some ov
theorem PhrAt.below {P q g mb:Nat} {f:Fo} {vC vI:Value} {rs:List (Value×Value)} {mi po gr:Int} {fi ne:Nat} {dg:List UInt8} {cv ov:Value} {w w':World} (h:PhrAt P q g mb f vC vI rs mi po gr fi ne dg cv ov w) (hb:Below w.heap.size w w'):PhrAt P q g mb f vC vI rs mi po gr fi ne dg cv ov w':=by
 have hf:Fr noF noF w w':=Fr.of hb;exact ⟨hf.cell h.p0 id,hf.cell h.p1 id,h.prog.below hb,Nat.lt_of_lt_of_le h.gl hb.size,h.loc.below hb h.gl,hf.cell h.g0 id,hf.cell h.g1 id⟩
def CompQ (kn:Bool) (r:Except (Nat×Nat) Fo) (mi po gr:Int) (fi ne:Nat) (dg:List UInt8) (Qc Qo:World->Value->Prop) (w:World) (e:Ending) (w':World):Prop :=
 Below w.heap.size w w' /\
 if kn=false then e = .returned (.tuple #[.pointer none,errV 8])
 else match r with
  | .error (n,a)=>∃ b,e = .returned (.tuple #[.pointer none,.iface 101 (.pointer (some ⟨b,0,none⟩))])/\w'.cell? ⟨b,0,none⟩=some (.int .i64 n)/\w'.cell? ⟨b,1,none⟩=some (.int .i64 a)
  | .ok f=>∃ P q g mb vC vI rs cv ov,e = .returned (.tuple #[.pointer (some ⟨P,0,none⟩),.nilIface])/\PhrAt P q g mb f vC vI rs mi po gr fi ne dg cv ov w'/\(∀ W,Below w'.heap.size w' W->Qc W cv)/\∀ W,Below w'.heap.size w' W->Qo W ov
set_option maxHeartbeats 4000000 in
theorem lcompile_any (s:ByteArray) (c o:Value) (ra rb:Bool) (mi po gr:Int) (fi ne:Nat) (dg:ByteArray) (Qc Qo:World->Value->Prop) (w:World) (hs:s.size<=1000000) (hd:dg.size<=1000000) (hfi:fi<=255) (hne:ne<=255)
  (hc:PReadAt w c ra Qc) (ho:PReadAt w o rb Qo) (hco:(∃ a n k,c = .slice a n k)/\∃ a n k,o = .slice a n k) (hE:CmpEnv w) :
  Calls Tryz.prog 33 #[.string s,locv c o mi po gr fi ne dg] w (CompQ (knownL ra rb mi po gr fi ne dg.data.toList) (readP s.data.toList) mi po gr fi ne dg.data.toList Qc Qo w):=by
 have HC:=Lib.hid hc;have HO:=Lib.hid ho;have HCO:=Lib.hid hco;have HE:=Lib.hid hE;clear hc ho hco hE;go_enter Tryz.func33,Tryz.ntmps33
 go_wp2_with fail
 refine calls_gen ?_;intro W hW;have hb:Below w.heap.size w W:=by rw [hW];exact (Below.refl _ _).alloc (Nat.le_refl _) _
 clear hW;refine (read_any c o ra rb mi po gr fi ne dg Qc Qo W hd hfi hne (HC.out.later hb) (HO.out.later hb) HCO.out (HE.out.below hb).tabs.utf8).mono ?_;rintro e w1 ⟨hb1,hres⟩;have hb01:Below w.heap.size w w1:=hb.trans (hb1.mono hb.size);obtain ⟨kn,hkn⟩:∃ kn,knownL ra rb mi po gr fi ne dg.data.toList=kn:=⟨_,rfl⟩;rw [hkn] at hres;have HKN:=Lib.hid hkn;clear hkn
 cases kn
 ·rw [if_neg (by simp)] at hres;subst hres;clear hb hb1;go_wp2
  go_ret2
  refine ⟨hb01,?_⟩;rw [if_pos HKN.out];rfl
 ·rw [if_pos rfl] at hres;obtain ⟨g,cv,ov,rfl,hg0,hg1,hX,c0,c1,hqc,hqo⟩:=hres;have HX:=Lib.hid hX;have HQC:=Lib.hid hqc;have HQO:=Lib.hid hqo;have HC0:=Lib.hid c0;have HC1:=Lib.hid c1;clear hX hqc hqo hb hb1 c0 c1;obtain ⟨r,hr⟩:∃ r,readP s.data.toList=r:=⟨_,rfl⟩;have HRM:=Lib.hid (read_msg s w1 (by omega) (HE.out.below hb01).tabs.utf8 (HE.out.below hb01).names);rw [hr] at HRM ⊢;have HR:=Lib.hid hr;clear hr;go_wp2_with fail
  refine HRM.out.mono ?_;rintro e w2 ⟨hq,hb2⟩;have hb02:=hb01.trans (hb2.mono hb01.size);clear HRM
  cases r with
  | error en =>
   obtain ⟨n,a⟩:=en;obtain ⟨v,b,rfl,⟨va,vn,vk,rfl⟩,f0,f1⟩:=hq;clear hb2;go_wp2
   go_ret2
   refine ⟨hb02,?_⟩;rw [if_neg (by rw [HKN.out];simp),HR.out];exact ⟨b,rfl,f0,f1⟩
  | ok f =>
   obtain ⟨⟨a,k,vs,rfl,hrow,hnd⟩,hgd⟩:=hq;obtain ⟨hp1,hp2⟩:=readP_parts HR.out;obtain ⟨k1,k2⟩:=read_cok hp1 hp2;have henv:=HE.out.below hb02;have HP:=Lib.hid (prog_any f w2 a k vs hrow hnd (Nat.le_refl _) hgd.msg hgd.wf k1 (by have:=hgd.len;omega) (by omega) henv.forms henv.names);obtain ⟨L,hL⟩:∃ L,f.len=L:=⟨_,rfl⟩;rw [hL] at HP ⊢;clear hrow hnd hgd hp1 hp2 k1 k2 henv hL;go_wp2_with fail
   refine HP.out.mono ?_;rintro e w3 ⟨q,vC,vI,rs,mb,rfl,hpa,hq0,hb3⟩;have hb23:=hb2.trans (hb3.mono hb2.size);have hb03:=hb02.trans (hb3.mono hb02.size);have HPA:=Lib.hid hpa;clear hpa HP;go_wp2
   go_ret2
   obtain ⟨z,hz⟩:∃ z,w3.heap.size=z:=⟨_,rfl⟩;have hcm:=fun i=>cell_made w3 #[.pointer (some ⟨q,0,none⟩),.pointer (some ⟨g,0,none⟩)] 90 (0,0) i
   have hal:Below w3.heap.size w3 (w3.alloc (.cells #[.pointer (some ⟨q,0,none⟩),.pointer (some ⟨g,0,none⟩)] 90)):=(Below.refl _ _).alloc (Nat.le_refl _) _;have hb14:=hb23.trans (hal.mono hb23.size);have hf14:Fr noF noF w1 _:=Fr.of hb14;refine ⟨hb03.trans (hal.mono hb03.size),?_⟩;rw [if_neg (by rw [HKN.out];simp),HR.out];refine ⟨_,q,g,mb,vC,vI,rs,cv,ov,rfl,⟨hcm 0,hcm 1,HPA.out.below hal,Nat.lt_of_lt_of_le hg1 hb14.size,HX.out.below hb14 hg1,hf14.cell HC0.out id,hf14.cell HC1.out id⟩,fun W hW=>HQC.out W (hb14.trans (hW.mono hb14.size)),fun W hW=>HQO.out W (hb14.trans (hW.mono hb14.size))⟩
set_option maxHeartbeats 2000000 in
theorem tell_f (b:Nat) (n a:Int) (w:World) (hE:ErrT w) (h0:w.cell? ⟨b,0,none⟩=some (.int .i64 n)) (h1:w.cell? ⟨b,1,none⟩=some (.int .i64 a)) :
  Calls Tryz.prog 30 #[.iface 101 (.pointer (some ⟨b,0,none⟩))] w (TellPost n a w):=by
 have HE:=Lib.hid hE;have H0:=Lib.hid h0;have H1:=Lib.hid h1;have hlt:b<w.heap.size:=World.block_lt_of_cell? w _ h0;clear hE h0 h1;go_enter Tryz.func30,Tryz.ntmps30
 go_wp2_with fail
 refine calls_gen ?_;intro W hW;have hb:Below w.heap.size w W:=by rw [hW];exact ((Below.refl _ _).alloc (Nat.le_refl _) _).alloc (by simp) _
 have hz:w.heap.size+2<=W.heap.size:=by rw [hW];simp
 have hA:W.cell? ⟨w.heap.size,0,none⟩=some (.pointer none)/\W.frozen? ⟨w.heap.size,0,none⟩=false:=by rw [hW];constructor<;>go_simp
 clear hW;refine (as_hit_f ⟨b,0,none⟩ ⟨w.heap.size,0,none⟩ _ W (HE.out.below hb) hA.1 hA.2).mono ?_;rintro e w2 ⟨rfl,p1,p2,p3,p4,hw2⟩;have hb2:Below w.heap.size W w2:=by rw [hw2];exact (((((Below.refl _ _).alloc (by omega) _).alloc (by simp;omega) _).alloc (by simp;omega) _).alloc (by simp;omega) _).setCell (by simp) _
 have hb02:=hb.trans hb2;have hC:w2.cell? ⟨w.heap.size,0,none⟩=some (.pointer (some ⟨b,0,none⟩)):=by
  rw [hw2,cellSet,if_pos rfl];rw [World.cell?_alloc_lt _ _ _ (by simp;omega),World.cell?_alloc_lt _ _ _ (by simp;omega),World.cell?_alloc_lt _ _ _ (by simp;omega),World.cell?_alloc_lt _ _ _ (by show w.heap.size<_;omega),hA.1];rfl
 have d0:=(hb02.cell (p:=⟨b,0,none⟩) hlt).trans H0.out;have d1:=(hb02.cell (p:=⟨b,1,none⟩) hlt).trans H1.out;clear hw2 hb2 hA;have hS0:w2.drew.cell? ⟨w.heap.size,0,none⟩=some (.pointer (some ⟨b,0,none⟩))/\w2.drew.cell? ⟨b,0,none⟩=some (.int .i64 n)/\w2.drew.cell? ⟨b,1,none⟩=some (.int .i64 a):=⟨hC,d0,d1⟩;go_wp2_with fail
 refine wp_region_takes (fun W':World=>W'.cell? ⟨w.heap.size,0,none⟩=some (.pointer (some ⟨b,0,none⟩))/\W'.cell? ⟨b,0,none⟩=some (.int .i64 n)/\W'.cell? ⟨b,1,none⟩=some (.int .i64 a)) [0,1,2,3,4,5,6,7,8,9] 0 (by intro _ _ d _ _ h;cases d<;>exact h) (by kernel_rfl) (by kernel_rfl) hS0 ?_;(iterate 10 (first | (refine takes_yes (v:=?_) rfl (by rfl) ?_ ?_;rotate_left;(focus ((intro w' hS';(try dsimp only at hS');go_simp;try (with_reducible rfl));done));(try simp only [Act.put,List.setIfInBounds_toArray,List.set_cons_zero,List.set_cons_succ])) | (refine takes_no rfl (by rfl) ?_;(try simp only [Act.put,List.setIfInBounds_toArray,List.set_cons_zero,List.set_cons_succ]))))
 refine takes_nil ?_;refine wpAnyH_done (by kernel_rfl) ?_ _;go_wp2
 go_ret2
 exact ⟨rfl,hb02.drew⟩
def PCompQ (kn:Bool) (r:Except (Nat×Nat) Fo) (mi po gr:Int) (fi ne:Nat) (dg:List UInt8) (Qc Qo:World->Value->Prop) (w:World) (e:Ending) (w':World):Prop :=
 Below w.heap.size w w' /\
 if kn=false then e = .returned (.tuple #[.pointer none,.int .i64 8,.int .i64 0])
 else match r with
  | .error (n,a)=>e = .returned (.tuple #[.pointer none,.int .i64 (n:Nat),.int .i64 (a:Nat)])
  | .ok f=>∃ P q g mb vC vI rs cv ov,e = .returned (.tuple #[.pointer (some ⟨P,0,none⟩),.int .i64 0,.int .i64 0])/\PhrAt P q g mb f vC vI rs mi po gr fi ne dg cv ov w'/\(∀ W,Below w'.heap.size w' W->Qc W cv)/\∀ W,Below w'.heap.size w' W->Qo W ov
set_option maxHeartbeats 4000000 in
theorem pcompile_any (s:ByteArray) (c o:Value) (ra rb:Bool) (mi po gr:Int) (fi ne:Nat) (dg:ByteArray) (Qc Qo:World->Value->Prop) (w:World) (hs:s.size<=1000000) (hd:dg.size<=1000000) (hfi:fi<=255) (hne:ne<=255)
  (hc:PReadAt w c ra Qc) (ho:PReadAt w o rb Qo) (hco:(∃ a n k,c = .slice a n k)/\∃ a n k,o = .slice a n k) (hE:CmpEnv w) :
  Calls Tryz.prog 20 #[.string s,locv c o mi po gr fi ne dg] w (PCompQ (knownL ra rb mi po gr fi ne dg.data.toList) (readP s.data.toList) mi po gr fi ne dg.data.toList Qc Qo w):=by
 have HC:=Lib.hid hc;have HO:=Lib.hid ho;have HCO:=Lib.hid hco;have HE:=Lib.hid hE;clear hc ho hco hE;go_enter Tryz.func20,Tryz.ntmps20
 go_wp2_with fail
 refine calls_gen ?_;intro W hW;have hb:Below w.heap.size w W:=by rw [hW];exact (Below.refl _ _).alloc (Nat.le_refl _) _
 clear hW;refine (lcompile_any s c o ra rb mi po gr fi ne dg Qc Qo W hs hd hfi hne (HC.out.later hb) (HO.out.later hb) HCO.out (HE.out.below hb)).mono ?_;rintro e w1 ⟨hb1,hres⟩;have hb01:Below w.heap.size w w1:=hb.trans (hb1.mono hb.size);have henv:=HE.out.below hb01;obtain ⟨kn,hkn⟩:∃ kn,knownL ra rb mi po gr fi ne dg.data.toList=kn:=⟨_,rfl⟩;rw [hkn] at hres;have HKN:=Lib.hid hkn;clear hkn
 cases kn
 ·rw [if_pos rfl] at hres;subst hres;have HT:=Lib.hid (tell_e 8 w1 henv.tabs.err);clear hb hb1 henv;go_wp2_with fail
  refine HT.out.mono ?_;rintro e w2 ⟨rfl,hb2⟩;have hb02:=hb01.trans (hb2.mono hb01.size);clear HT hb2;go_wp2
  go_ret3
  refine ⟨hb02,?_⟩;rw [if_pos HKN.out];rfl
 ·rw [if_neg (by simp)] at hres;obtain ⟨r,hr⟩:∃ r,readP s.data.toList=r:=⟨_,rfl⟩;rw [hr] at hres;have HR:=Lib.hid hr;clear hr
  cases r with
  | error en =>
   obtain ⟨n,a⟩:=en;obtain ⟨b,rfl,f0,f1⟩:=hres;have HT:=Lib.hid (tell_f b n a w1 henv.tabs.err f0 f1);clear hb hb1 henv f0 f1;go_wp2_with fail
   refine HT.out.mono ?_;rintro e w2 ⟨rfl,hb2⟩;have hb02:=hb01.trans (hb2.mono hb01.size);clear HT hb2;go_wp2
   go_ret3
   refine ⟨hb02,?_⟩;rw [if_neg (by rw [HKN.out];simp),HR.out];rfl
  | ok f =>
   obtain ⟨P,q,g,mb,vC,vI,rs,cv,ov,rfl,hph,hqc,hqo⟩:=hres;have HT:=Lib.hid (tell_nil w1);have HP:=Lib.hid hph;have HQ:=Lib.hid (And.intro hqc hqo);clear hb hb1 henv hph hqc hqo;go_wp2_with fail
   refine HT.out.mono ?_;rintro e w2 ⟨rfl,hb2⟩;have hb02:=hb01.trans (hb2.mono hb01.size);have HP2:=Lib.hid (HP.out.below hb2);clear HT;go_wp2
   go_ret3
   refine ⟨hb02,?_⟩;rw [if_neg (by rw [HKN.out];simp),HR.out];exact ⟨P,q,g,mb,vC,vI,rs,cv,ov,rfl,HP2.out,fun W hW=>HQ.out.1 W (hb2.trans (hW.mono hb2.size)),fun W hW=>HQ.out.2 W (hb2.trans (hW.mono hb2.size))⟩
end Go.Proofs.YthpldolmpinnhaaGreatDoor
