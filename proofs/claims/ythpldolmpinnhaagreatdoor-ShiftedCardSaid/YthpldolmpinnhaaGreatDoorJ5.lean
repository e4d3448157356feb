import Derived.Test.YthpldolmpinnhaaGreatDoorJ4
import Derived.Lib.OthersKept
namespace Go.Proofs.YthpldolmpinnhaaGreatDoor
open Go Go.RowKit
set_option maxRecDepth 10000
structure InL where
 op:Nat
 pos:Nat
 v:Nat
 k:List Nat
 tg:List Nat
def frmL:Nat->Wd
 | 1=>[107] | 2=>[110] | 3=>[110] | 4=>[110,118] | 7=>[118,116] | 8=>[116,116,116,116,116,116] | 9=>[116,116,116,116,116,116] | 10=>[110,42] | 11=>[116] | _=>[]
def tabB:List Nat->List Nat->Wd
 | [],t=>twoL (t.headD 0)
 | a::k,t=>twoL a++(twoL (t.headD 0)++tabB k t.tail)
def insB:Wd->Nat->List Nat->List Nat->Wd
 | [],_,_,_=>[]
 | c::f,v,k,t =>
  if c=107\/c=110 then twoL (k.headD 0)++insB f v k.tail t
  else if c=118 then fourL v++insB f v k t
  else if c=116 then twoL (t.headD 0)++insB f v k t.tail
  else twoL k.length++(tabB k t++insB f v [] (t.drop (k.length+1)))
def okB:Wd->Nat->Nat->Bool
 | [],_,_=>true
 | c::f,a,b =>
  if c=107\/c=110 then decide (0<a) && okB f (a - 1) b
  else if c=118 then okB f a b
  else if c=116 then decide (0<b) && okB f a (b - 1)
  else decide (c=42) && (decide (a<b) && okB f 0 (b - (a+1)))
def insX (i:InL):Wd:=bt i.op::insB (frmL i.op) i.v i.k i.tg
def FrmsAt (w:World):Prop:=∀ op,op<12->w.cell? ⟨2,op,none⟩=some (strv (frmL op))
structure InsAt (w:World) (g o:Nat) (i:InL) (kv tv:Value):Prop where
 c0:w.cell? ⟨g,o,none⟩=some (.int .i64 i.op)
 c1:w.cell? ⟨g,o+1,none⟩=some (.int .i64 i.pos)
 c2:w.cell? ⟨g,o+2,none⟩=some (.int .i64 i.v)
 c3:w.cell? ⟨g,o+3,none⟩=some kv
 c4:w.cell? ⟨g,o+4,none⟩=some tv
 k:NumsAt w kv i.k
 t:NumsAt w tv i.tg
structure InsOk (i:InL):Prop where
 op:i.op<12
 v:i.v<=4000000000
 k:∀ x∈i.k,x<=4000000000
 t:∀ x∈i.tg,x<=4000000000
 len:i.k.length<=1000000
 ok:okB (frmL i.op) i.k.length i.tg.length=true
theorem NumsAt.slice {w:World} {v:Value} {l:List Nat} (h:NumsAt w v l):∃ a cap,v = .slice a l.length cap:=by
 obtain ⟨a,cap,h1,_⟩:=h.ex;exact ⟨a,cap,h1⟩
structure ApC (w:World) (v0:Value) (B K T I:Nat) (s:ByteArray) (j:Nat) (done:Wd) (ks ts:List Nat) (wr:World):Prop where
 ex:∃ v kv tv,wr.cell? ⟨B,0,none⟩=some v/\wr.cell? ⟨K,0,none⟩=some kv/\wr.cell? ⟨T,0,none⟩=some tv/\BRow wr v done/\NumsAt wr kv ks/\NumsAt wr tv ts/\Fr (rowF v0) (rowF v) w wr /\
  ¬rowF v B/\¬rowF v K/\¬rowF v T/\¬rowF v I/\(∀ q,rowF kv q\/rowF tv q->q<w.heap.size/\¬rowF v0 q)
 it:wr.heap[I]? = some (.stringIter s j)
 zB:wr.frozen? ⟨B,0,none⟩=false
 zK:wr.frozen? ⟨K,0,none⟩=false
 zT:wr.frozen? ⟨T,0,none⟩=false
 lo:w.heap.size<=B/\w.heap.size<=K/\w.heap.size<=T/\w.heap.size<=I
 ne:B≠K/\B≠T/\K≠T/\I≠B/\I≠K/\I≠T
theorem NumsAt.fr {w w':World} {F F':Nat->Prop} {v:Value} {l:List Nat} (h:NumsAt w v l) (hf:Fr F F' w w') (hv:∀ q,rowF v q->¬F q):NumsAt w' v l:=by
 obtain ⟨a,cap,e,h1,h2,h3⟩:=h.ex;refine ⟨a,cap,e,h1,h2,fun j hj=>?_⟩;obtain ⟨b,eb,hb⟩:=h3 j hj;exact ⟨b,eb,hf.cell hb (by rw [addr_add];exact hv _ (by rw [e,eb];rfl))⟩
theorem tail_own {v:Value} {q:Nat} (h:rowF (tailV v) q):rowF v q:=by
 unfold tailV at h;split at h
 ·next a n cap =>
  dsimp only [rowF,Value.ownBlock] at h ⊢;split at h
  ·exact h
  ·rw [addr_add] at h;exact h
 ·exact h
section
variable {w wr:World} {v0:Value} {B K T I j:Nat} {s:ByteArray} {done:Wd} {ks ts:List Nat} {x:Nat}
theorem ApC.swap (h:ApC w v0 B K T I s j done ks ts wr):ApC w v0 B T K I s j done ts ks wr:=by
 obtain ⟨v,kv,tv,c1,c2,c3,hr,hk,ht,hf,n1,n2,n3,n4,hq⟩:=h.ex;obtain ⟨e1,e2,e3,e4,e5,e6⟩:=h.ne;obtain ⟨l1,l2,l3,l4⟩:=h.lo;exact ⟨⟨v,tv,kv,c1,c3,c2,hr,ht,hk,hf,n1,n3,n2,n4,fun q hh=>hq q hh.symm⟩,h.it,h.zB,h.zT,h.zK,⟨l1,l3,l2,l4⟩,⟨e2,e1,e3.symm,e4,e6,e5⟩⟩
theorem ApC.step {f:FuncId} (hs:StepP f) (h:ApC w v0 B K T I s j done (x::ks) ts wr) (hx:x<=4000000000) (hl:done.length<=100000000) :
  Calls Tryz.prog f #[.pointer (some ⟨B,0,none⟩),.pointer (some ⟨K,0,none⟩)] wr fun e w'=>e = .returned (.tuple #[])/\ApC w v0 B K T I s j (done++twoL x) ks ts w':=by
 obtain ⟨v,kv,tv,c1,c2,c3,hr,hk,ht,hf,n1,n2,n3,n4,hq⟩:=h.ex;obtain ⟨e1,e2,e3,e4,e5,e6⟩:=h.ne;obtain ⟨l1,l2,l3,l4⟩:=h.lo;have nv:∀ q,rowF kv q\/rowF tv q->¬rowF v q/\q≠B/\q≠K:=fun q hh=>by
  obtain ⟨a,b⟩:=hq q hh;exact ⟨fun c=>(hf.fp q c).elim b (by omega),by omega,by omega⟩
 refine (hs B K v kv done x ks wr c1 h.zB c2 h.zK hr hk e1 n1 n2 (fun q hh=>nv q (.inl hh)) hx hl).mono ?_;rintro e w' ⟨rfl,⟨v',d1,d2,d3,d4⟩,d5,d6,d7⟩;have lB:=World.block_lt_of_cell? _ _ c1;have lK:=World.block_lt_of_cell? _ _ c2;have lT:=World.block_lt_of_cell? _ _ c3;have lI:I<wr.heap.size:=(Array.getElem?_eq_some_iff.1 h.it).1;have row:∀ q,q<wr.heap.size->¬rowF v q->¬rowF v' q:=fun q a b c=>(d3 q c).elim b (by omega)
 have nF:∀ q,q≠B->q≠K->¬rowF v q->¬(q=B\/q=K\/rowF v q):=fun q a b c=>by rintro (e | e | e);exact a e;exact b e;exact c e
 refine ⟨rfl,⟨v',_,tv,d1,d5,d4.cell c3 (nF _ e2.symm e3.symm n3),d2,hk.tail.fr d4 (fun q hh=>nF _ (nv q (.inl (tail_own hh))).2.1 (nv q (.inl (tail_own hh))).2.2 (nv q (.inl (tail_own hh))).1),ht.fr d4 (fun q hh=>nF _ (nv q (.inr hh)).2.1 (nv q (.inr hh)).2.2 (nv q (.inr hh)).1),?_,row _ lB n1,row _ lK n2,row _ lT n3,row _ lI n4,fun q hh=>hq q (hh.imp tail_own id)⟩,
  (d4.keep I lI (nF _ e4 e5 n4)).trans h.it,d6,d7,(d4.frozen lT (nF _ e2.symm e3.symm n3)).trans h.zT,h.lo,h.ne⟩
 refine ⟨d4.os.trans hf.os,d4.tape.trans hf.tape,d4.output.trans hf.output,Nat.le_trans hf.size d4.size,fun q hh hn=>(d4.keep q (Nat.lt_of_lt_of_le hh hf.size) (nF q (by omega) (by omega) (fun c=>(hf.fp q c).elim hn (by omega)))).trans (hf.keep q hh hn),fun q hh=>?_⟩;exact (d3 q hh).elim (hf.fp q) (fun c => .inr (Nat.le_trans hf.size c))
theorem ApC.con (h:ApC w v0 B K T I s j done (x::ks) ts wr) (hx:x<=4000000000) (hl:done.length<=100000000) :
  Calls Tryz.prog 88 #[.pointer (some ⟨B,0,none⟩),.pointer (some ⟨K,0,none⟩)] wr fun e w'=>e = .returned (.tuple #[])/\ApC w v0 B K T I s j (done++twoL x) ks ts w':=h.step step_any.1 hx hl
theorem ApC.tar (h:ApC w v0 B K T I s j done ks (x::ts) wr) (hx:x<=4000000000) (hl:done.length<=100000000) :
  Calls Tryz.prog 89 #[.pointer (some ⟨B,0,none⟩),.pointer (some ⟨T,0,none⟩)] wr fun e w'=>e = .returned (.tuple #[])/\ApC w v0 B K T I s j (done++twoL x) ks ts w' :=
 (h.swap.step step_any.2 hx hl).mono fun _ _ ⟨a,b⟩=>⟨a,b.swap⟩
theorem ApC.more (h:ApC w v0 B K T I s j done ks ts wr) {v v':Value} {d:Wd} {w':World} (hv:wr.cell? ⟨B,0,none⟩=some v) (hr':BRow w' v' d) (d4:Fr (rowF v) (rowF v') wr w'):ApC w v0 B K T I s j d ks ts (w'.setCell ⟨B,0,none⟩ v'):=by
 obtain ⟨v1,kv,tv,c1,c2,c3,hr,hk,ht,hf,n1,n2,n3,n4,hq⟩:=h.ex;obtain ⟨e1,e2,e3,e4,e5,e6⟩:=h.ne;obtain ⟨l1,l2,l3,l4⟩:=h.lo;obtain rfl:v1=v:=Option.some.inj (c1.symm.trans hv);have lB:=World.block_lt_of_cell? _ _ c1;have lK:=World.block_lt_of_cell? _ _ c2;have lT:=World.block_lt_of_cell? _ _ c3;have lI:I<wr.heap.size:=(Array.getElem?_eq_some_iff.1 h.it).1;have row:∀ q,q<wr.heap.size->¬rowF v1 q->¬rowF v' q:=fun q a b c=>(d4.fp q c).elim b (by omega)
 have nv:∀ q,rowF kv q\/rowF tv q->¬rowF v1 q/\q≠B:=fun q hh=>by
  obtain ⟨a,b⟩:=hq q hh;exact ⟨fun c=>(hf.fp q c).elim b (by omega),by omega⟩
 have f2:Fr (fun q=>q=B\/rowF v1 q) (fun q=>q=B\/rowF v1 q) wr (w'.setCell ⟨B,0,none⟩ v'):=(d4.wide (fun q hh => .inr hh)).set _ (.inl (.inl rfl));have fz:∀ a,(w'.setCell ⟨B,0,none⟩ v').frozen? a=w'.frozen? a:=fun a=>World.frozen?_setCell ..
 refine ⟨⟨v',kv,tv,cell_put (d4.cell c1 n1) _,f2.cell c2 (fun q=>q.elim e1.symm n2),f2.cell c3 (fun q=>q.elim e2.symm n3),ownsRow_setCell_other hr' (row _ lB n1) _,hk.fr f2 (fun q hh c=>c.elim (nv q (.inl hh)).2 (nv q (.inl hh)).1),ht.fr f2 (fun q hh c=>c.elim (nv q (.inr hh)).2 (nv q (.inr hh)).1),
  (hf.trans d4).set _ (.inr l1),row _ lB n1,row _ lK n2,row _ lT n3,row _ lI n4,hq⟩,(f2.keep I lI (fun q=>q.elim e4 n4)).trans h.it,?_,?_,?_,h.lo,h.ne⟩
 ·rw [fz,d4.frozen lB n1];exact h.zB
 ·rw [fz,d4.frozen lK n2];exact h.zK
 ·rw [fz,d4.frozen lT n3];exact h.zT
def lenAt (w:World) (K:Nat):Nat:=match w.cell? ⟨K,0,none⟩ with | some (.slice _ n _)=>n | _=>0
theorem ApC.lenK (h:ApC w v0 B K T I s j done ks ts wr):lenAt wr K=ks.length:=by
 obtain ⟨v,kv,tv,c1,c2,c3,hr,hk,_⟩:=h.ex;obtain ⟨a,c,rfl⟩:=hk.slice;simp [lenAt,c2]
theorem ApC.next (h:ApC w v0 B K T I s j done ks ts wr) (m:Nat):ApC w v0 B K T I s m done ks ts (wr.iterAt I s m):=by
 obtain ⟨v,kv,tv,c1,c2,c3,hr,hk,ht,hf,n1,n2,n3,n4,hq⟩:=h.ex;obtain ⟨e1,e2,e3,e4,e5,e6⟩:=h.ne;obtain ⟨l1,l2,l3,l4⟩:=h.lo;have f2:Fr (fun q=>q=I) (fun q=>q=I) wr (wr.iterAt I s m):=⟨rfl,rfl,rfl,Nat.le_of_eq (Lib.iterAt_size _ _ _ _).symm,fun k _ hn=>Lib.iterAt_other _ _ _ _ _ hn,fun _ q => .inl q⟩;refine ⟨⟨v,kv,tv,f2.cell c1 e4.symm,f2.cell c2 e5.symm,f2.cell c3 e6.symm,f2.own hr (fun q a b=>n4 (b▸a)),hk.fr f2 (fun q hh c=>by have:=(hq q (.inl hh)).1;omega),ht.fr f2 (fun q hh c=>by have:=(hq q (.inr hh)).1;omega),?_,n1,n2,n3,n4,hq⟩,
  Lib.iterAt_heap _ _ _ _ _ h.it,(f2.frozen (World.block_lt_of_cell? _ _ c1) e4.symm).trans h.zB,(f2.frozen (World.block_lt_of_cell? _ _ c2) e5.symm).trans h.zK,(f2.frozen (World.block_lt_of_cell? _ _ c3) e6.symm).trans h.zT,h.lo,h.ne⟩
 exact ⟨hf.os,hf.tape,hf.output,Nat.le_trans hf.size f2.size,fun q hh hn=>(f2.keep q (Nat.lt_of_lt_of_le hh hf.size) (by omega)).trans (hf.keep q hh hn),hf.fp⟩
end
theorem frmL_ascii (op:Nat):∀ c∈frmL op,c.toNat<128:=by
 unfold frmL;split<;>decide
theorem boxes2 (w:World) (a b:Value) (t:TypeId):∃ W,W=((w.alloc (.cells #[a] t)).alloc (.cells #[b] t)).drew/\(W.cell? ⟨w.heap.size,0,none⟩=some a/\W.frozen? ⟨w.heap.size,0,none⟩=false)/\(W.cell? ⟨w.heap.size+1,0,none⟩=some b/\W.frozen? ⟨w.heap.size+1,0,none⟩=false)/\Fr noF noF w W/\W.heap.size=w.heap.size+2:=by
 have e:(w.alloc (.cells #[a] t)).heap.size=w.heap.size+1:=by simp
 refine ⟨_,rfl,⟨cell_al (cell_made w #[a] t (0,0) 0) _,?_⟩,⟨?_,?_⟩,(((Fr.refl _ _).alloc _).alloc _).drew,by simp⟩
 ·show ((w.alloc (.cells #[a] t)).alloc (.cells #[b] t)).frozen? _=false;rw [World.frozen?_of_block (Below.heap_alloc _ _ _ (by simp))];simp
 ·rw [←e];exact cell_made (w.alloc (.cells #[a] t)) #[b] t (0,0) 0
 ·rw [←e];show ((w.alloc (.cells #[a] t)).alloc (.cells #[b] t)).frozen? _=false;simp
set_option maxHeartbeats 2000000 in
theorem append_any (g o:Nat) (i:InL) (kv tv v:Value) (l:Wd) (w:World) (hi:InsAt w g o i kv tv) (ho:InsOk i) (hr:BRow w v l) (hg:¬rowF v g) (hk:∀ q,rowF kv q->q<w.heap.size/\¬rowF v q) (ht:∀ q,rowF tv q->q<w.heap.size/\¬rowF v q) (hF:FrmsAt w)
  (hfv:¬rowF v 2) (hl:(l++insX i).length<=100000000) :
  Calls Tryz.prog 55 #[.pointer (some ⟨g,o,none⟩),v] w (MoreQ v (l++insX i) w):=by
 have HI:=Lib.hid hi;have HO:=Lib.hid ho;have c0:=hi.c0;have c2:=hi.c2;have c3:=hi.c3;have c4:=hi.c4;obtain ⟨ka,kc,ek⟩:=hi.k.slice;obtain ⟨ta,tc,et⟩:=hi.t.slice;obtain ⟨kn,hkn⟩:∃ kn,i.k.length=kn:=⟨_,rfl⟩;obtain ⟨tn,htn⟩:∃ tn,i.tg.length=tn:=⟨_,rfl⟩;obtain ⟨op,hop⟩:∃ op,i.op=op:=⟨_,rfl⟩;have hop12:=ho.op;rw [hop] at c0 hop12;rw [hkn] at ek;rw [htn] at et;subst ek et;obtain ⟨n,hn⟩:∃ n,l.length=n:=⟨_,rfl⟩;have hr':=hr;dsimp only [BRow] at hr';rw [hn] at hr';have HL:=Lib.hid hl;have hn1:n<=100000000:=by rw [←hn];simp only [List.length_append] at hl;omega
 obtain ⟨va,vc,rfl⟩:=own_slice hr';have HR:=Lib.hid hr';have HN:=Lib.hid hn;have HKN:=Lib.hid hkn;have HTN:=Lib.hid htn;have HOP:=Lib.hid hop;clear hr hr' hn hl hkn htn hop hi ho;go_enter Tryz.func55,Tryz.ntmps55
 go_wp2_with fail
 refine wp_gen ?_;intro W1 hW1;obtain ⟨B,hB⟩:∃ B,w.heap.size=B:=⟨_,rfl⟩;rw [hB];have f1:Fr noF noF w W1:=by rw [hW1];exact Fr.of ((Below.refl _ _).alloc (Nat.le_refl _) _)
 have b0:W1.cell? ⟨B,0,none⟩=some (.slice va n vc):=by rw [hW1,←hB];exact cell_made _ _ _ _ _
 have b1:W1.frozen? ⟨B,0,none⟩=false:=by rw [hW1,←hB];simp
 have s1:W1.heap.size=B+1:=by rw [hW1];simp [hB]
 have c0:=f1.cell c0 id;have hcv:IntKind.u8.wrap (op:Int)=((bt op).toNat:Int):=by simp [IntKind.wrap,IntKind.signed,IntKind.bits,bt]
 have HB:=Lib.hid hB;clear hW1 hB;refine rk (fun W':World=>W'.cell? ⟨B,0,none⟩=some (.slice va n vc)/\W'.cell? ⟨g,o,none⟩=some (.int .i64 op)) 8 [0,1,2,3,4,5] 3 ⟨b0,c0⟩ ?_;(iterate 6 (refine ty ?_;try simp only [pl]))
 refine takes_nil ?_;refine wpAnyK_only 6 (by kernel_rfl) rfl (fun J hJ=>?_);go_simp
 refine hJ.out _ _ ⟨cell_al b0 _,cell_al c0 _⟩ fun _=>?_
 clear hJ J;refine wpAnyK_only 7 (by kernel_rfl) rfl (fun J hJ=>?_);rw [if_pos (by rfl)];rw [←s1];change Oper.wp _ _ _ (W1.drew.alloc (.cells [_].toArray _)) _ _
 refine app_newo elem_byt [_] 1 ((f1.own HR.out (fun _ _=>id):W1.drew.ownsRow _ _ _ _ _ _)) (by omega) ?_;intro v2 W2 ho2 hf2;have f2:Fr (rowF (.slice va n vc)) (rowF v2) w W2:=(f1.wide (fun _ q=>q.elim)).trans hf2.und;have hBlt:=World.block_lt_of_cell? _ _ b0;have nB:∀ q,rowF (.slice va n vc) q->q<B:=fun q hq=>by have:=(HR.out.lt q hq).2;have:=HB.out;omega
 have b0:=hf2.cell (a:=⟨B,0,none⟩) (v := .slice va n vc) b0 (fun q=>Nat.lt_irrefl _ (nB _ q));have b1:=(hf2.frozen (a:=⟨B,0,none⟩) hBlt (fun q=>Nat.lt_irrefl _ (nB _ q))).trans b1;have c0:=hf2.cell (a:=⟨g,o,none⟩) c0 hg;have nB2:¬rowF v2 B:=fun q=>(hf2.fp _ q).elim (fun q=>Nat.lt_irrefl _ (nB _ q)) (fun q=>by have:W1.drew.heap.size=B+1:=s1;omega)
 obtain ⟨va2,vc2,rfl⟩:=own_slice ho2;go_simp
 refine hJ.out _ _ ⟨b0,c0⟩ fun _=>?_
 clear hJ J;refine wpAnyK_last 8 (by kernel_rfl) (by kernel_rfl) rfl (fun J hJ=>?_);go_simp
 refine hJ.out _ _ ?_;clear hJ J;refine wpAnyK_done (by kernel_rfl) ?_ _;have f3:=f2.set (a:=⟨B,0,none⟩) (.slice va2 (n+1) vc2) (.inr (by have:=HB.out;show w.heap.size<=B;omega));have b0:=cell_put b0 (.slice va2 (n+1) vc2);have b1:(W2.setCell ⟨B,0,none⟩ (.slice va2 (n+1) vc2)).frozen? ⟨B,0,none⟩=false:=by rw [World.frozen?_setCell];exact b1
 have HR2:=Lib.hid (ownsRow_setCell_other ho2 nB2 (.slice va2 (n+1) vc2) (a:=⟨B,0,none⟩));have hsz:=hf2.size;obtain ⟨W3,hW3⟩:∃ W3,W2.setCell ⟨B,0,none⟩ (.slice va2 (n+1) vc2)=W3:=⟨_,rfl⟩;rw [hW3] at f3 b0 b1 HR2 ⊢;have sz3:B<W3.heap.size:=World.block_lt_of_cell? _ _ b0;clear hW3 hf2 ho2 f2 f1 hcv c0;have c3:=f3.cell c3 hg;have c4:=f3.cell c4 hg;go_wp2_with fail
 refine rt (fun W':World=>W'.cell? ⟨g,o+3,none⟩=some (.slice ka kn kc)/\W'.cell? ⟨g,o+4,none⟩=some (.slice ta tn tc)) [0,1,2,3,4,5,6,7] 4 ⟨c3,c4⟩ ?_;(iterate 8 (refine ty ?_;try simp only [pl]))
 refine takes_nil ?_;obtain ⟨N,hN⟩:∃ N,W3.heap.size=N:=⟨_,rfl⟩;refine wpAnyH_ready (rs:=[8,9]) (by kernel_rfl) (by simp) (AllReadyH.cons rfl (fun J hJ=>?_) (AllReadyH.cons rfl (fun J hJ=>?_) AllReadyH.nil));all_goals
  go_simp
  refine hJ.out _ _ ⟨cell_al c3 _,cell_al c4 _⟩ fun _=>?_
  clear hJ J
 refine wpAnyH_only 9 (by kernel_rfl) rfl (fun J hJ=>?_);rotate_left
 refine wpAnyH_only 8 (by kernel_rfl) rfl (fun J hJ=>?_);rotate_left
 all_goals
  go_simp
  refine hJ.out _ _ ⟨cell_al (cell_al c3 _) _,cell_al (cell_al c4 _) _⟩ fun _=>?_
  clear hJ J;refine wpAnyH_only 10 (by kernel_rfl) rfl (fun J hJ=>?_);go_simp
  refine hJ.out _ _ ⟨cell_al (cell_al c3 _) _,cell_al (cell_al c4 _) _⟩ fun _=>?_
  clear hJ J;refine wpAnyH_only 11 (by kernel_rfl) rfl (fun J hJ=>?_);go_simp
  refine hJ.out _ _ ⟨cell_al (cell_al c3 _) _,cell_al (cell_al c4 _) _⟩ fun _=>?_
  clear hJ J;refine wpAnyH_done (by kernel_rfl) ?_ _
 obtain ⟨W4,hW4,e1,e2,fb,s4⟩:=boxes2 W3 (.slice ka kn kc) (.slice ta tn tc) 39;rw [←hW4];obtain ⟨K,hK⟩:∃ K,N=K:=⟨_,rfl⟩;obtain ⟨T,hT⟩:∃ T,N+1=T:=⟨_,rfl⟩;rw [hN] at e1 e2 s4;rw [hT] at e2 ⊢;rw [hK] at e1 ⊢;rotate_left
 obtain ⟨W4,hW4,e2,e1,fb,s4⟩:=boxes2 W3 (.slice ta tn tc) (.slice ka kn kc) 39;rw [←hW4];obtain ⟨K,hK⟩:∃ K,N+1=K:=⟨_,rfl⟩;obtain ⟨T,hT⟩:∃ T,N=T:=⟨_,rfl⟩;rw [hN] at e1 e2 s4;rw [hK] at e1 ⊢;rw [hT] at e2 ⊢;rotate_left
 all_goals
  have hKN:N<=K:=by omega
  have hTN:N<=T:=by omega
  have hKT:K≠T:=by omega
  have hBN:B<N:=by rw [←hN];exact sz3
  have f4:=f3.trans (fb.wide (fun _ q=>q.elim));have b0:=fb.cell b0 id;have b1:=(fb.frozen (a:=⟨B,0,none⟩) sz3 id).trans b1;have HR3:=Lib.hid (fb.own HR2.out (fun _ _=>id));have nV:∀ q,rowF (.slice va2 (n+1) vc2) q->q<N/\q≠B:=fun q hq=>⟨by rw [←hN];exact (HR2.out.lt q hq).2,fun e=>nB2 (e▸hq)⟩
  have c5:=f4.cell (a:=⟨g,o,none⟩) (v := .int .i64 op) (by rw [←HOP.out];exact HI.out.c0) hg;have c6:=f4.cell (hF op hop12) hfv;have fl:decide ((op:Int)<12)=true:=by simp;omega
  clear hW4 hK hT c3 c4 fb f3 hN HR2 c0 sz3 hsz;obtain ⟨F,hFm⟩:∃ F,frmL op=F:=⟨_,rfl⟩;rw [hFm] at c6;obtain ⟨I,hI⟩:∃ I,N+2=I:=⟨_,rfl⟩;rw [hI] at s4;have nI:B<I/\K<I/\T<I:=by have:=World.block_lt_of_cell? _ _ e1.1;have:=World.block_lt_of_cell? _ _ e2.1;dsimp only at *;omega
  go_wp2_with fail
  have HT:=Lib.hid (show insX i=bt op::insB F i.v i.k i.tg by unfold insX;rw [HOP.out,hFm]);go_loopw [10] (fun _ wr=>∃ j done ks ts,j<=F.length/\ApC w (.slice va n vc) B K T I ⟨F.toArray⟩ j done ks ts wr/\done++insB (F.drop j) i.v ks ts=l++insX i/\okB (F.drop j) ks.length ts.length=true/\(∀ x∈ks,x<=4000000000)/\(∀ x∈ts,x<=4000000000)/\ks.length<=1000000) (fun _ wr=>F.length - wr.iterPos I)
  case atStart =>
   have fi:Fr noF noF W4 (W4.iter ⟨F.toArray⟩ 0):=(Fr.refl _ _).alloc _;have hx1:=HO.out.k;have hx2:=HO.out.t;have hok:=HO.out.ok;rw [HOP.out,hFm] at hok;have hwB:w.heap.size=B:=HB.out;have eb:bytC l++[Value.int IntKind.u8 ((bt op).toNat:Int)]=bytC (l++[bt op]):=by simp [bytC]
   have el:n+1=(l++[bt op]).length:=by simp [HN.out]
   have hR4:BRow (W4.iter ⟨F.toArray⟩ 0) (.slice va2 (n+1) vc2) (l++[bt op]):=by
    have:=fi.own HR3.out (fun _ _=>id);rw [eb,el] at this;rw [el];exact this
   refine ⟨0,l++[bt op],i.k,i.tg,Nat.zero_le _,⟨⟨_,_,_,fi.cell b0 id,fi.cell e1.1 id,fi.cell e2.1 id,hR4,(HI.out.k.fr f4 (fun q hq=>(hk q hq).2)).fr fi (fun _ _=>id),(HI.out.t.fr f4 (fun q hq=>(ht q hq).2)).fr fi (fun _ _=>id),f4.alloc _,
    fun q=>(nV _ q).2 rfl,fun q=>by have:=(nV _ q).1;omega,fun q=>by have:=(nV _ q).1;omega,fun q=>by have:=(nV _ q).1;omega,fun q hq=>hq.elim (hk q) (ht q)⟩,by rw [←s4];exact World.iter_heap W4 _ 0,(fi.frozen (a:=⟨B,0,none⟩) (show B<_ by omega) id).trans b1,(fi.frozen (World.block_lt_of_cell? _ _ e1.1) id).trans e1.2,(fi.frozen (World.block_lt_of_cell? _ _ e2.1) id).trans e2.2,by omega,by omega⟩,?_,hok,hx1,hx2,HO.out.len⟩
   rw [HT.out];simp
  case round =>
   obtain ⟨j,done,ks,ts,hj,hap,heq,hok,hbk,hbt2,hkl⟩:=hrel;have HAP:=Lib.hid hap;have hit:=hap.it;by_cases hlt:j<F.length
   ·obtain ⟨c,hc⟩:∃ c,F[j]=c:=⟨_,rfl⟩;have hd:F.drop j=c::F.drop (j+1):=by rw [←hc];exact List.drop_eq_getElem_cons hlt
    have hn:=Lib.run_next_ascii_at (P:=Tryz.prog) wr I ⟨F.toArray⟩ j 0 hit (by rw [size_mk];exact hlt) (by
     show (F[j]).toNat<128;exact frmL_ascii op _ (by rw [hFm];exact List.getElem_mem _))
    rw [show (ByteArray.mk F.toArray)[j]'(by rw [size_mk];exact hlt)=c from hc] at hn;have hap2:=hap.next (j+1);obtain ⟨W5,hW5⟩:∃ W5,wr.iterAt I ⟨F.toArray⟩ (j+1)=W5:=⟨_,rfl⟩;rw [hW5] at hn hap2;rw [hd] at heq hok;have HJ:=Lib.hid (show W5.iterPos I=j+1 from iterPos_of hap2.it);have HJ0:=Lib.hid (show wr.iterPos I=j from iterPos_of hap.it);have HD:=Lib.hid hd;clear hW5 hd hap hit hc;have hcs:c=107\/c=110\/c=118\/c=116\/c=42:=by
     unfold okB at hok;split at hok
     ·next h=>rcases h with h | h<;>simp [h]
     ·split at hok
      ·next h=>simp [h]
      ·split at hok
       ·next h=>simp [h]
       ·simp at hok;simp [hok.1]
    rcases hcs with rfl | rfl | rfl | rfl | rfl;iterate 2
     cases ks with
     | nil=>simp [okB] at hok
     | cons x ks =>
      have hx:=hbk x (by simp);have HQ:=Lib.hid (show (done++twoL x)++insB (F.drop (j+1)) i.v ks ts=l++insX i by rw [←heq];simp [insB]);have HK:=Lib.hid (show okB (F.drop (j+1)) ks.length ts.length=true by simpa [okB] using hok);have HC:=Lib.hid (hap2.con hx (by have:=congrArg List.length heq;have:=HL.out;simp only [List.length_append] at *;omega));have HBK:=Lib.hid hbk;clear heq hok hap2 hbk hx;go_wp2_with fail
      refine HC.out.mono ?_;rintro e W6 ⟨rfl,hap3⟩;have HIP:=Lib.hid (iterPos_of hap3.it);go_wp2
      go_roundw
      case rel=>exact ⟨j+1,_,ks,ts,hlt,hap3,HQ.out,HK.out,fun y hy=>HBK.out y (by simp [hy]),hbt2,by simp at hkl;omega⟩
      case measure=>rw [HIP.out,HJ0.out];omega
    ·obtain ⟨v,kv,tv,d1,d2,d3,dr,dk,dt,df,n1,n2,n3,n4,dq⟩:=hap2.ex;have hv:=HO.out.v;have HQ:=Lib.hid (show (done++fourL i.v)++insB (F.drop (j+1)) i.v ks ts=l++insX i by rw [←heq];simp [insB]);have HK:=Lib.hid (show okB (F.drop (j+1)) ks.length ts.length=true by simpa [okB] using hok);have HC:=Lib.hid (four_any v done i.v W5.drew (by exact dr) (by omega) (by have:=congrArg List.length heq;have:=HL.out;simp only [List.length_append] at *;omega));obtain ⟨D,hD⟩:∃ D,done++fourL i.v=D:=⟨_,rfl⟩;rw [hD] at HQ HC;have HA2:=Lib.hid hap2;have g2:=df.cell c2 hg;have hcv:IntKind.u32.wrap (i.v:Int)=(i.v:Int):=by simp [IntKind.wrap,IntKind.signed,IntKind.bits];omega
     have z1:=hap2.zB;have DF:=Lib.hid df;clear heq hok hap2 dr dk dt dq df hD;go_wp2_with fail
     refine rk (fun W':World=>W'.cell? ⟨B,0,none⟩=some v/\W'.cell? ⟨g,o+2,none⟩=some (.int .i64 i.v)) 7 [0,1,2,3,4,5] 2 ⟨d1,g2⟩ ?_;(iterate 6 (refine ty ?_;try simp only [pl]))
     refine takes_nil ?_;refine wpAnyK_only 6 (by kernel_rfl) rfl (fun J hJ=>?_);go_simp
     refine HC.out.mono ?_;rintro e W6 ⟨v',rfl,hr6,hf6⟩;have hap3:=HA2.out.more d1 hr6 hf6.und;have z6:=(hf6.frozen (a:=⟨B,0,none⟩) (World.block_lt_of_cell? _ _ d1) n1).trans z1;have k6:=hf6.cell (a:=⟨B,0,none⟩) (v:=v) d1 n1;have g6:=hf6.cell (a:=⟨g,o+2,none⟩) g2 (fun q=>(DF.out.fp _ q).elim hg (fun q=>by have:g<w.heap.size:=World.block_lt_of_cell? w _ c2;have q2:w.heap.size<=g:=q;omega));refine hJ.out _ _ ⟨k6,g6⟩ fun _=>?_
     clear hJ J;refine wpAnyK_last 7 (by kernel_rfl) (by kernel_rfl) rfl (fun J hJ=>?_);obtain ⟨a6,c6',rfl⟩:=own_slice hr6;go_simp
     refine hJ.out _ _ ?_;clear hJ J;refine wpAnyK_done (by kernel_rfl) ?_ _;have HIP:=Lib.hid (iterPos_of hap3.it);have HA3:=Lib.hid hap3;clear hap3 hr6 hf6;go_wp2
     go_roundw
     case rel=>exact ⟨j+1,_,ks,ts,hlt,HA3.out,HQ.out,HK.out,hbk,hbt2,hkl⟩
     case measure=>rw [HIP.out,HJ0.out];omega
    ·skip
     cases ts with
     | nil=>simp [okB] at hok
     | cons x ts =>
      have hx:=hbt2 x (by simp);have HQ:=Lib.hid (show (done++twoL x)++insB (F.drop (j+1)) i.v ks ts=l++insX i by rw [←heq];simp [insB]);have HK:=Lib.hid (show okB (F.drop (j+1)) ks.length ts.length=true by simpa [okB] using hok);have HC:=Lib.hid (hap2.tar hx (by have:=congrArg List.length heq;have:=HL.out;simp only [List.length_append] at *;omega));have HBK:=Lib.hid hbt2;clear heq hok hap2 hbt2 hx;go_wp2_with fail
      refine HC.out.mono ?_;rintro e W6 ⟨rfl,hap3⟩;have HIP:=Lib.hid (iterPos_of hap3.it);go_wp2
      go_roundw
      case rel=>exact ⟨j+1,_,ks,ts,hlt,hap3,HQ.out,HK.out,hbk,fun y hy=>HBK.out y (by simp [hy]),hkl⟩
      case measure=>rw [HIP.out,HJ0.out];omega
    ·obtain ⟨v,kv,tv,d1,d2,d3,dr,dk,dt,df,n1,n2,n3,n4,dq⟩:=hap2.ex;obtain ⟨q1,q2,hok⟩:ks.length<ts.length/\okB (F.drop (j+1)) 0 (ts.length - (ks.length+1))=true/\True:=by simpa [okB] using hok
     have HK:=Lib.hid q2;have HQ:=Lib.hid (show (done++twoL ks.length)++(tabB ks ts++insB (F.drop (j+1)) i.v [] (ts.drop (ks.length+1)))=l++insX i by rw [←heq];simp [insB]);have HC:=Lib.hid (two_any v done ks.length W5 (by exact dr) (by omega) (by have:=congrArg List.length heq;have:=HL.out;simp only [List.length_append] at *;omega));obtain ⟨D,hD⟩:∃ D,done++twoL ks.length=D:=⟨_,rfl⟩;rw [hD] at HQ HC;have HA2:=Lib.hid hap2;obtain ⟨ea,ec,rfl⟩:=dk.slice;clear heq hok hap2 dr dk dt dq df hD q2;go_wp2_with fail
     refine HC.out.mono ?_;rintro e W6 ⟨v',rfl,hr6,hf6⟩;have hap3:=HA2.out.more d1 hr6 hf6;have z6:=(hf6.frozen (a:=⟨B,0,none⟩) (World.block_lt_of_cell? _ _ d1) n1).trans HA2.out.zB;have k6:=hf6.cell (a:=⟨B,0,none⟩) (v:=v) d1 n1;obtain ⟨a6,c6',rfl⟩:=own_slice hr6;have HA3:=Lib.hid hap3;clear hap3 hr6 hf6 HC;go_wp2
     go_loopw [] (fun wr2=>∃ d2 k2 t2,ApC w (.slice va n vc) B K T I ⟨F.toArray⟩ (j+1) d2 k2 t2 wr2/\d2++(tabB k2 t2++insB (F.drop (j+1)) i.v [] (ts.drop (ks.length+1)))=l++insX i/\t2.drop (k2.length+1)=ts.drop (ks.length+1)/\k2.length<t2.length/\(∀ x∈k2,x<=4000000000)/\(∀ x∈t2,x<=4000000000)) (fun wr2=>lenAt wr2 K)
     case atStart=>exact ⟨D,ks,ts,HA3.out,HQ.out,rfl,q1,hbk,hbt2⟩
     case round =>
      clear HA3 HA2;obtain ⟨d2,k2,t2,hap,heq,hdr,hlt2,hk2,ht2⟩:=hrel
      cases t2 with
      | nil=>simp at hlt2
      | cons t t2 =>
      have hap':=hap;obtain ⟨v7,kv7,tv7,g1,g2,g3,-,gk,-,-,-,-,-,-,-⟩:=hap.ex;obtain ⟨a7,c7,rfl⟩:=gk.slice;have hlen:(d2++twoL t).length<=100000000:=by have:=congrArg List.length heq;have:=HL.out;cases k2<;>simp only [List.length_append,tabB,List.headD_cons,twoL,List.length_cons,List.length_nil] at * <;> omega
      have hlen0:d2.length<=100000000:=by simp at hlen;omega
      have HM:=Lib.hid hap.lenK;clear gk
      cases k2 with
      | nil =>
       have HC:=Lib.hid (hap'.tar (ht2 t (by simp)) hlen0);have HEQ:=Lib.hid heq;have HDR:=Lib.hid hdr;clear hap hap' heq hdr;go_wp2_with fail
       refine HC.out.mono ?_;rintro e W8 ⟨rfl,hap8⟩;have HIP:=Lib.hid (iterPos_of hap8.it);go_wp2
       go_roundw
       case rel =>
        have hd8:t2=ts.drop (ks.length+1):=HDR.out;refine ⟨j+1,_,[],t2,hlt,hap8,?_,?_,fun _ h=>by simp at h,fun y hy=>ht2 y (by simp [hy]),by simp⟩
        ·rw [←HEQ.out,hd8];simp [tabB]
        ·rw [hd8];simpa using HK.out
       case measure=>rw [HIP.out,HJ0.out];omega
      | cons x k2 =>
       obtain ⟨n2,hn2⟩:∃ n2,(x::k2).length=n2:=⟨_,rfl⟩;have hn3:0<n2:=by rw [←hn2];simp
       rw [hn2] at g2;have k0:decide (0<n2)=true:=by simp [hn3]
       have k1:decide ((0:Int)<(n2:Int))=true:=by simp;omega
       have HC:=Lib.hid (hap'.con (hk2 x (by simp)) hlen0);have HEQ:=Lib.hid heq;have HDR:=Lib.hid hdr;have HN2:=Lib.hid hn2;clear hap hap' heq hdr hn2;go_wp2_with fail
       refine HC.out.mono ?_;rintro e W8 ⟨rfl,hap8⟩;have HT8:=Lib.hid (hap8.tar (ht2 t (by simp)) (by simp only [List.length_append,twoL,List.length_cons,List.length_nil] at hlen ⊢;omega));go_wp2_with fail
       refine HT8.out.mono ?_;rintro e W9 ⟨rfl,hap9⟩;have HM9:=Lib.hid hap9.lenK;clear HT8 hap8;go_wp2
       go_roundw
       case rel=>exact ⟨_,k2,t2,hap9,by rw [←HEQ.out];simp [tabB],by simpa using HDR.out,by simp at hlt2;omega,fun y hy=>hk2 y (by simp [hy]),fun y hy=>ht2 y (by simp [hy])⟩
       case measure=>rw [HM9.out,HM.out];simp
   ·have hn:=Lib.run_next_end_at (P:=Tryz.prog) wr I ⟨F.toArray⟩ j 0 hit (by rw [size_mk];exact hlt);obtain ⟨v,kv,tv,d1,d2,d3,dr,dk,dt,df,n1,n2,n3,n4,dq⟩:=hap.ex;have hFe:F.drop j=[]:=List.drop_of_length_le (by omega);rw [hFe] at heq;have HEQ:=Lib.hid (show done=l++insX i by rw [←heq];simp [insB]);have HDR:=Lib.hid dr;have HDF:=Lib.hid df;clear hap heq hok dr df dk dt dq hit;go_wp2
    go_ret
    rw [←HEQ.out];exact ⟨v,rfl,HDR.out,HDF.out⟩
end Go.Proofs.YthpldolmpinnhaaGreatDoor
