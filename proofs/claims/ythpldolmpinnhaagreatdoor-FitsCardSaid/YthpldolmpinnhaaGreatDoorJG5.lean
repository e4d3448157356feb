import Derived.Test.YthpldolmpinnhaaGreatDoorJG4
import Derived.Lib.OthersKept
set_option maxHeartbeats 64000000
open Go.World renaming block_lt_of_cell?→z7,frozen?_setCell→zk
open Go.Lib renaming hid→z8
open List renaming length_append→zy,length→zx,length_cons→zY,length_nil→zX
open Array renaming getElem?_eq_some_iff→zv
open Nat renaming lt_irrefl→zu,le_trans→zj,lt_of_lt_of_le→zf
open Go.AllReadyH renaming cons→zg
open Go.IntKind renaming signed→zZ,wrap→zV,bits→zU
open Go.Proofs.Tryz
namespace Go.Proofs.YthpldolmpinnhaaGreatDoor
open Go Go.RowKit
set_option maxRecDepth 10000
structure jG where
 op:Nat
 pos:Nat
 v:Nat
 k:List Nat
 tg:List Nat
def fZ:Nat->Wd
 | 1=>[107]|2=>[110]|3=>[110]|4=>[110,118]|7=>[118,116]|8=>[116,116,116,116,116,116]|9=>[116,116,116,116,116,116]|10=>[110,42]|11=>[116]|_=>[]
def DS:List Nat->List Nat->Wd
 | [],t=>jb (t.headD 0)
 | a::k,t=>jb a++(jb (t.headD 0)++DS k t.tail)
def jZ:Wd->Nat->List Nat->List Nat->Wd
 | [],_,_,_=>[]
 | c::f,v,k,t =>
  if c=107\/c=110 then jb (k.headD 0)++jZ f v k.tail t
  else if c=118 then XJ v++jZ f v k t
  else if c=116 then jb (t.headD 0)++jZ f v k t.tail
  else jb k.length++(DS k t++jZ f v [] (t.drop (k.length+1)))
def okB:Wd->Nat->Nat->Bool
 | [],_,_=>true
 | c::f,a,b =>
  if c=107\/c=110 then decide (0<a) && okB f (a - 1) b
  else if c=118 then okB f a b
  else if c=116 then decide (0<b) && okB f a (b - 1)
  else decide (c=42) && (decide (a<b) && okB f 0 (b - (a+1)))
def uJ(i:jG):Wd:=bt i.op::jZ (fZ i.op) i.v i.k i.tg
def gy(w:World):Prop:=∀ op,op<12->w.cell? ⟨2,op,none⟩=some (xg (fZ op))
structure tE(w:World)(g o:Nat)(i:jG)(kv tv:Value):Prop where
 c0:w.cell? ⟨g,o,none⟩=some (.int .i64 i.op)
 c1:w.cell? ⟨g,o+1,none⟩=some (.int .i64 i.pos)
 c2:w.cell? ⟨g,o+2,none⟩=some (.int .i64 i.v)
 c3:w.cell? ⟨g,o+3,none⟩=some kv
 c4:w.cell? ⟨g,o+4,none⟩=some tv
 k:gM w kv i.k
 t:gM w tv i.tg
structure Pc(i:jG):Prop where
 op:i.op<12
 v:i.v<=4000000000
 k:∀ x∈i.k,x<=4000000000
 t:∀ x∈i.tg,x<=4000000000
 len:i.k.length<=1000000
 ok:okB (fZ i.op) i.k.length i.tg.length=true
theorem gM.slice{w:World}{v:Value}{l:List Nat}(h:gM w v l):∃ a cap,v = .slice a l.length cap:=by
 obtain⟨a,cap,h1,_⟩:=h.ex;exact⟨a,cap,h1⟩
structure DB(w:World)(v0:Value)(B K T I:Nat)(s:ByteArray)(j:Nat)(done:Wd)(ks ts:List Nat)(wr:World):Prop where
 ex:∃ v kv tv,wr.cell? ⟨B,0,none⟩=some v/\wr.cell? ⟨K,0,none⟩=some kv/\wr.cell? ⟨T,0,none⟩=some tv/\Ue wr v done/\gM wr kv ks/\gM wr tv ts/\Fr (xY v0) (xY v) w wr /\
  ¬xY v B/\¬xY v K/\¬xY v T/\¬xY v I/\(∀ q,xY kv q\/xY tv q->q<w.heap.size/\¬xY v0 q)
 it:wr.heap[I]? = some (.stringIter s j)
 zB:wr.frozen? ⟨B,0,none⟩=false
 zK:wr.frozen? ⟨K,0,none⟩=false
 zT:wr.frozen? ⟨T,0,none⟩=false
 lo:w.heap.size<=B/\w.heap.size<=K/\w.heap.size<=T/\w.heap.size<=I
 ne:B≠K/\B≠T/\K≠T/\I≠B/\I≠K/\I≠T
theorem gM.fr{w w':World}{F F':Nat->Prop}{v:Value}{l:List Nat}(h:gM w v l)(hf:Fr F F' w w')(hv:∀ q,xY v q->¬F q):gM w' v l:=by
 obtain⟨a,cap,e,h1,h2,h3⟩:=h.ex;refine⟨a,cap,e,h1,h2,fun j hj=>?_⟩;obtain⟨b,eb,hb⟩:=h3 j hj;exact⟨b,eb,hf.cell hb (by rw[addr_add];exact hv _ (by rw[e,eb];rfl))⟩
theorem Ui{v:Value}{q:Nat}(h:xY (Va v) q):xY v q:=by
 unfold Va at h;split at h
 .next a n cap =>
  dsimp only[xY,Value.ownBlock] at h |-
  split at h
  .exact h
  .rw[addr_add] at h;exact h
 .exact h
section
variable {w wr:World} {v0:Value} {B K T I j:Nat} {s:ByteArray} {done:Wd} {ks ts:List Nat} {x:Nat}
theorem DB.swap(h:DB w v0 B K T I s j done ks ts wr):DB w v0 B T K I s j done ts ks wr:=by
 obtain⟨v,kv,tv,c1,c2,c3,hr,hk,ht,hf,n1,n2,n3,n4,hq⟩:=h.ex;obtain⟨e1,e2,e3,e4,e5,e6⟩:=h.ne;obtain⟨l1,l2,l3,l4⟩:=h.lo;exact⟨⟨v,tv,kv,c1,c3,c2,hr,ht,hk,hf,n1,n3,n2,n4,fun q hh=>hq q hh.symm⟩,h.it,h.zB,h.zT,h.zK,⟨l1,l3,l2,l4⟩,⟨e2,e1,e3.symm,e4,e6,e5⟩⟩
theorem DB.step{f:FuncId}(hs:AZ f)(h:DB w v0 B K T I s j done (x::ks) ts wr)(hx:x<=4000000000)(hl:done.length<=100000000) :
  Calls prog f #[.pointer (some ⟨B,0,none⟩),.pointer (some ⟨K,0,none⟩)] wr fun e w'=>e = .returned (.tuple #[])/\DB w v0 B K T I s j (done++jb x) ks ts w':=by
 obtain⟨v,kv,tv,c1,c2,c3,hr,hk,ht,hf,n1,n2,n3,n4,hq⟩:=h.ex;obtain⟨e1,e2,e3,e4,e5,e6⟩:=h.ne;obtain⟨l1,l2,l3,l4⟩:=h.lo;have nv:∀ q,xY kv q\/xY tv q->¬xY v q/\q≠B/\q≠K:=fun q hh=>by
  obtain⟨a,b⟩:=hq q hh;exact⟨fun c=>(hf.fp q c).elim b (by omega),by omega,by omega⟩
 refine(hs B K v kv done x ks wr c1 h.zB c2 h.zK hr hk e1 n1 n2 (fun q hh=>nv q (.inl hh)) hx hl).mono ?_;rintro e w' ⟨rfl,⟨v',d1,d2,d3,d4⟩,d5,d6,d7⟩;have lB:=z7 _ _ c1;have lK:=z7 _ _ c2;have lT:=z7 _ _ c3;have lI:I<wr.heap.size:=(zv.1 h.it).1;have row:∀ q,q<wr.heap.size->¬xY v q->¬xY v' q:=fun q a b c=>(d3 q c).elim b (by omega)
 have nF:∀ q,q≠B->q≠K->¬xY v q->¬(q=B\/q=K\/xY v q):=fun q a b c=>by rintro(e|e|e);exact a e;exact b e;exact c e
 refine⟨rfl,⟨v',_,tv,d1,d5,d4.cell c3 (nF _ e2.symm e3.symm n3),d2,hk.tail.fr d4 (fun q hh=>nF _ (nv q (.inl (Ui hh))).2.1 (nv q (.inl (Ui hh))).2.2 (nv q (.inl (Ui hh))).1),ht.fr d4 (fun q hh=>nF _ (nv q (.inr hh)).2.1 (nv q (.inr hh)).2.2 (nv q (.inr hh)).1),?_,row _ lB n1,row _ lK n2,row _ lT n3,row _ lI n4,fun q hh=>hq q (hh.imp Ui id)⟩,
  (d4.keep I lI (nF _ e4 e5 n4)).trans h.it,d6,d7,(d4.frozen lT (nF _ e2.symm e3.symm n3)).trans h.zT,h.lo,h.ne⟩
 refine⟨d4.os.trans hf.os,d4.tape.trans hf.tape,d4.output.trans hf.output,zj hf.size d4.size,fun q hh hn=>(d4.keep q (zf hh hf.size) (nF q (by omega) (by omega) (fun c=>(hf.fp q c).elim hn (by omega)))).trans (hf.keep q hh hn),fun q hh=>?_⟩;exact(d3 q hh).elim (hf.fp q) (fun c => .inr (zj hf.size c))
theorem DB.oY(h:DB w v0 B K T I s j done (x::ks) ts wr)(hx:x<=4000000000)(hl:done.length<=100000000) :
  Calls prog 88 #[.pointer (some ⟨B,0,none⟩),.pointer (some ⟨K,0,none⟩)] wr fun e w'=>e = .returned (.tuple #[])/\DB w v0 B K T I s j (done++jb x) ks ts w':=h.step I3.1 hx hl
theorem DB.tar(h:DB w v0 B K T I s j done ks (x::ts) wr)(hx:x<=4000000000)(hl:done.length<=100000000) :
  Calls prog 89 #[.pointer (some ⟨B,0,none⟩),.pointer (some ⟨T,0,none⟩)] wr fun e w'=>e = .returned (.tuple #[])/\DB w v0 B K T I s j (done++jb x) ks ts w' :=
 (h.swap.step I3.2 hx hl).mono fun _ _ ⟨a,b⟩=>⟨a,b.swap⟩
theorem DB.more(h:DB w v0 B K T I s j done ks ts wr){v v':Value}{d:Wd}{w':World}(hv:wr.cell? ⟨B,0,none⟩=some v)(hr':Ue w' v' d)(d4:Fr (xY v) (xY v') wr w'):DB w v0 B K T I s j d ks ts (w'.setCell ⟨B,0,none⟩ v'):=by
 obtain⟨v1,kv,tv,c1,c2,c3,hr,hk,ht,hf,n1,n2,n3,n4,hq⟩:=h.ex;obtain⟨e1,e2,e3,e4,e5,e6⟩:=h.ne;obtain⟨l1,l2,l3,l4⟩:=h.lo;obtain rfl:v1=v:=Option.some.inj (c1.symm.trans hv);have lB:=z7 _ _ c1;have lK:=z7 _ _ c2;have lT:=z7 _ _ c3;have lI:I<wr.heap.size:=(zv.1 h.it).1;have row:∀ q,q<wr.heap.size->¬xY v1 q->¬xY v' q:=fun q a b c=>(d4.fp q c).elim b (by omega)
 have nv:∀ q,xY kv q\/xY tv q->¬xY v1 q/\q≠B:=fun q hh=>by
  obtain⟨a,b⟩:=hq q hh;exact⟨fun c=>(hf.fp q c).elim b (by omega),by omega⟩
 have f2:Fr (fun q=>q=B\/xY v1 q) (fun q=>q=B\/xY v1 q) wr (w'.setCell ⟨B,0,none⟩ v'):=(d4.wide (fun q hh => .inr hh)).set _ (.inl (.inl rfl));have fz:∀ a,(w'.setCell ⟨B,0,none⟩ v').frozen? a=w'.frozen? a:=fun a=>zk ..
 refine⟨⟨v',kv,tv,uy (d4.cell c1 n1) _,f2.cell c2 (fun q=>q.elim e1.symm n2),f2.cell c3 (fun q=>q.elim e2.symm n3),ownsRow_setCell_other hr' (row _ lB n1) _,hk.fr f2 (fun q hh c=>c.elim (nv q (.inl hh)).2 (nv q (.inl hh)).1),ht.fr f2 (fun q hh c=>c.elim (nv q (.inr hh)).2 (nv q (.inr hh)).1),
  (hf.trans d4).set _ (.inr l1),row _ lB n1,row _ lK n2,row _ lT n3,row _ lI n4,hq⟩,(f2.keep I lI (fun q=>q.elim e4 n4)).trans h.it,?_,?_,?_,h.lo,h.ne⟩
 .rw[fz,d4.frozen lB n1];exact h.zB
 .rw[fz,d4.frozen lK n2];exact h.zK
 .rw[fz,d4.frozen lT n3];exact h.zT
def AY(w:World)(K:Nat):Nat:=match w.cell? ⟨K,0,none⟩ with|some (.slice _ n _)=>n|_=>0
theorem DB.zay(h:DB w v0 B K T I s j done ks ts wr):AY wr K=ks.length:=by
 obtain⟨v,kv,tv,c1,c2,c3,hr,hk,_⟩:=h.ex;obtain⟨a,c,rfl⟩:=hk.slice;simp[AY,c2]
theorem DB.next(h:DB w v0 B K T I s j done ks ts wr)(m:Nat):DB w v0 B K T I s m done ks ts (wr.iterAt I s m):=by
 obtain⟨v,kv,tv,c1,c2,c3,hr,hk,ht,hf,n1,n2,n3,n4,hq⟩:=h.ex;obtain⟨e1,e2,e3,e4,e5,e6⟩:=h.ne;obtain⟨l1,l2,l3,l4⟩:=h.lo;have f2:Fr (fun q=>q=I) (fun q=>q=I) wr (wr.iterAt I s m):=⟨rfl,rfl,rfl,Nat.le_of_eq (Lib.iterAt_size _ _ _ _).symm,fun k _ hn=>Lib.iterAt_other _ _ _ _ _ hn,fun _ q => .inl q⟩;refine⟨⟨v,kv,tv,f2.cell c1 e4.symm,f2.cell c2 e5.symm,f2.cell c3 e6.symm,f2.own hr (fun q a b=>n4 (b▸a)),hk.fr f2 (fun q hh c=>by have:=(hq q (.inl hh)).1;omega),ht.fr f2 (fun q hh c=>by have:=(hq q (.inr hh)).1;omega),?_,n1,n2,n3,n4,hq⟩,
  Lib.iterAt_heap _ _ _ _ _ h.it,(f2.frozen (z7 _ _ c1) e4.symm).trans h.zB,(f2.frozen (z7 _ _ c2) e5.symm).trans h.zK,(f2.frozen (z7 _ _ c3) e6.symm).trans h.zT,h.lo,h.ne⟩
 exact⟨hf.os,hf.tape,hf.output,zj hf.size f2.size,fun q hh hn=>(f2.keep q (zf hh hf.size) (by omega)).trans (hf.keep q hh hn),hf.fp⟩
end
theorem Nz(op:Nat):∀ c∈fZ op,c.toNat<128:=by
 unfold fZ;split<;>decide
theorem AX(w:World)(a b:Value)(t:TypeId):∃ W,W=((w.alloc (.cells #[a] t)).alloc (.cells #[b] t)).drew/\(W.cell? ⟨w.heap.size,0,none⟩=some a/\W.frozen? ⟨w.heap.size,0,none⟩=false)/\(W.cell? ⟨w.heap.size+1,0,none⟩=some b/\W.frozen? ⟨w.heap.size+1,0,none⟩=false)/\Fr xI xI w W/\W.heap.size=w.heap.size+2:=by
 have e:(w.alloc (.cells #[a] t)).heap.size=w.heap.size+1:=by simp
 refine⟨_,rfl,⟨xQ (xu w #[a] t (0,0) 0) _,?_⟩,⟨?_,?_⟩,(((Fr.refl _ _).alloc _).alloc _).drew,by simp⟩
 .show((w.alloc (.cells #[a] t)).alloc (.cells #[b] t)).frozen? _=false;rw[World.frozen?_of_block (Below.heap_alloc _ _ _ (by simp))];simp
 .rw[<-e];exact xu (w.alloc (.cells #[a] t)) #[b] t (0,0) 0
 .rw[<-e];show((w.alloc (.cells #[a] t)).alloc (.cells #[b] t)).frozen? _=false;simp
theorem Ny(g o:Nat)(i:jG)(kv tv v:Value)(l:Wd)(w:World)(hi:tE w g o i kv tv)(ho:Pc i)(hr:Ue w v l)(hg:¬xY v g)(hk:∀ q,xY kv q->q<w.heap.size/\¬xY v q)(ht:∀ q,xY tv q->q<w.heap.size/\¬xY v q)(hF:gy w)
  (tH:¬xY v 2) (hl:(l++uJ i).length<=100000000) :
  Calls prog 55 #[.pointer (some ⟨g,o,none⟩),v] w (Ad v (l++uJ i) w):=by
 have HI:=z8 hi;have HO:=z8 ho;have c0:=hi.c0;have c2:=hi.c2;have c3:=hi.c3;have c4:=hi.c4;obtain⟨ka,kc,ek⟩:=hi.k.slice;obtain⟨ta,tc,et⟩:=hi.t.slice;obtain⟨kn,Jt⟩:=xX i.k.length;obtain⟨tn,oX⟩:=xX i.tg.length;obtain⟨op,uM⟩:=xX i.op;have tI:=ho.op;rw[uM] at c0 tI;rw[Jt] at ek;rw[oX] at et;subst ek et;obtain⟨n,hn⟩:=xX l.length;have hr':=hr;dsimp only[Ue] at hr';rw[hn] at hr';have HL:=z8 hl;have bO:n<=100000000:=by rw[<-hn];simp only[zy] at hl;omega
 obtain⟨va,vc,rfl⟩:=xf hr';have HR:=z8 hr';have HN:=z8 hn;have Sd:=z8 Jt;have HTN:=z8 oX;have HOP:=z8 uM;clear hr hr' hn hl Jt oX uM hi ho;go_enter func55,ntmps55;go_wp2_with fail;refine GU ?_;intro W1 XY;obtain⟨B,hB⟩:=xX w.heap.size;rw[hB];have f1:Fr xI xI w W1:=by rw[XY];exact Fr.of ((Below.refl _ _).alloc (Nat.le_refl _) _)
 have b0:W1.cell? ⟨B,0,none⟩=some (.slice va n vc):=by rw[XY,<-hB];exact xu _ _ _ _ _
 have b1:W1.frozen? ⟨B,0,none⟩=false:=by rw[XY,<-hB];simp
 have s1:W1.heap.size=B+1:=by rw[XY];simp[hB]
 have c0:=f1.cell c0 id;have hcv:IntKind.u8.wrap (op:Int)=((bt op).toNat:Int):=by simp[IntKind.wrap,IntKind.signed,IntKind.bits,bt]
 have HB:=z8 hB;clear XY hB;refine rk (fun W':World=>W'.cell? ⟨B,0,none⟩=some (.slice va n vc)/\W'.cell? ⟨g,o,none⟩=some (.int .i64 op)) 8 [0,1,2,3,4,5] 3 ⟨b0,c0⟩ ?_;(iterate 6 (refine ty ?_;try simp only[pl]))
 refine xq ?_;refine UN 6 (fun J hJ=>?_);go_simp;refine hJ.out _ _ ⟨xQ b0 _,xQ c0 _⟩ fun _=>?_
 clear hJ J;refine UN 7 (fun J hJ=>?_);rw[if_pos (by rfl)];rw[<-s1];change Oper.wp _ _ _ (W1.drew.alloc (.cells [_].toArray _)) _ _
 refine XK GJ [_] 1 ((f1.own HR.out (fun _ _=>id):W1.drew.ownsRow _ _ _ _ _ _)) (by omega) ?_;intro v2 W2 X3 vU;have f2:Fr (xY (.slice va n vc)) (xY v2) w W2:=(f1.wide (fun _ q=>q.elim)).trans vU.und;have zav:=z7 _ _ b0;have nB:∀ q,xY (.slice va n vc) q->q<B:=fun q hq=>by have:=(HR.out.lt q hq).2;have:=HB.out;omega
 have b0:=vU.cell (a:=⟨B,0,none⟩) (v := .slice va n vc) b0 (fun q=>zu _ (nB _ q));have b1:=(vU.frozen (a:=⟨B,0,none⟩) zav (fun q=>zu _ (nB _ q))).trans b1;have c0:=vU.cell (a:=⟨g,o,none⟩) c0 hg;have nB2:¬xY v2 B:=fun q=>(vU.fp _ q).elim (fun q=>zu _ (nB _ q)) (fun q=>by have:W1.drew.heap.size=B+1:=s1;omega)
 obtain⟨DC,DE,rfl⟩:=xf X3;go_simp;refine hJ.out _ _ ⟨b0,c0⟩ fun _=>?_
 clear hJ J;refine BZ 8 (fun J hJ=>?_);go_simp;refine hJ.out _ _ ?_;clear hJ J;refine BX ?_ _;have f3:=f2.set (a:=⟨B,0,none⟩) (.slice DC (n+1) DE) (.inr (by have:=HB.out;show w.heap.size<=B;omega));have b0:=uy b0 (.slice DC (n+1) DE);have b1:(W2.setCell ⟨B,0,none⟩ (.slice DC (n+1) DE)).frozen? ⟨B,0,none⟩=false:=by rw[zk];exact b1
 have Jh:=z8 (ownsRow_setCell_other X3 nB2 (.slice DC (n+1) DE) (a:=⟨B,0,none⟩));have qc:=vU.size;obtain⟨W3,kg⟩:=xX (W2.setCell ⟨B,0,none⟩ (.slice DC (n+1) DE));rw[kg] at f3 b0 b1 Jh |-
 have sz3:B<W3.heap.size:=z7 _ _ b0;clear kg vU X3 f2 f1 hcv c0;have c3:=f3.cell c3 hg;have c4:=f3.cell c4 hg;go_wp2_with fail;refine rt (fun W':World=>W'.cell? ⟨g,o+3,none⟩=some (.slice ka kn kc)/\W'.cell? ⟨g,o+4,none⟩=some (.slice ta tn tc)) [0,1,2,3,4,5,6,7] 4 ⟨c3,c4⟩ ?_;(iterate 8 (refine ty ?_;try simp only[pl]))
 refine xq ?_;obtain⟨N,hN⟩:=xX W3.heap.size;refine wpAnyH_ready (rs:=[8,9]) (by kernel_rfl) (by simp) (zg rfl (fun J hJ=>?_) (zg rfl (fun J hJ=>?_) AllReadyH.nil));all_goals
  go_simp;refine hJ.out _ _ ⟨xQ c3 _,xQ c4 _⟩ fun _=>?_
  clear hJ J
 refine jx 9 (fun J hJ=>?_);rotate_left
 refine jx 8 (fun J hJ=>?_);rotate_left
 all_goals
  go_simp;refine hJ.out _ _ ⟨xQ (xQ c3 _) _,xQ (xQ c4 _) _⟩ fun _=>?_
  clear hJ J;refine jx 10 (fun J hJ=>?_);go_simp;refine hJ.out _ _ ⟨xQ (xQ c3 _) _,xQ (xQ c4 _) _⟩ fun _=>?_
  clear hJ J;refine jx 11 (fun J hJ=>?_);go_simp;refine hJ.out _ _ ⟨xQ (xQ c3 _) _,xQ (xQ c4 _) _⟩ fun _=>?_
  clear hJ J;refine b7 ?_ _
 obtain⟨W4,DH,e1,e2,fb,s4⟩:=AX W3 (.slice ka kn kc) (.slice ta tn tc) 39;rw[<-DH];obtain⟨K,hK⟩:=xX N;obtain⟨T,hT⟩:=xX (N+1);rw[hN] at e1 e2 s4;rw[hT] at e2 |-
 rw[hK] at e1 |-
 rotate_left
 obtain⟨W4,DH,e2,e1,fb,s4⟩:=AX W3 (.slice ta tn tc) (.slice ka kn kc) 39;rw[<-DH];obtain⟨K,hK⟩:=xX (N+1);obtain⟨T,hT⟩:=xX N;rw[hN] at e1 e2 s4;rw[hK] at e1 |-
 rw[hT] at e2 |-
 rotate_left
 all_goals
  have hKN:N<=K:=by omega
  have hTN:N<=T:=by omega
  have hKT:K≠T:=by omega
  have hBN:B<N:=by rw[<-hN];exact sz3
  have f4:=f3.trans (fb.wide (fun _ q=>q.elim));have b0:=fb.cell b0 id;have b1:=(fb.frozen (a:=⟨B,0,none⟩) sz3 id).trans b1;have I4:=z8 (fb.own Jh.out (fun _ _=>id));have nV:∀ q,xY (.slice DC (n+1) DE) q->q<N/\q≠B:=fun q hq=>⟨by rw[<-hN];exact(Jh.out.lt q hq).2,fun e=>nB2 (e▸hq)⟩
  have c5:=f4.cell (a:=⟨g,o,none⟩) (v := .int .i64 op) (by rw[<-HOP.out];exact HI.out.c0) hg;have c6:=f4.cell (hF op tI) tH;have fl:decide ((op:Int)<12)=true:=by simp;omega
  clear DH hK hT c3 c4 fb f3 hN Jh c0 sz3 qc;obtain⟨F,hFm⟩:=xX (fZ op);rw[hFm] at c6;obtain⟨I,hI⟩:=xX (N+2);rw[hI] at s4;have nI:B<I/\K<I/\T<I:=by have:=z7 _ _ e1.1;have:=z7 _ _ e2.1;dsimp only at *;omega
  go_wp2_with fail;have HT:=z8 (show uJ i=bt op::jZ F i.v i.k i.tg by unfold uJ;rw[HOP.out,hFm]);go_loopw [10] (fun _ wr=>∃ j done ks ts,j<=F.length/\DB w (.slice va n vc) B K T I ⟨F.toArray⟩ j done ks ts wr/\done++jZ (F.drop j) i.v ks ts=l++uJ i/\okB (F.drop j) ks.length ts.length=true/\(∀ x∈ks,x<=4000000000)/\(∀ x∈ts,x<=4000000000)/\ks.length<=1000000) (fun _ wr=>F.length - wr.iterPos I)
  case atStart =>
   have fi:Fr xI xI W4 (W4.iter ⟨F.toArray⟩ 0):=(Fr.refl _ _).alloc _;have dM:=HO.out.k;have qV:=HO.out.t;have kZ:=HO.out.ok;rw[HOP.out,hFm] at kZ;have hwB:w.heap.size=B:=HB.out;have eb:JI l++[Value.int IntKind.u8 ((bt op).toNat:Int)]=JI (l++[bt op]):=by simp[JI]
   have el:n+1=(l++[bt op]).length:=by simp[HN.out]
   have I5:Ue (W4.iter ⟨F.toArray⟩ 0) (.slice DC (n+1) DE) (l++[bt op]):=by
    have:=fi.own I4.out (fun _ _=>id);rw[eb,el] at this;rw[el];exact this
   refine⟨0,l++[bt op],i.k,i.tg,Nat.zero_le _,⟨⟨_,_,_,fi.cell b0 id,fi.cell e1.1 id,fi.cell e2.1 id,I5,(HI.out.k.fr f4 (fun q hq=>(hk q hq).2)).fr fi (fun _ _=>id),(HI.out.t.fr f4 (fun q hq=>(ht q hq).2)).fr fi (fun _ _=>id),f4.alloc _,
    fun q=>(nV _ q).2 rfl,fun q=>by have:=(nV _ q).1;omega,fun q=>by have:=(nV _ q).1;omega,fun q=>by have:=(nV _ q).1;omega,fun q hq=>hq.elim (hk q) (ht q)⟩,by rw[<-s4];exact World.iter_heap W4 _ 0,(fi.frozen (a:=⟨B,0,none⟩) (show B<_ by omega) id).trans b1,(fi.frozen (z7 _ _ e1.1) id).trans e1.2,(fi.frozen (z7 _ _ e2.1) id).trans e2.2,by omega,by omega⟩,?_,kZ,dM,qV,HO.out.len⟩
   rw[HT.out];simp
  case round =>
   obtain⟨j,done,ks,ts,hj,I6,heq,kZ,bP,Sb,CC⟩:=hrel;have HAP:=z8 I6;have hit:=I6.it;by_cases xB:j<F.length
   .obtain⟨c,hc⟩:=xX (F[j]);have hd:F.drop j=c::F.drop (j+1):=by rw[<-hc];exact List.drop_eq_getElem_cons xB
    have hn:=Lib.run_next_ascii_at (P:=prog) wr I ⟨F.toArray⟩ j 0 hit (by rw[size_mk];exact xB) (by
     show(F[j]).toNat<128;exact Nz op _ (by rw[hFm];exact List.getElem_mem _))
    rw[show(ByteArray.mk F.toArray)[j]'(by rw[size_mk];exact xB)=c from hc] at hn;have Kv:=I6.next (j+1);obtain⟨W5,hW5⟩:=xX (wr.iterAt I ⟨F.toArray⟩ (j+1));rw[hW5] at hn Kv;rw[hd] at heq kZ;have HJ:=z8 (show W5.iterPos I=j+1 from iterPos_of Kv.it);have HJ0:=z8 (show wr.iterPos I=j from iterPos_of I6.it);have HD:=z8 hd;clear hW5 hd I6 hit hc;have dT:c=107\/c=110\/c=118\/c=116\/c=42:=by
     unfold okB at kZ;split at kZ
     .next h=>rcases h with h|h<;>simp[h]
     .split at kZ
      .next h=>simp[h]
      .split at kZ
       .next h=>simp[h]
       .simp at kZ;simp[kZ.1]
    rcases dT with rfl|rfl|rfl|rfl|rfl;iterate 2
     cases ks with
     | nil=>simp[okB] at kZ
     | cons x ks =>
      have hx:=bP x (by simp);have HQ:=z8 (show(done++jb x)++jZ (F.drop (j+1)) i.v ks ts=l++uJ i by rw[<-heq];simp[jZ]);have HK:=z8 (show okB (F.drop (j+1)) ks.length ts.length=true by simpa[okB] using kZ);have HC:=z8 (Kv.oY hx (by have:=congrArg zx heq;have:=HL.out;simp only[zy] at *;omega));have HBK:=z8 bP;clear heq kZ Kv bP hx;go_wp2_with fail;refine HC.out.mono ?_;rintro e W6 ⟨rfl,JL⟩;have HIP:=z8 (iterPos_of JL.it);go_wp2;go_roundw
      case rel=>exact⟨j+1,_,ks,ts,xB,JL,HQ.out,HK.out,fun y hy=>HBK.out y (by simp[hy]),Sb,by simp at CC;omega⟩
      case measure=>rw[HIP.out,HJ0.out];omega
    .obtain⟨v,kv,tv,d1,d2,d3,dr,dk,dt,df,n1,n2,n3,n4,dq⟩:=Kv.ex;have hv:=HO.out.v;have HQ:=z8 (show(done++XJ i.v)++jZ (F.drop (j+1)) i.v ks ts=l++uJ i by rw[<-heq];simp[jZ]);have HK:=z8 (show okB (F.drop (j+1)) ks.length ts.length=true by simpa[okB] using kZ);have HC:=z8 (Ab v done i.v W5.drew (by exact dr) (by omega) (by have:=congrArg zx heq;have:=HL.out;simp only[zy] at *;omega));obtain⟨D,hD⟩:=xX (done++XJ i.v);rw[hD] at HQ HC;have MT:=z8 Kv;have g2:=df.cell c2 hg;have hcv:IntKind.u32.wrap (i.v:Int)=(i.v:Int):=by simp[zV,zZ,zU];omega
     have z1:=Kv.zB;have DF:=z8 df;clear heq kZ Kv dr dk dt dq df hD;go_wp2_with fail;refine rk (fun W':World=>W'.cell? ⟨B,0,none⟩=some v/\W'.cell? ⟨g,o+2,none⟩=some (.int .i64 i.v)) 7 [0,1,2,3,4,5] 2 ⟨d1,g2⟩ ?_;(iterate 6 (refine ty ?_;try simp only[pl]))
     refine xq ?_;refine UN 6 (fun J hJ=>?_);go_simp;refine HC.out.mono ?_;rintro e W6 ⟨v',rfl,VC,ZT⟩;have JL:=MT.out.more d1 VC ZT.und;have z6:=(ZT.frozen (a:=⟨B,0,none⟩) (z7 _ _ d1) n1).trans z1;have k6:=ZT.cell (a:=⟨B,0,none⟩) (v:=v) d1 n1;have g6:=ZT.cell (a:=⟨g,o+2,none⟩) g2 (fun q=>(DF.out.fp _ q).elim hg (fun q=>by have:g<w.heap.size:=z7 w _ c2;have q2:w.heap.size<=g:=q;omega));refine hJ.out _ _ ⟨k6,g6⟩ fun _=>?_
     clear hJ J;refine BZ 7 (fun J hJ=>?_);obtain⟨a6,c6',rfl⟩:=xf VC;go_simp;refine hJ.out _ _ ?_;clear hJ J;refine BX ?_ _;have HIP:=z8 (iterPos_of JL.it);have HA3:=z8 JL;clear JL VC ZT;go_wp2;go_roundw
     case rel=>exact⟨j+1,_,ks,ts,xB,HA3.out,HQ.out,HK.out,bP,Sb,CC⟩
     case measure=>rw[HIP.out,HJ0.out];omega
    .skip
     cases ts with
     | nil=>simp[okB] at kZ
     | cons x ts =>
      have hx:=Sb x (by simp);have HQ:=z8 (show(done++jb x)++jZ (F.drop (j+1)) i.v ks ts=l++uJ i by rw[<-heq];simp[jZ]);have HK:=z8 (show okB (F.drop (j+1)) ks.length ts.length=true by simpa[okB] using kZ);have HC:=z8 (Kv.tar hx (by have:=congrArg zx heq;have:=HL.out;simp only[zy] at *;omega));have HBK:=z8 Sb;clear heq kZ Kv Sb hx;go_wp2_with fail;refine HC.out.mono ?_;rintro e W6 ⟨rfl,JL⟩;have HIP:=z8 (iterPos_of JL.it);go_wp2;go_roundw
      case rel=>exact⟨j+1,_,ks,ts,xB,JL,HQ.out,HK.out,bP,fun y hy=>HBK.out y (by simp[hy]),CC⟩
      case measure=>rw[HIP.out,HJ0.out];omega
    .obtain⟨v,kv,tv,d1,d2,d3,dr,dk,dt,df,n1,n2,n3,n4,dq⟩:=Kv.ex;obtain⟨q1,q2,kZ⟩:ks.length<ts.length/\okB (F.drop (j+1)) 0 (ts.length - (ks.length+1))=true/\True:=by simpa[okB] using kZ
     have HK:=z8 q2;have HQ:=z8 (show(done++jb ks.length)++(DS ks ts++jZ (F.drop (j+1)) i.v [] (ts.drop (ks.length+1)))=l++uJ i by rw[<-heq];simp[jZ]);have HC:=z8 (Pa v done ks.length W5 (by exact dr) (by omega) (by have:=congrArg zx heq;have:=HL.out;simp only[zy] at *;omega));obtain⟨D,hD⟩:=xX (done++jb ks.length);rw[hD] at HQ HC;have MT:=z8 Kv;obtain⟨ea,ec,rfl⟩:=dk.slice;clear heq kZ Kv dr dk dt dq df hD q2;go_wp2_with fail;refine HC.out.mono ?_;rintro e W6 ⟨v',rfl,VC,ZT⟩;have JL:=MT.out.more d1 VC ZT;have z6:=(ZT.frozen (a:=⟨B,0,none⟩) (z7 _ _ d1) n1).trans MT.out.zB;have k6:=ZT.cell (a:=⟨B,0,none⟩) (v:=v) d1 n1;obtain⟨a6,c6',rfl⟩:=xf VC;have HA3:=z8 JL;clear JL VC ZT HC;go_wp2;go_loopw [] (fun wr2=>∃ d2 k2 t2,DB w (.slice va n vc) B K T I ⟨F.toArray⟩ (j+1) d2 k2 t2 wr2/\d2++(DS k2 t2++jZ (F.drop (j+1)) i.v [] (ts.drop (ks.length+1)))=l++uJ i/\t2.drop (k2.length+1)=ts.drop (ks.length+1)/\k2.length<t2.length/\(∀ x∈k2,x<=4000000000)/\(∀ x∈t2,x<=4000000000)) (fun wr2=>AY wr2 K)
     case atStart=>exact⟨D,ks,ts,HA3.out,HQ.out,rfl,q1,bP,Sb⟩
     case round =>
      clear HA3 MT;obtain⟨d2,k2,t2,I6,heq,hdr,b8,Nx,tL⟩:=hrel
      cases t2 with
      | nil=>simp at b8
      | cons t t2 =>
      have oV:=I6;obtain⟨v7,kv7,tv7,g1,g2,g3,-,gk,-,-,-,-,-,-,-⟩:=I6.ex;obtain⟨a7,c7,rfl⟩:=gk.slice;have hlen:(d2++jb t).length<=100000000:=by have:=congrArg zx heq;have:=HL.out;cases k2<;>simp only[zy,DS,List.headD_cons,jb,zY,zX] at * <;> omega
      have tM:d2.length<=100000000:=by simp at hlen;omega
      have HM:=z8 I6.zay;clear gk
      cases k2 with
      | nil =>
       have HC:=z8 (oV.tar (tL t (by simp)) tM);have HEQ:=z8 heq;have AV:=z8 hdr;clear I6 oV heq hdr;go_wp2_with fail;refine HC.out.mono ?_;rintro e W8 ⟨rfl,AU⟩;have HIP:=z8 (iterPos_of AU.it);go_wp2;go_roundw
       case rel =>
        have hd8:t2=ts.drop (ks.length+1):=AV.out;refine⟨j+1,_,[],t2,xB,AU,?_,?_,fun _ h=>by simp at h,fun y hy=>tL y (by simp[hy]),by simp⟩
        .rw[<-HEQ.out,hd8];simp[DS]
        .rw[hd8];simpa using HK.out
       case measure=>rw[HIP.out,HJ0.out];omega
      | cons x k2 =>
       obtain⟨n2,dN⟩:=xX ((x::k2).length);have Ww:0<n2:=by rw[<-dN];simp
       rw[dN] at g2;have k0:decide (0<n2)=true:=by simp[Ww]
       have k1:decide ((0:Int)<(n2:Int))=true:=by simp;omega
       have HC:=z8 (oV.oY (Nx x (by simp)) tM);have HEQ:=z8 heq;have AV:=z8 hdr;have nL:=z8 dN;clear I6 oV heq hdr dN;go_wp2_with fail;refine HC.out.mono ?_;rintro e W8 ⟨rfl,AU⟩;have HT8:=z8 (AU.tar (tL t (by simp)) (by simp only[zy,jb,zY,zX] at hlen |-;omega));go_wp2_with fail;refine HT8.out.mono ?_;rintro e W9 ⟨rfl,zau⟩;have HM9:=z8 zau.zay;clear HT8 AU;go_wp2;go_roundw
       case rel=>exact⟨_,k2,t2,zau,by rw[<-HEQ.out];simp[DS],by simpa using AV.out,by simp at b8;omega,fun y hy=>Nx y (by simp[hy]),fun y hy=>tL y (by simp[hy])⟩
       case measure=>rw[HM9.out,HM.out];simp
   .have hn:=Lib.run_next_end_at (P:=prog) wr I ⟨F.toArray⟩ j 0 hit (by rw[size_mk];exact xB);obtain⟨v,kv,tv,d1,d2,d3,dr,dk,dt,df,n1,n2,n3,n4,dq⟩:=I6.ex;have hFe:F.drop j=[]:=List.drop_of_length_le (by omega);rw[hFe] at heq;have HEQ:=z8 (show done=l++uJ i by rw[<-heq];simp[jZ]);have AV:=z8 dr;have HDF:=z8 df;clear I6 heq kZ dr df dk dt dq hit;go_wp2;go_ret;rw[<-HEQ.out];exact⟨v,rfl,AV.out,HDF.out⟩
end Go.Proofs.YthpldolmpinnhaaGreatDoor
