import Derived.Test.YthpldolmpinnhaaGreatDoorJK4
import Derived.Lib.OthersKept
set_option maxHeartbeats 64000000
open Go.World renaming block_lt_of_cell?→z7,frozen?_setCell→zk
open Go.Lib renaming hid→z8
open List renaming length_append→zy,length→zx,length_cons→zY,length_nil→zX
open Array renaming getElem?_eq_some_iff→zv
open Nat renaming lt_irrefl→zu,le_trans→zj,lt_of_lt_of_le→zf
open Go.AllReadyH renaming cons→zg
open Go.IntKind renaming signed→zZ,wrap→zV,bits→zU
open Go.Proofs.Tryz
namespace Go.Proofs.YthpldolmpinnhaaGreatDoor
open Go Go.RowKit
set_option maxRecDepth 10000
structure jf where
 op:Nat
 pos:Nat
 v:Nat
 k:List Nat
 tg:List Nat
def gR:Nat->Wd
 | 1=>[107]|2=>[110]|3=>[110]|4=>[110,118]|7=>[118,116]|8=>[116,116,116,116,116,116]|9=>[116,116,116,116,116,116]|10=>[110,42]|11=>[116]|_=>[]
def Fa:List Nat->List Nat->Wd
 | [],t=>kh (t.headD 0)
 | a::k,t=>kh a++(kh (t.headD 0)++Fa k t.tail)
def j8:Wd->Nat->List Nat->List Nat->Wd
 | [],_,_,_=>[]
 | c::f,v,k,t =>
  if c=107\/c=110 then kh (k.headD 0)++j8 f v k.tail t
  else if c=118 then Ys v++j8 f v k t
  else if c=116 then kh (t.headD 0)++j8 f v k t.tail
  else kh k.length++(Fa k t++j8 f v [] (t.drop (k.length+1)))
def okB:Wd->Nat->Nat->Bool
 | [],_,_=>true
 | c::f,a,b =>
  if c=107\/c=110 then decide (0<a) && okB f (a - 1) b
  else if c=118 then okB f a b
  else if c=116 then decide (0<b) && okB f a (b - 1)
  else decide (c=42) && (decide (a<b) && okB f 0 (b - (a+1)))
def uU(i:jf):Wd:=bt i.op::j8 (gR i.op) i.v i.k i.tg
def jc(w:World):Prop:=∀ op,op<12->w.cell? ⟨2,op,none⟩=some (xk (gR op))
structure pT(w:World)(g o:Nat)(i:jf)(kv tv:Value):Prop where
 c0:w.cell? ⟨g,o,none⟩=some (.int .i64 i.op)
 c1:w.cell? ⟨g,o+1,none⟩=some (.int .i64 i.pos)
 c2:w.cell? ⟨g,o+2,none⟩=some (.int .i64 i.v)
 c3:w.cell? ⟨g,o+3,none⟩=some kv
 c4:w.cell? ⟨g,o+4,none⟩=some tv
 k:gU w kv i.k
 t:gU w tv i.tg
structure OY(i:jf):Prop where
 op:i.op<12
 v:i.v<=4000000000
 k:∀ x∈i.k,x<=4000000000
 t:∀ x∈i.tg,x<=4000000000
 len:i.k.length<=1000000
 ok:okB (gR i.op) i.k.length i.tg.length=true
theorem gU.slice{w:World}{v:Value}{l:List Nat}(h:gU w v l):∃ a cap,v = .slice a l.length cap:=by
 obtain⟨a,cap,h1,_⟩:=h.ex;exact⟨a,cap,h1⟩
structure FB(w:World)(v0:Value)(B K T I:Nat)(s:ByteArray)(j:Nat)(done:Wd)(ks ts:List Nat)(wr:World):Prop where
 ex:∃ v kv tv,wr.cell? ⟨B,0,none⟩=some v/\wr.cell? ⟨K,0,none⟩=some kv/\wr.cell? ⟨T,0,none⟩=some tv/\Uj wr v done/\gU wr kv ks/\gU wr tv ts/\Fr (xX v0) (xX v) w wr /\
  ¬xX v B/\¬xX v K/\¬xX v T/\¬xX v I/\(∀ q,xX kv q\/xX tv q->q<w.heap.size/\¬xX v0 q)
 it:wr.heap[I]? = some (.stringIter s j)
 zB:wr.frozen? ⟨B,0,none⟩=false
 zK:wr.frozen? ⟨K,0,none⟩=false
 zT:wr.frozen? ⟨T,0,none⟩=false
 lo:w.heap.size<=B/\w.heap.size<=K/\w.heap.size<=T/\w.heap.size<=I
 ne:B≠K/\B≠T/\K≠T/\I≠B/\I≠K/\I≠T
theorem gU.fr{w w':World}{F F':Nat->Prop}{v:Value}{l:List Nat}(h:gU w v l)(hf:Fr F F' w w')(hv:∀ q,xX v q->¬F q):gU w' v l:=by
 obtain⟨a,cap,e,h1,h2,h3⟩:=h.ex;refine⟨a,cap,e,h1,h2,fun j hj=>?_⟩;obtain⟨b,eb,hb⟩:=h3 j hj;exact⟨b,eb,hf.cell hb (by rw[addr_add];exact hv _ (by rw[e,eb];rfl))⟩
theorem Ug{v:Value}{q:Nat}(h:xX (Vk v) q):xX v q:=by
 unfold Vk at h;split at h
 ·next a n cap =>
  dsimp only[xX,Value.ownBlock] at h ⊢;split at h
  ·exact h
  ·rw[addr_add] at h;exact h
 ·exact h
section
variable {w wr:World} {v0:Value} {B K T I j:Nat} {s:ByteArray} {done:Wd} {ks ts:List Nat} {x:Nat}
theorem FB.swap(h:FB w v0 B K T I s j done ks ts wr):FB w v0 B T K I s j done ts ks wr:=by
 obtain⟨v,kv,tv,c1,c2,c3,hr,hk,ht,hf,n1,n2,n3,n4,hq⟩:=h.ex;obtain⟨e1,e2,e3,e4,e5,e6⟩:=h.ne;obtain⟨l1,l2,l3,l4⟩:=h.lo;exact⟨⟨v,tv,kv,c1,c3,c2,hr,ht,hk,hf,n1,n3,n2,n4,fun q hh=>hq q hh.symm⟩,h.it,h.zB,h.zT,h.zK,⟨l1,l3,l2,l4⟩,⟨e2,e1,e3.symm,e4,e6,e5⟩⟩
theorem FB.step{f:FuncId}(hs:Ta f)(h:FB w v0 B K T I s j done (x::ks) ts wr)(hx:x<=4000000000)(hl:done.length<=100000000) :
  Calls prog f #[.pointer (some ⟨B,0,none⟩),.pointer (some ⟨K,0,none⟩)] wr fun e w'=>e = .returned (.tuple #[])/\FB w v0 B K T I s j (done++kh x) ks ts w':=by
 obtain⟨v,kv,tv,c1,c2,c3,hr,hk,ht,hf,n1,n2,n3,n4,hq⟩:=h.ex;obtain⟨e1,e2,e3,e4,e5,e6⟩:=h.ne;obtain⟨l1,l2,l3,l4⟩:=h.lo;have nv:∀ q,xX kv q\/xX tv q->¬xX v q/\q≠B/\q≠K:=fun q hh=>by
  obtain⟨a,b⟩:=hq q hh;exact⟨fun c=>(hf.fp q c).elim b (by omega),by omega,by omega⟩
 refine(hs B K v kv done x ks wr c1 h.zB c2 h.zK hr hk e1 n1 n2 (fun q hh=>nv q (.inl hh)) hx hl).mono ?_;rintro e w' ⟨rfl,⟨v',d1,d2,d3,d4⟩,d5,d6,d7⟩;have lB:=z7 _ _ c1;have lK:=z7 _ _ c2;have lT:=z7 _ _ c3;have lI:I<wr.heap.size:=(zv.1 h.it).1;have row:∀ q,q<wr.heap.size->¬xX v q->¬xX v' q:=fun q a b c=>(d3 q c).elim b (by omega)
 have nF:∀ q,q≠B->q≠K->¬xX v q->¬(q=B\/q=K\/xX v q):=fun q a b c=>by rintro(e|e|e);exact a e;exact b e;exact c e
 refine⟨rfl,⟨v',_,tv,d1,d5,d4.cell c3 (nF _ e2.symm e3.symm n3),d2,hk.tail.fr d4 (fun q hh=>nF _ (nv q (.inl (Ug hh))).2.1 (nv q (.inl (Ug hh))).2.2 (nv q (.inl (Ug hh))).1),ht.fr d4 (fun q hh=>nF _ (nv q (.inr hh)).2.1 (nv q (.inr hh)).2.2 (nv q (.inr hh)).1),?_,row _ lB n1,row _ lK n2,row _ lT n3,row _ lI n4,fun q hh=>hq q (hh.imp Ug id)⟩,
  (d4.keep I lI (nF _ e4 e5 n4)).trans h.it,d6,d7,(d4.frozen lT (nF _ e2.symm e3.symm n3)).trans h.zT,h.lo,h.ne⟩
 refine⟨d4.os.trans hf.os,d4.tape.trans hf.tape,d4.output.trans hf.output,zj hf.size d4.size,fun q hh hn=>(d4.keep q (zf hh hf.size) (nF q (by omega) (by omega) (fun c=>(hf.fp q c).elim hn (by omega)))).trans (hf.keep q hh hn),fun q hh=>?_⟩;exact(d3 q hh).elim (hf.fp q) (fun c => .inr (zj hf.size c))
theorem FB.ld(h:FB w v0 B K T I s j done (x::ks) ts wr)(hx:x<=4000000000)(hl:done.length<=100000000) :
  Calls prog 88 #[.pointer (some ⟨B,0,none⟩),.pointer (some ⟨K,0,none⟩)] wr fun e w'=>e = .returned (.tuple #[])/\FB w v0 B K T I s j (done++kh x) ks ts w':=h.step EF.1 hx hl
theorem FB.tar(h:FB w v0 B K T I s j done ks (x::ts) wr)(hx:x<=4000000000)(hl:done.length<=100000000) :
  Calls prog 89 #[.pointer (some ⟨B,0,none⟩),.pointer (some ⟨T,0,none⟩)] wr fun e w'=>e = .returned (.tuple #[])/\FB w v0 B K T I s j (done++kh x) ks ts w' :=
 (h.swap.step EF.2 hx hl).mono fun _ _ ⟨a,b⟩=>⟨a,b.swap⟩
theorem FB.more(h:FB w v0 B K T I s j done ks ts wr){v v':Value}{d:Wd}{w':World}(hv:wr.cell? ⟨B,0,none⟩=some v)(tG:Uj w' v' d)(d4:Fr (xX v) (xX v') wr w'):FB w v0 B K T I s j d ks ts (w'.setCell ⟨B,0,none⟩ v'):=by
 obtain⟨v1,kv,tv,c1,c2,c3,hr,hk,ht,hf,n1,n2,n3,n4,hq⟩:=h.ex;obtain⟨e1,e2,e3,e4,e5,e6⟩:=h.ne;obtain⟨l1,l2,l3,l4⟩:=h.lo;obtain rfl:v1=v:=Option.some.inj (c1.symm.trans hv);have lB:=z7 _ _ c1;have lK:=z7 _ _ c2;have lT:=z7 _ _ c3;have lI:I<wr.heap.size:=(zv.1 h.it).1;have row:∀ q,q<wr.heap.size->¬xX v1 q->¬xX v' q:=fun q a b c=>(d4.fp q c).elim b (by omega)
 have nv:∀ q,xX kv q\/xX tv q->¬xX v1 q/\q≠B:=fun q hh=>by
  obtain⟨a,b⟩:=hq q hh;exact⟨fun c=>(hf.fp q c).elim b (by omega),by omega⟩
 have f2:Fr (fun q=>q=B\/xX v1 q) (fun q=>q=B\/xX v1 q) wr (w'.setCell ⟨B,0,none⟩ v'):=(d4.wide (fun q hh => .inr hh)).set _ (.inl (.inl rfl));have fz:∀ a,(w'.setCell ⟨B,0,none⟩ v').frozen? a=w'.frozen? a:=fun a=>zk ..
 refine⟨⟨v',kv,tv,u9 (d4.cell c1 n1) _,f2.cell c2 (fun q=>q.elim e1.symm n2),f2.cell c3 (fun q=>q.elim e2.symm n3),ownsRow_setCell_other tG (row _ lB n1) _,hk.fr f2 (fun q hh c=>c.elim (nv q (.inl hh)).2 (nv q (.inl hh)).1),ht.fr f2 (fun q hh c=>c.elim (nv q (.inr hh)).2 (nv q (.inr hh)).1),
  (hf.trans d4).set _ (.inr l1),row _ lB n1,row _ lK n2,row _ lT n3,row _ lI n4,hq⟩,(f2.keep I lI (fun q=>q.elim e4 n4)).trans h.it,?_,?_,?_,h.lo,h.ne⟩
 ·rw[fz,d4.frozen lB n1];exact h.zB
 ·rw[fz,d4.frozen lK n2];exact h.zK
 ·rw[fz,d4.frozen lT n3];exact h.zT
def Tc(w:World)(K:Nat):Nat:=match w.cell? ⟨K,0,none⟩ with|some (.slice _ n _)=>n|_=>0
theorem FB.zg1(h:FB w v0 B K T I s j done ks ts wr):Tc wr K=ks.length:=by
 obtain⟨v,kv,tv,c1,c2,c3,hr,hk,_⟩:=h.ex;obtain⟨a,c,rfl⟩:=hk.slice;simp[Tc,c2]
theorem FB.next(h:FB w v0 B K T I s j done ks ts wr)(m:Nat):FB w v0 B K T I s m done ks ts (wr.iterAt I s m):=by
 obtain⟨v,kv,tv,c1,c2,c3,hr,hk,ht,hf,n1,n2,n3,n4,hq⟩:=h.ex;obtain⟨e1,e2,e3,e4,e5,e6⟩:=h.ne;obtain⟨l1,l2,l3,l4⟩:=h.lo;have f2:Fr (fun q=>q=I) (fun q=>q=I) wr (wr.iterAt I s m):=⟨rfl,rfl,rfl,Nat.le_of_eq (Lib.iterAt_size _ _ _ _).symm,fun k _ hn=>Lib.iterAt_other _ _ _ _ _ hn,fun _ q => .inl q⟩;refine⟨⟨v,kv,tv,f2.cell c1 e4.symm,f2.cell c2 e5.symm,f2.cell c3 e6.symm,f2.own hr (fun q a b=>n4 (b▸a)),hk.fr f2 (fun q hh c=>by have:=(hq q (.inl hh)).1;omega),ht.fr f2 (fun q hh c=>by have:=(hq q (.inr hh)).1;omega),?_,n1,n2,n3,n4,hq⟩,
  Lib.iterAt_heap _ _ _ _ _ h.it,(f2.frozen (z7 _ _ c1) e4.symm).trans h.zB,(f2.frozen (z7 _ _ c2) e5.symm).trans h.zK,(f2.frozen (z7 _ _ c3) e6.symm).trans h.zT,h.lo,h.ne⟩
 exact⟨hf.os,hf.tape,hf.output,zj hf.size f2.size,fun q hh hn=>(f2.keep q (zf hh hf.size) (by omega)).trans (hf.keep q hh hn),hf.fp⟩
end
theorem Lt(op:Nat):∀ c∈gR op,c.toNat<128:=by
 unfold gR;split<;>decide
theorem Te(w:World)(a b:Value)(t:TypeId):∃ W,W=((w.alloc (.cells #[a] t)).alloc (.cells #[b] t)).drew/\(W.cell? ⟨w.heap.size,0,none⟩=some a/\W.frozen? ⟨w.heap.size,0,none⟩=false)/\(W.cell? ⟨w.heap.size+1,0,none⟩=some b/\W.frozen? ⟨w.heap.size+1,0,none⟩=false)/\Fr xN xN w W/\W.heap.size=w.heap.size+2:=by
 have e:(w.alloc (.cells #[a] t)).heap.size=w.heap.size+1:=by simp
 refine⟨_,rfl,⟨xQ (xu w #[a] t (0,0) 0) _,?_⟩,⟨?_,?_⟩,(((Fr.refl _ _).alloc _).alloc _).drew,by simp⟩
 ·show((w.alloc (.cells #[a] t)).alloc (.cells #[b] t)).frozen? _=false;rw[World.frozen?_of_block (Below.heap_alloc _ _ _ (by simp))];simp
 ·rw[←e];exact xu (w.alloc (.cells #[a] t)) #[b] t (0,0) 0
 ·rw[←e];show((w.alloc (.cells #[a] t)).alloc (.cells #[b] t)).frozen? _=false;simp
theorem Lh(g o:Nat)(i:jf)(kv tv v:Value)(l:Wd)(w:World)(hi:pT w g o i kv tv)(ho:OY i)(hr:Uj w v l)(hg:¬xX v g)(hk:∀ q,xX kv q->q<w.heap.size/\¬xX v q)(ht:∀ q,xX tv q->q<w.heap.size/\¬xX v q)(hF:jc w)
  (pW:¬xX v 2) (hl:(l++uU i).length<=100000000) :
  Calls prog 55 #[.pointer (some ⟨g,o,none⟩),v] w (TW v (l++uU i) w):=by
 have HI:=z8 hi;have HO:=z8 ho;have c0:=hi.c0;have c2:=hi.c2;have c3:=hi.c3;have c4:=hi.c4;obtain⟨ka,kc,ek⟩:=hi.k.slice;obtain⟨ta,tc,et⟩:=hi.t.slice;obtain⟨kn,DJ⟩:∃ kn,i.k.length=kn:=⟨_,rfl⟩;obtain⟨tn,lb⟩:∃ tn,i.tg.length=tn:=⟨_,rfl⟩;obtain⟨op,uC⟩:∃ op,i.op=op:=⟨_,rfl⟩;have pA:=ho.op;rw[uC] at c0 pA;rw[DJ] at ek;rw[lb] at et;subst ek et;obtain⟨n,hn⟩:∃ n,l.length=n:=⟨_,rfl⟩;have tG:=hr;dsimp only[Uj] at tG;rw[hn] at tG;have HL:=z8 hl;have Zz:n<=100000000:=by rw[←hn];simp only[zy] at hl;omega
 obtain⟨va,vc,rfl⟩:=xZ tG;have HR:=z8 tG;have HN:=z8 hn;have Ti:=z8 DJ;have HTN:=z8 lb;have HOP:=z8 uC;clear hr tG hn hl DJ lb uC hi ho;go_enter func55,ntmps55;go_wp2_with fail;refine QG ?_;intro W1 VD;obtain⟨B,hB⟩:∃ B,w.heap.size=B:=⟨_,rfl⟩;rw[hB];have f1:Fr xN xN w W1:=by rw[VD];exact Fr.of ((Below.refl _ _).alloc (Nat.le_refl _) _)
 have b0:W1.cell? ⟨B,0,none⟩=some (.slice va n vc):=by rw[VD,←hB];exact xu _ _ _ _ _
 have b1:W1.frozen? ⟨B,0,none⟩=false:=by rw[VD,←hB];simp
 have s1:W1.heap.size=B+1:=by rw[VD];simp[hB]
 have c0:=f1.cell c0 id;have hcv:IntKind.u8.wrap (op:Int)=((bt op).toNat:Int):=by simp[IntKind.wrap,IntKind.signed,IntKind.bits,bt]
 have HB:=z8 hB;clear VD hB;refine rk (fun W':World=>W'.cell? ⟨B,0,none⟩=some (.slice va n vc)/\W'.cell? ⟨g,o,none⟩=some (.int .i64 op)) 8 [0,1,2,3,4,5] 3 ⟨b0,c0⟩ ?_;(iterate 6 (refine ty ?_;try simp only[pl]))
 refine xq ?_;refine xI 6 (by kernel_rfl) rfl (fun J hJ=>?_);go_simp;refine hJ.out _ _ ⟨xQ b0 _,xQ c0 _⟩ fun _=>?_
 clear hJ J;refine xI 7 (by kernel_rfl) rfl (fun J hJ=>?_);rw[if_pos (by rfl)];rw[←s1];change Oper.wp _ _ _ (W1.drew.alloc (.cells [_].toArray _)) _ _
 refine Yr JN [_] 1 ((f1.own HR.out (fun _ _=>id):W1.drew.ownsRow _ _ _ _ _ _)) (by omega) ?_;intro v2 W2 QZ vG;have f2:Fr (xX (.slice va n vc)) (xX v2) w W2:=(f1.wide (fun _ q=>q.elim)).trans vG.und;have zg3:=z7 _ _ b0;have nB:∀ q,xX (.slice va n vc) q->q<B:=fun q hq=>by have:=(HR.out.lt q hq).2;have:=HB.out;omega
 have b0:=vG.cell (a:=⟨B,0,none⟩) (v := .slice va n vc) b0 (fun q=>zu _ (nB _ q));have b1:=(vG.frozen (a:=⟨B,0,none⟩) zg3 (fun q=>zu _ (nB _ q))).trans b1;have c0:=vG.cell (a:=⟨g,o,none⟩) c0 hg;have nB2:¬xX v2 B:=fun q=>(vG.fp _ q).elim (fun q=>zu _ (nB _ q)) (fun q=>by have:W1.drew.heap.size=B+1:=s1;omega)
 obtain⟨tF,tD,rfl⟩:=xZ QZ;go_simp;refine hJ.out _ _ ⟨b0,c0⟩ fun _=>?_
 clear hJ J;refine xw 8 (by kernel_rfl) (by kernel_rfl) rfl (fun J hJ=>?_);go_simp;refine hJ.out _ _ ?_;clear hJ J;refine vz (by kernel_rfl) ?_ _;have f3:=f2.set (a:=⟨B,0,none⟩) (.slice tF (n+1) tD) (.inr (by have:=HB.out;show w.heap.size<=B;omega));have b0:=u9 b0 (.slice tF (n+1) tD);have b1:(W2.setCell ⟨B,0,none⟩ (.slice tF (n+1) tD)).frozen? ⟨B,0,none⟩=false:=by rw[zk];exact b1
 have BS:=z8 (ownsRow_setCell_other QZ nB2 (.slice tF (n+1) tD) (a:=⟨B,0,none⟩));have qa:=vG.size;obtain⟨W3,j6⟩:∃ W3,W2.setCell ⟨B,0,none⟩ (.slice tF (n+1) tD)=W3:=⟨_,rfl⟩;rw[j6] at f3 b0 b1 BS ⊢;have sz3:B<W3.heap.size:=z7 _ _ b0;clear j6 vG QZ f2 f1 hcv c0;have c3:=f3.cell c3 hg;have c4:=f3.cell c4 hg;go_wp2_with fail;refine rt (fun W':World=>W'.cell? ⟨g,o+3,none⟩=some (.slice ka kn kc)/\W'.cell? ⟨g,o+4,none⟩=some (.slice ta tn tc)) [0,1,2,3,4,5,6,7] 4 ⟨c3,c4⟩ ?_;(iterate 8 (refine ty ?_;try simp only[pl]))
 refine xq ?_;obtain⟨N,hN⟩:∃ N,W3.heap.size=N:=⟨_,rfl⟩;refine wpAnyH_ready (rs:=[8,9]) (by kernel_rfl) (by simp) (zg rfl (fun J hJ=>?_) (zg rfl (fun J hJ=>?_) AllReadyH.nil));all_goals
  go_simp;refine hJ.out _ _ ⟨xQ c3 _,xQ c4 _⟩ fun _=>?_
  clear hJ J
 refine xg 9 (by kernel_rfl) rfl (fun J hJ=>?_);rotate_left
 refine xg 8 (by kernel_rfl) rfl (fun J hJ=>?_);rotate_left
 all_goals
  go_simp;refine hJ.out _ _ ⟨xQ (xQ c3 _) _,xQ (xQ c4 _) _⟩ fun _=>?_
  clear hJ J;refine xg 10 (by kernel_rfl) rfl (fun J hJ=>?_);go_simp;refine hJ.out _ _ ⟨xQ (xQ c3 _) _,xQ (xQ c4 _) _⟩ fun _=>?_
  clear hJ J;refine xg 11 (by kernel_rfl) rfl (fun J hJ=>?_);go_simp;refine hJ.out _ _ ⟨xQ (xQ c3 _) _,xQ (xQ c4 _) _⟩ fun _=>?_
  clear hJ J;refine wpAnyH_done (by kernel_rfl) ?_ _
 obtain⟨W4,FC,e1,e2,fb,s4⟩:=Te W3 (.slice ka kn kc) (.slice ta tn tc) 39;rw[←FC];obtain⟨K,hK⟩:∃ K,N=K:=⟨_,rfl⟩;obtain⟨T,hT⟩:∃ T,N+1=T:=⟨_,rfl⟩;rw[hN] at e1 e2 s4;rw[hT] at e2 ⊢;rw[hK] at e1 ⊢;rotate_left
 obtain⟨W4,FC,e2,e1,fb,s4⟩:=Te W3 (.slice ta tn tc) (.slice ka kn kc) 39;rw[←FC];obtain⟨K,hK⟩:∃ K,N+1=K:=⟨_,rfl⟩;obtain⟨T,hT⟩:∃ T,N=T:=⟨_,rfl⟩;rw[hN] at e1 e2 s4;rw[hK] at e1 ⊢;rw[hT] at e2 ⊢;rotate_left
 all_goals
  have hKN:N<=K:=by omega
  have hTN:N<=T:=by omega
  have hKT:K≠T:=by omega
  have hBN:B<N:=by rw[←hN];exact sz3
  have f4:=f3.trans (fb.wide (fun _ q=>q.elim));have b0:=fb.cell b0 id;have b1:=(fb.frozen (a:=⟨B,0,none⟩) sz3 id).trans b1;have ED:=z8 (fb.own BS.out (fun _ _=>id));have nV:∀ q,xX (.slice tF (n+1) tD) q->q<N/\q≠B:=fun q hq=>⟨by rw[←hN];exact(BS.out.lt q hq).2,fun e=>nB2 (e▸hq)⟩
  have c5:=f4.cell (a:=⟨g,o,none⟩) (v := .int .i64 op) (by rw[←HOP.out];exact HI.out.c0) hg;have c6:=f4.cell (hF op pA) pW;have fl:decide ((op:Int)<12)=true:=by simp;omega
  clear FC hK hT c3 c4 fb f3 hN BS c0 sz3 qa;obtain⟨F,hFm⟩:∃ F,gR op=F:=⟨_,rfl⟩;rw[hFm] at c6;obtain⟨I,hI⟩:∃ I,N+2=I:=⟨_,rfl⟩;rw[hI] at s4;have nI:B<I/\K<I/\T<I:=by have:=z7 _ _ e1.1;have:=z7 _ _ e2.1;dsimp only at *;omega
  go_wp2_with fail;have HT:=z8 (show uU i=bt op::j8 F i.v i.k i.tg by unfold uU;rw[HOP.out,hFm]);go_loopw [10] (fun _ wr=>∃ j done ks ts,j<=F.length/\FB w (.slice va n vc) B K T I ⟨F.toArray⟩ j done ks ts wr/\done++j8 (F.drop j) i.v ks ts=l++uU i/\okB (F.drop j) ks.length ts.length=true/\(∀ x∈ks,x<=4000000000)/\(∀ x∈ts,x<=4000000000)/\ks.length<=1000000) (fun _ wr=>F.length - wr.iterPos I)
  case atStart =>
   have fi:Fr xN xN W4 (W4.iter ⟨F.toArray⟩ 0):=(Fr.refl _ _).alloc _;have du:=HO.out.k;have qb:=HO.out.t;have ku:=HO.out.ok;rw[HOP.out,hFm] at ku;have hwB:w.heap.size=B:=HB.out;have eb:Kc l++[Value.int IntKind.u8 ((bt op).toNat:Int)]=Kc (l++[bt op]):=by simp[Kc]
   have el:n+1=(l++[bt op]).length:=by simp[HN.out]
   have EB:Uj (W4.iter ⟨F.toArray⟩ 0) (.slice tF (n+1) tD) (l++[bt op]):=by
    have:=fi.own ED.out (fun _ _=>id);rw[eb,el] at this;rw[el];exact this
   refine⟨0,l++[bt op],i.k,i.tg,Nat.zero_le _,⟨⟨_,_,_,fi.cell b0 id,fi.cell e1.1 id,fi.cell e2.1 id,EB,(HI.out.k.fr f4 (fun q hq=>(hk q hq).2)).fr fi (fun _ _=>id),(HI.out.t.fr f4 (fun q hq=>(ht q hq).2)).fr fi (fun _ _=>id),f4.alloc _,
    fun q=>(nV _ q).2 rfl,fun q=>by have:=(nV _ q).1;omega,fun q=>by have:=(nV _ q).1;omega,fun q=>by have:=(nV _ q).1;omega,fun q hq=>hq.elim (hk q) (ht q)⟩,by rw[←s4];exact World.iter_heap W4 _ 0,(fi.frozen (a:=⟨B,0,none⟩) (show B<_ by omega) id).trans b1,(fi.frozen (z7 _ _ e1.1) id).trans e1.2,(fi.frozen (z7 _ _ e2.1) id).trans e2.2,by omega,by omega⟩,?_,ku,du,qb,HO.out.len⟩
   rw[HT.out];simp
  case round =>
   obtain⟨j,done,ks,ts,hj,EC,heq,ku,Zy,Pr,LC⟩:=hrel;have HAP:=z8 EC;have hit:=EC.it;by_cases xC:j<F.length
   ·obtain⟨c,hc⟩:∃ c,F[j]=c:=⟨_,rfl⟩;have hd:F.drop j=c::F.drop (j+1):=by rw[←hc];exact List.drop_eq_getElem_cons xC
    have hn:=Lib.run_next_ascii_at (P:=prog) wr I ⟨F.toArray⟩ j 0 hit (by rw[size_mk];exact xC) (by
     show(F[j]).toNat<128;exact Lt op _ (by rw[hFm];exact List.getElem_mem _))
    rw[show(ByteArray.mk F.toArray)[j]'(by rw[size_mk];exact xC)=c from hc] at hn;have QH:=EC.next (j+1);obtain⟨W5,tB⟩:∃ W5,wr.iterAt I ⟨F.toArray⟩ (j+1)=W5:=⟨_,rfl⟩;rw[tB] at hn QH;rw[hd] at heq ku;have HJ:=z8 (show W5.iterPos I=j+1 from iterPos_of QH.it);have HJ0:=z8 (show wr.iterPos I=j from iterPos_of EC.it);have HD:=z8 hd;clear tB hd EC hit hc;have dJ:c=107\/c=110\/c=118\/c=116\/c=42:=by
     unfold okB at ku;split at ku
     ·next h=>rcases h with h|h<;>simp[h]
     ·split at ku
      ·next h=>simp[h]
      ·split at ku
       ·next h=>simp[h]
       ·simp at ku;simp[ku.1]
    rcases dJ with rfl|rfl|rfl|rfl|rfl;iterate 2
     cases ks with
     | nil=>simp[okB] at ku
     | cons x ks =>
      have hx:=Zy x (by simp);have HQ:=z8 (show(done++kh x)++j8 (F.drop (j+1)) i.v ks ts=l++uU i by rw[←heq];simp[j8]);have HK:=z8 (show okB (F.drop (j+1)) ks.length ts.length=true by simpa[okB] using ku);have HC:=z8 (QH.ld hx (by have:=congrArg zx heq;have:=HL.out;simp only[zy] at *;omega));have tE:=z8 Zy;clear heq ku QH Zy hx;go_wp2_with fail;refine HC.out.mono ?_;rintro e W6 ⟨rfl,Ke⟩;have tH:=z8 (iterPos_of Ke.it);go_wp2;go_roundw
      case rel=>exact⟨j+1,_,ks,ts,xC,Ke,HQ.out,HK.out,fun y hy=>tE.out y (by simp[hy]),Pr,by simp at LC;omega⟩
      case measure=>rw[tH.out,HJ0.out];omega
    ·obtain⟨v,kv,tv,d1,d2,d3,dr,dk,dt,df,n1,n2,n3,n4,dq⟩:=QH.ex;have hv:=HO.out.v;have HQ:=z8 (show(done++Ys i.v)++j8 (F.drop (j+1)) i.v ks ts=l++uU i by rw[←heq];simp[j8]);have HK:=z8 (show okB (F.drop (j+1)) ks.length ts.length=true by simpa[okB] using ku);have HC:=z8 (TA v done i.v W5.drew (by exact dr) (by omega) (by have:=congrArg zx heq;have:=HL.out;simp only[zy] at *;omega));obtain⟨D,hD⟩:∃ D,done++Ys i.v=D:=⟨_,rfl⟩;rw[hD] at HQ HC;have BW:=z8 QH;have g2:=df.cell c2 hg;have hcv:IntKind.u32.wrap (i.v:Int)=(i.v:Int):=by simp[zV,zZ,zU];omega
     have z1:=QH.zB;have DF:=z8 df;clear heq ku QH dr dk dt dq df hD;go_wp2_with fail;refine rk (fun W':World=>W'.cell? ⟨B,0,none⟩=some v/\W'.cell? ⟨g,o+2,none⟩=some (.int .i64 i.v)) 7 [0,1,2,3,4,5] 2 ⟨d1,g2⟩ ?_;(iterate 6 (refine ty ?_;try simp only[pl]))
     refine xq ?_;refine xI 6 (by kernel_rfl) rfl (fun J hJ=>?_);go_simp;refine HC.out.mono ?_;rintro e W6 ⟨v',rfl,V3,ZU⟩;have Ke:=BW.out.more d1 V3 ZU.und;have z6:=(ZU.frozen (a:=⟨B,0,none⟩) (z7 _ _ d1) n1).trans z1;have k6:=ZU.cell (a:=⟨B,0,none⟩) (v:=v) d1 n1;have g6:=ZU.cell (a:=⟨g,o+2,none⟩) g2 (fun q=>(DF.out.fp _ q).elim hg (fun q=>by have:g<w.heap.size:=z7 w _ c2;have q2:w.heap.size<=g:=q;omega));refine hJ.out _ _ ⟨k6,g6⟩ fun _=>?_
     clear hJ J;refine xw 7 (by kernel_rfl) (by kernel_rfl) rfl (fun J hJ=>?_);obtain⟨a6,c6',rfl⟩:=xZ V3;go_simp;refine hJ.out _ _ ?_;clear hJ J;refine vz (by kernel_rfl) ?_ _;have tH:=z8 (iterPos_of Ke.it);have iL:=z8 Ke;clear Ke V3 ZU;go_wp2;go_roundw
     case rel=>exact⟨j+1,_,ks,ts,xC,iL.out,HQ.out,HK.out,Zy,Pr,LC⟩
     case measure=>rw[tH.out,HJ0.out];omega
    ·skip
     cases ts with
     | nil=>simp[okB] at ku
     | cons x ts =>
      have hx:=Pr x (by simp);have HQ:=z8 (show(done++kh x)++j8 (F.drop (j+1)) i.v ks ts=l++uU i by rw[←heq];simp[j8]);have HK:=z8 (show okB (F.drop (j+1)) ks.length ts.length=true by simpa[okB] using ku);have HC:=z8 (QH.tar hx (by have:=congrArg zx heq;have:=HL.out;simp only[zy] at *;omega));have tE:=z8 Pr;clear heq ku QH Pr hx;go_wp2_with fail;refine HC.out.mono ?_;rintro e W6 ⟨rfl,Ke⟩;have tH:=z8 (iterPos_of Ke.it);go_wp2;go_roundw
      case rel=>exact⟨j+1,_,ks,ts,xC,Ke,HQ.out,HK.out,Zy,fun y hy=>tE.out y (by simp[hy]),LC⟩
      case measure=>rw[tH.out,HJ0.out];omega
    ·obtain⟨v,kv,tv,d1,d2,d3,dr,dk,dt,df,n1,n2,n3,n4,dq⟩:=QH.ex;obtain⟨q1,q2,ku⟩:ks.length<ts.length/\okB (F.drop (j+1)) 0 (ts.length - (ks.length+1))=true/\True:=by simpa[okB] using ku
     have HK:=z8 q2;have HQ:=z8 (show(done++kh ks.length)++(Fa ks ts++j8 (F.drop (j+1)) i.v [] (ts.drop (ks.length+1)))=l++uU i by rw[←heq];simp[j8]);have HC:=z8 (OZ v done ks.length W5 (by exact dr) (by omega) (by have:=congrArg zx heq;have:=HL.out;simp only[zy] at *;omega));obtain⟨D,hD⟩:∃ D,done++kh ks.length=D:=⟨_,rfl⟩;rw[hD] at HQ HC;have BW:=z8 QH;obtain⟨ea,ec,rfl⟩:=dk.slice;clear heq ku QH dr dk dt dq df hD q2;go_wp2_with fail;refine HC.out.mono ?_;rintro e W6 ⟨v',rfl,V3,ZU⟩;have Ke:=BW.out.more d1 V3 ZU;have z6:=(ZU.frozen (a:=⟨B,0,none⟩) (z7 _ _ d1) n1).trans BW.out.zB;have k6:=ZU.cell (a:=⟨B,0,none⟩) (v:=v) d1 n1;obtain⟨a6,c6',rfl⟩:=xZ V3;have iL:=z8 Ke;clear Ke V3 ZU HC;go_wp2;go_loopw [] (fun tI=>∃ d2 k2 t2,FB w (.slice va n vc) B K T I ⟨F.toArray⟩ (j+1) d2 k2 t2 tI/\d2++(Fa k2 t2++j8 (F.drop (j+1)) i.v [] (ts.drop (ks.length+1)))=l++uU i/\t2.drop (k2.length+1)=ts.drop (ks.length+1)/\k2.length<t2.length/\(∀ x∈k2,x<=4000000000)/\(∀ x∈t2,x<=4000000000)) (fun tI=>Tc tI K)
     case atStart=>exact⟨D,ks,ts,iL.out,HQ.out,rfl,q1,Zy,Pr⟩
     case round =>
      clear iL BW;obtain⟨d2,k2,t2,EC,heq,hdr,Z1,lZ,r6⟩:=hrel
      cases t2 with
      | nil=>simp at Z1
      | cons t t2 =>
      have lY:=EC;obtain⟨v7,kv7,tv7,g1,g2,g3,-,gk,-,-,-,-,-,-,-⟩:=EC.ex;obtain⟨a7,c7,rfl⟩:=gk.slice;have hlen:(d2++kh t).length<=100000000:=by have:=congrArg zx heq;have:=HL.out;cases k2<;>simp only[zy,Fa,List.headD_cons,kh,zY,zX] at * <;> omega
      have r7:d2.length<=100000000:=by simp at hlen;omega
      have HM:=z8 EC.zg1;clear gk
      cases k2 with
      | nil =>
       have HC:=z8 (lY.tar (r6 t (by simp)) r7);have tL:=z8 heq;have Tl:=z8 hdr;clear EC lY heq hdr;go_wp2_with fail;refine HC.out.mono ?_;rintro e W8 ⟨rfl,Tn⟩;have tH:=z8 (iterPos_of Tn.it);go_wp2;go_roundw
       case rel =>
        have hd8:t2=ts.drop (ks.length+1):=Tl.out;refine⟨j+1,_,[],t2,xC,Tn,?_,?_,fun _ h=>by simp at h,fun y hy=>r6 y (by simp[hy]),by simp⟩
        ·rw[←tL.out,hd8];simp[Fa]
        ·rw[hd8];simpa using HK.out
       case measure=>rw[tH.out,HJ0.out];omega
      | cons x k2 =>
       obtain⟨n2,dy⟩:∃ n2,(x::k2).length=n2:=⟨_,rfl⟩;have TV:0<n2:=by rw[←dy];simp
       rw[dy] at g2;have k0:decide (0<n2)=true:=by simp[TV]
       have k1:decide ((0:Int)<(n2:Int))=true:=by simp;omega
       have HC:=z8 (lY.ld (lZ x (by simp)) r7);have tL:=z8 heq;have Tl:=z8 hdr;have iM:=z8 dy;clear EC lY heq hdr dy;go_wp2_with fail;refine HC.out.mono ?_;rintro e W8 ⟨rfl,Tn⟩;have HT8:=z8 (Tn.tar (r6 t (by simp)) (by simp only[zy,kh,zY,zX] at hlen ⊢;omega));go_wp2_with fail;refine HT8.out.mono ?_;rintro e W9 ⟨rfl,zg4⟩;have HM9:=z8 zg4.zg1;clear HT8 Tn;go_wp2;go_roundw
       case rel=>exact⟨_,k2,t2,zg4,by rw[←tL.out];simp[Fa],by simpa using Tl.out,by simp at Z1;omega,fun y hy=>lZ y (by simp[hy]),fun y hy=>r6 y (by simp[hy])⟩
       case measure=>rw[HM9.out,HM.out];simp
   ·have hn:=Lib.run_next_end_at (P:=prog) wr I ⟨F.toArray⟩ j 0 hit (by rw[size_mk];exact xC);obtain⟨v,kv,tv,d1,d2,d3,dr,dk,dt,df,n1,n2,n3,n4,dq⟩:=EC.ex;have hFe:F.drop j=[]:=List.drop_of_length_le (by omega);rw[hFe] at heq;have tL:=z8 (show done=l++uU i by rw[←heq];simp[j8]);have Tl:=z8 dr;have HDF:=z8 df;clear EC heq ku dr df dk dt dq hit;go_wp2;go_ret;rw[←tL.out];exact⟨v,rfl,Tl.out,HDF.out⟩
end Go.Proofs.YthpldolmpinnhaaGreatDoor
