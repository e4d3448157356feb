import Derived.Test.YthpldolmpinnhaaGreatDoorJG3
import Derived.OneCell
set_option maxHeartbeats 64000000
open Go.World renaming block_lt_of_cell?→z7,frozen?_setCell→zx
open Nat renaming lt_of_lt_of_le→z8,le_trans→zv,le_refl→zf
open Go.Lib renaming hid→zy
open Go.Region renaming wanted→zu,ready→zk,noSelect→zg
open Array renaming replicate→zj
open Go.Addr renaming block→zZ
open Go.RowKit.Below renaming refl→zY
open Go.Value renaming oneCell'→zX
open Go.Proofs.Tryz
namespace Go.Proofs.YthpldolmpinnhaaGreatDoor
open Go Go.RowKit
set_option maxRecDepth 10000
structure Fr(F F':Nat->Prop)(w w':World):Prop where
 os:w'.os=w.os
 tape:w'.tape=w.tape
 output:w'.output=w.output
 size:w.heap.size<=w'.heap.size
 keep:∀ k,k<w.heap.size->¬F k->w'.heap[k]? = w.heap[k]?
 fp:∀ k,F' k->F k\/w.heap.size<=k
namespace Fr
variable {F F' F'' G:Nat->Prop} {w w' Qm:World}
theorem refl(F:Nat->Prop)(w:World):Fr F F w w:=⟨rfl,rfl,rfl,zf _,fun _ _ _=>rfl,fun _ h => .inl h⟩
theorem trans(h:Fr F F' w w')(k:Fr F' F'' w' Qm):Fr F F'' w Qm :=
 ⟨k.os.trans h.os,k.tape.trans h.tape,k.output.trans h.output,zv h.size k.size,
  fun i hi hn=>(k.keep i (z8 hi h.size) (fun hf=>(h.fp i hf).elim hn (fun q=>by omega))).trans (h.keep i hi hn),
  fun i hi=>(k.fp i hi).elim (h.fp i) (fun q => .inr (zv h.size q))⟩
theorem wide(h:Fr F F' w w')(hF:∀ k,F k->G k):Fr G G w w':=⟨h.os,h.tape,h.output,h.size,fun k hk hn=>h.keep k hk (fun q=>hn (hF k q)),fun _ q => .inl q⟩
theorem tg(h:Fr F F' w w')(hF:∀ k,F'' k->F k\/w.heap.size<=k):Fr F F'' w w':=⟨h.os,h.tape,h.output,h.size,h.keep,hF⟩
theorem of(h:Below w.heap.size w w'):Fr F F w w':=⟨h.os,h.tape,h.output,h.size,fun k hk _=>h.block k hk,fun _ q => .inl q⟩
theorem below(h:Fr F F' w w')(hb:Below w'.heap.size w' Qm):Fr F F' w Qm:=h.trans (of hb)
theorem b6{B:Nat}(h:Fr F F' w w')(hb:Below B w' Qm)(hB:w.heap.size<=B):Fr F F' w Qm :=
 ⟨hb.os.trans h.os,hb.tape.trans h.tape,hb.output.trans h.output,zv h.size hb.size,fun k hk hn=>(hb.block k (by omega)).trans (h.keep k hk hn),h.fp⟩
theorem und(h:Fr F F' w.drew w'):Fr F F' w w':=⟨h.os,h.tape,h.output,h.size,h.keep,h.fp⟩
theorem drew(h:Fr F F' w w'):Fr F F' w w'.drew:=⟨h.os,h.tape,h.output,h.size,h.keep,h.fp⟩
theorem alloc(h:Fr F F' w w')(o:Obj):Fr F F' w (w'.alloc o):=h.below ((zY _ _).alloc (zf _) _)
theorem set(h:Fr F F' w w'){a:Addr}(u:Value)(ha:F a.block\/w.heap.size<=a.block):Fr F F' w (w'.setCell a u) :=
 ⟨h.os,h.tape,h.output,by simpa[World.setCell] using h.size,fun k hk hn=>(Below.heap_setCell _ _ _ _ (fun q=>by rcases ha with e|e;exact hn (q▸e);omega)).trans (h.keep k hk hn),h.fp⟩
theorem grown{r:Option Nat}(h:Fr F F' w w')(hg:w'.grownBy Qm r)(hr:∀ g,r=some g->F g\/w.heap.size<=g):Fr F F' w Qm :=
 ⟨hg.os.trans h.os,hg.tape.trans h.tape,hg.output.trans h.output,zv h.size hg.size,fun k hk hn=>(hg.block k (z8 hk h.size) (fun e=>(hr k e.symm).elim hn (fun q=>by omega))).trans (h.keep k hk hn),h.fp⟩
theorem cell(h:Fr F F' w w'){a:Addr}{v:Value}(hc:w.cell? a=some v)(ha:¬F a.block):w'.cell? a=some v :=
 (World.cell?_of_block (h.keep a.block (z7 w a hc) ha)).trans hc
theorem frozen(h:Fr F F' w w'){a:Addr}(hl:a.block<w.heap.size)(ha:¬F a.block):w'.frozen? a=w.frozen? a:=World.frozen?_of_block (h.keep a.block hl ha)
theorem low{B:Nat}(h:Fr F F' w w')(hF:∀ k,F k->B<=k)(hB:B<=w.heap.size):Below B w w':=⟨h.os,h.tape,h.output,h.size,fun k hk=>h.keep k (by omega) (fun q=>by have:=hF k q;omega)⟩
theorem own{base size n:Nat}{e:TypeId}{v:Value}{xs:List Value}(h:Fr F F' w w')(ho:w.ownsRow base e size v n xs)(hv:∀ g,v.ownBlock=some g->¬F g):w'.ownsRow base e size v n xs:=by
 obtain⟨h1,h2⟩:=ho;refine⟨h1,?_⟩;rcases h2 with hn|⟨g,cap,cur,e1,e2,e3,e4⟩
 .exact .inl hn
 .exact .inr ⟨g,cap,cur,e1,e2,(h.keep g (Array.getElem?_eq_some_iff.1 e3).1 (hv g (by rw[e1];rfl))).trans e3,e4⟩
end Fr
abbrev xI(_:Nat):Prop:=False
abbrev xY(v:Value)(k:Nat):Prop:=v.ownBlock=some k
theorem ui{w:World}{base size n:Nat}{e:TypeId}{v:Value}{xs:List Value}(h:w.ownsRow base e size v n xs){g:Nat}(hg:xY v g):g<w.heap.size:=(h.lt g hg).2
theorem xQ{w:World}{a:Addr}{v:Value}(h:w.cell? a=some v)(o:Obj):(w.alloc o).cell? a=some v:=(World.cell?_alloc_lt _ _ _ (z7 w a h)).trans h
theorem uV{w:World}{a b:Addr}{v:Value}(h:w.cell? a=some v)(u:Value)(hn:b.block≠a.block):(w.setCell b u).cell? a=some v:=by rw[xk,if_neg (fun e=>hn (by rw[e]))];exact h
theorem uy{w:World}{a:Addr}{v:Value}(h:w.cell? a=some v)(u:Value):(w.setCell a u).cell? a=some u:=by rw[xk,if_pos rfl,h];rfl
theorem Uc{P:Program}{t e te:TypeId}{z:Value}{size bytes:Nat}(E:ZS P t e z size bytes){w:World}{ops:Array Oper}{rest:List Oper}{o:Oper}{a:Act}{Q:Exit->Act->World->Prop}
  (news:List Value) (m:Nat) {s x:Operand} {v:Value} {n:Nat} {xs:List Value} (xV:w.ownsRow 0 e size v n xs)
  (MS:n+m<=2147483648) (h:∀ v' w',w'.ownsRow 0 e size v' (n+m) (xs++news)->Fr (xY v) (xY v') w w'->wpList P ops Q rest (a.put o.dst v') w')
  (GV:o.guard=none:=by rfl) (ho:o.op = .call { callee := .builtin .append,args:=#[s,x],argTypes:=#[t,t] }:=by rfl) (hs:a.eval s=v:=by rfl) (hx:a.eval x = .slice (some ⟨w.heap.size,0,none⟩) m m:=by rfl)
  (hl:news.length=m*size:=by rfl) (h1:∀ u∈news,u.oneCell'=true:=by simp[Value.oneCell']):wpList P ops Q (o::rest) a (w.alloc (.cells news.toArray te)):=by
 have hb:Below w.heap.size w (w.alloc (.cells news.toArray te)):=(zY _ _).alloc (zf _) _;refine N8 E GV s x ho 0 v n xs hs ((Fr.of hb (F:=fun _=>False)).own xV (fun _ _ q=>q)) _ m m news hx hl (fun j u hu=>by rw[uR,xu];simpa using hu) h1 MS (Nat.zero_le _) (fun v' w' ho hg hw=>h v' w' ho ?_);have xB:=xV.lt;refine⟨hg.os.trans hb.os,hg.tape.trans hb.tape,hg.output.trans hb.output,zv hb.size hg.size,fun k hk hn=>(hg.block k (z8 hk hb.size) (fun e=>hn e.symm)).trans (hb.block k hk),fun k hk=>?_⟩;rcases hw with e|e
 .exact .inl (e.symm.trans hk)
 .exact .inr (by rw[xY,e] at hk;cases hk;exact hb.size)
theorem XK{P:Program}{t e te:TypeId}{z:Value}{size bytes:Nat}(E:ZS P t e z size bytes){w:World}{o:Oper}{a:Act}{K:Act->World->Prop}{Q:Exit->Act->World->Prop}
  (news:List Value) (m:Nat) {s x:Operand} {v:Value} {n:Nat} {xs:List Value} (xV:w.ownsRow 0 e size v n xs)
  (MS:n+m<=2147483648) (h:∀ v' w',w'.ownsRow 0 e size v' (n+m) (xs++news)->Fr (xY v) (xY v') w w'->K (a.put o.dst v') w')
  (ho:o.op = .call { callee := .builtin .append,args:=#[s,x],argTypes:=#[t,t] }:=by rfl) (hs:a.eval s=v:=by rfl) (hx:a.eval x = .slice (some ⟨w.heap.size,0,none⟩) m m:=by rfl)
  (hl:news.length=m*size:=by rfl) (h1:∀ u∈news,u.oneCell'=true:=by simp[Value.oneCell']):o.wp P a (w.alloc (.cells news.toArray te)) K Q:=by
 have hb:Below w.heap.size w (w.alloc (.cells news.toArray te)):=(zY _ _).alloc (zf _) _;refine zyf E s x ho 0 v n xs hs ((Fr.of hb (F:=fun _=>False)).own xV (fun _ _ q=>q)) _ m m news hx hl (fun j u hu=>by rw[uR,xu];simpa using hu) h1 MS (Nat.zero_le _) (fun v' w' ho hg hw=>h v' w' ho ?_);refine⟨hg.os.trans hb.os,hg.tape.trans hb.tape,hg.output.trans hb.output,zv hb.size hg.size,fun k hk hn=>(hg.block k (z8 hk hb.size) (fun e=>hn e.symm)).trans (hb.block k hk),fun k hk=>?_⟩;rcases hw with e|e
 .exact .inl (e.symm.trans hk)
 .exact .inr (by rw[xY,e] at hk;cases hk;exact hb.size)
section
variable {P:Program} {ops:Array Oper} {Q:Exit->Act->World->Prop} {md:Region.Mode} {S:World->Prop}
theorem ty{K:Act->Prop}{l:List Oper}{i:Nat}{is:List Nat}{a:Act}{o:Oper}{v:Value}(h:takes P l.toArray S K is (a.put o.dst v))(ho:bN l i=some o:=by rfl)(hw:zu o (yielded l.toArray a.tmps)=true:=by rfl)
  (hy:∀ w,S w->(execOp a.eval o).run P w = .ok (.value v) w:=by intro w' tB;(try dsimp only at tB);go_simp;try(with_reducible rfl)):takes P l.toArray S K (i::is) a:=K9 ho hw hy h
theorem tn{K:Act->Prop}{l:List Oper}{i:Nat}{is:List Nat}{a:Act}{o:Oper}(h:takes P l.toArray S K is (a.put o.dst undef))(ho:bN l i=some o:=by rfl)(hw:zu o (yielded l.toArray a.tmps)=false:=by rfl):takes P l.toArray S K (i::is) a:=Ag ho hw h
end
section
variable {P:Program} {Q:Exit->Act->World->Prop} {id:Nat} {l:List Oper} {a:Act} {w:World}
theorem rt(S:World->Prop)(is:List Nat)(fuel:Nat)(hS:S w.drew)
  (h:takes P l.toArray S (fun a'=>wpAnyH P .any l.toArray Q S fuel (dw (zj l.toArray.size false) is) a' w.drew) is a)
  (hQ:∀ c a d v w,Q (.panic c) (a.put d v) w->Q (.panic c) a w:=by intro _ _ d _ _ h;cases d<;>exact h) (hm:P.follows .mixedOrders=true:=by kernel_rfl)
  (hn:(zg l.toArray && decide (l.length=fuel+is.length) && U2 .any l.toArray is (zj l.toArray.size false))=true:=by kernel_rfl):(Code.region id l.toArray true).wp P Q a w:=ue S is fuel hQ hm hn hS h
theorem rk(S:World->Prop)(k:Nat)(is:List Nat)(fuel:Nat)(hS:S w.drew)
  (h:takes P l.toArray S (fun a'=>qp P .any l.toArray Q S k fuel (dw (zj l.toArray.size false) is) a' w.drew) is a)
  (hQ:∀ c a d v w,Q (.panic c) (a.put d v) w->Q (.panic c) a w:=by intro _ _ d _ _ h;cases d<;>exact h) (hm:P.follows .mixedOrders=true:=by kernel_rfl)
  (hn:(zg l.toArray && decide (l.length=fuel+is.length) && Vk .any l.toArray k is (zj l.toArray.size false))=true:=by kernel_rfl):(Code.region id l.toArray true).wp P Q a w:=Kz S k is fuel hQ hm hn hS h
end
theorem pl:(∀ a d v,Act.put a (some d) v={ a with tmps:=a.tmps.setIfInBounds d v })/\(∀ a v,Act.put a none v=a)/\(∀ (l:List Value) i v,l.toArray.setIfInBounds i v=(l.set i v).toArray)/\(∀ (a:Value) l v,(a::l).set 0 v=v::l)/\∀ (a:Value) l n v,(a::l).set (n+1) v=a::l.set n v :=
 ⟨fun _ _ _=>rfl,fun _ _=>rfl,fun _ _ _=>List.setIfInBounds_toArray ..,fun _ _ _=>rfl,fun _ _ _ _=>rfl⟩
theorem xX{α:Type}(a:α):∃ x,a=x:=⟨a,rfl⟩
section
variable {P:Program} {Q:Exit->Act->World->Prop} {md:Region.Mode} {S:World->Prop} {l:List Oper} {w:World} {fuel:Nat} {listed:Array Bool} {a:Act} {o:Oper}
theorem jx(i:Nat)(h:∀ K':Act->World->Prop,Shut (∀ a w,S w->(S w->wpAnyH P md l.toArray Q S fuel (listed.setIfInBounds i true) a w)->K' a w)->if zu o (yielded l.toArray a.tmps)=true then Oper.wp P o a w K' Q else K' (a.put o.dst undef) w)
  (hr:zk md l.toArray listed=[i]:=by kernel_rfl) (ho:bN l i=some o:=by rfl):wpAnyH P md l.toArray Q S (fuel+1) listed a w:=Hr i hr ho h
theorem UN{k:Nat}(i:Nat)(h:∀ K':Act->World->Prop,Shut (∀ a w,S w->(S w->qp P md l.toArray Q S k fuel (listed.setIfInBounds i true) a w)->K' a w)->if zu o (yielded l.toArray a.tmps)=true then Oper.wp P o a w K' Q else K' (a.put o.dst undef) w)
  (hr:zk md l.toArray listed=[i]:=by kernel_rfl) (ho:bN l i=some o:=by rfl):qp P md l.toArray Q S k (fuel+1) listed a w:=Ht i hr ho h
theorem BZ{k:Nat}(i:Nat)(h:∀ K':Act->World->Prop,Shut (∀ a w,qp P md l.toArray Q S k fuel (listed.setIfInBounds i true) a w->K' a w)->if zu o (yielded l.toArray a.tmps)=true then Oper.wp P o a w K' Q else K' (a.put o.dst undef) w)
  (hr:zk md l.toArray listed=[i]:=by kernel_rfl) (hk:(listed.setIfInBounds i true).getD k false=true:=by kernel_rfl) (ho:bN l i=some o:=by rfl):qp P md l.toArray Q S k (fuel+1) listed a w:=Hh i hr hk ho h
theorem b7(h:Q .normal a w)(n:Nat)(hr:zk md l.toArray listed=[]:=by kernel_rfl):wpAnyH P md l.toArray Q S n listed a w:=wpAnyH_done hr h n
theorem BX{k:Nat}(h:Q .normal a w)(n:Nat)(hr:zk md l.toArray listed=[]:=by kernel_rfl):qp P md l.toArray Q S k n listed a w:=Hw hr h n
theorem VA(is:List Nat)(n:Nat)(hS:S w)(h:takes P l.toArray S (fun a'=>wpAnyH P md l.toArray Q S n (dw listed is) a' w) is a)(hQ:∀ c a d v w,Q (.panic c) (a.put d v) w->Q (.panic c) a w:=by intro _ _ d _ _ h;cases d<;>exact h)
  (hf:fuel=n+is.length:=by rfl) (hs:zg l.toArray=true:=by kernel_rfl) (hB:U2 md l.toArray is listed=true:=by kernel_rfl):wpAnyH P md l.toArray Q S fuel listed a w:=Hp is n hf hQ hs hB hS h
end
theorem GJ:ZS prog 48 5 (.int .u8 0) 1 1 :=
 ⟨underlying48,info_parts (by kernel_rfl),rfl,by decide,by decide⟩
def JI(l:Wd):List Value:=l.map fun c => .int .u8 c.toNat
theorem I0(a b:Wd):JI (a++b)=JI a++JI b:=by simp[JI]
abbrev Ue(w:World)(v:Value)(l:Wd):Prop:=w.ownsRow 0 5 1 v l.length (JI l)
def bt(x:Nat):UInt8:=UInt8.ofNat x
def jb(x:Nat):Wd:=[bt (x / 256),bt x]
def XJ(x:Nat):Wd:=[bt (x / 16777216),bt (x / 65536),bt (x / 256),bt x]
theorem Af(x:Nat):((bt x).toNat:Int)=(x:Int) % 256:=by simp[bt]
def Ad(v:Value)(l:Wd)(w:World)(e:Ending)(w':World):Prop:=∃ v',e = .returned v'/\Ue w' v' l/\Fr (xY v) (xY v') w w'
theorem Pa(v:Value)(l:Wd)(x:Nat)(w:World)(h:Ue w v l)(hx:x<=4000000000)(hl:l.length<=2000000000) :
  Calls prog 54 #[v,.int .i64 x] w (Ad v (l++jb x) w):=by
 have HX:=zy (show[Value.int .u8 ((x:Int) / 256 % 256),.int .u8 ((x:Int) % 256)]=JI (jb x) by simp[JI,jb,Af]);obtain⟨n,hn⟩:=xX l.length;dsimp only[Ue] at h;rw[hn] at h hl;obtain⟨a,cap,rfl⟩:=xf h;have HN:=zy hn;have HH:=zy h;clear h hn;go_enter func54,ntmps54;go_wp2_with (at_builtin;refine Uc GJ [_,_] 2 HH.out (by omega) ?_);intro v' w' ho hf;obtain⟨na,nc,rfl⟩:=xf ho;have HO:=zy ho;have HF:=zy hf;clear ho hf;go_wp2;go_ret;refine⟨_,rfl,?_,HF.out⟩;have:=HO.out;rw[HX.out] at this;simpa[Ue,I0,HN.out,jb] using this
theorem Ab(v:Value)(l:Wd)(x:Nat)(w:World)(h:Ue w v l)(hx:x<4294967296)(hl:l.length<=2000000000) :
  Calls prog 56 #[v,.int .u32 x] w (Ad v (l++XJ x) w):=by
 have HX:=zy (show[Value.int .u8 ((x:Int) / 16777216),.int .u8 ((x:Int) / 65536 % 256),.int .u8 ((x:Int) / 256 % 256),.int .u8 ((x:Int) % 256)]=JI (XJ x) by simp[JI,XJ,Af];omega);obtain⟨n,hn⟩:=xX l.length;dsimp only[Ue] at h;rw[hn] at h hl;obtain⟨a,cap,rfl⟩:=xf h;have HN:=zy hn;have HH:=zy h;clear h hn;go_enter func56,ntmps56;go_wp2_with (at_builtin;refine Uc GJ [_,_,_,_] 4 HH.out (by omega) ?_);intro v' w' ho hf;obtain⟨na,nc,rfl⟩:=xf ho;have HO:=zy ho;have HF:=zy hf;clear ho hf;go_wp2;go_ret;refine⟨_,rfl,?_,HF.out⟩;have:=HO.out;rw[HX.out] at this;simpa[Ue,I0,HN.out,XJ] using this
structure gM(w:World)(v:Value)(l:List Nat):Prop where
 ex:∃ a cap,v = .slice a l.length cap/\l.length<=cap/\cap<=maxLen/\∀ j (h:j<l.length),∃ b,a=some b/\w.cell? (b.add j)=some (.int .i64 l[j])
def Va:Value->Value
 | .slice (some a) n cap => .slice (some (if cap=1 then a else a.add 1)) (n - 1) (cap - 1)
 | v=>v
theorem N9(b:Addr)(m cap:Nat)(h:m+1<=cap)(w:World):(Instr.slice 39 (.slice (some b) (m+1) cap) (some (.int .i64 1)) none none).run prog w = .ok (Va (.slice (some b) (m+1) cap)) w:=by
 have h2:(1:Int)<=(m:Int)+1:=by omega
 simp[Instr.slice,Instr.sliceBounds,Instr.sliceBound,run_underlying underlying39,asIntOf,Va,go_sem,h2];split<;>rfl
theorem gM.tail{w:World}{v:Value}{x:Nat}{l:List Nat}(h:gM w v (x::l)):gM w (Va v) l:=by
 obtain⟨a,cap,rfl,h1,h2,h3⟩:=h.ex;obtain⟨b,rfl,hb⟩:=h3 0 (by simp);by_cases hc:cap=1
 .subst hc;have:l=[]:=by cases l with|nil=>rfl|cons _ _=>simp at h1
  subst this;exact⟨some b,0,by simp[Va],by simp,by unfold maxLen;omega,fun j hj=>absurd hj (Nat.not_lt_zero j)⟩
 .refine⟨some (b.add 1),cap - 1,by simp[Va,hc],by simp at h1;omega,by omega,fun j hj=>⟨_,rfl,?_⟩⟩;obtain⟨b',e,hb'⟩:=h3 (j+1) (by simp;omega)
  cases e;rw[show(b.add 1).add j=b.add (j+1) by simp[Addr.add_add,Nat.add_comm]];simpa using hb'
structure yqf(B K:Nat)(v:Value)(l:Wd)(kv:Value)(w:World)(e:Ending)(w':World):Prop where
 ret:e = .returned (.tuple #[])
 ex:∃ v',w'.cell? ⟨B,0,none⟩=some v'/\Ue w' v' l/\(∀ q,xY v' q->xY v q\/w.heap.size<=q)/\Fr (fun k=>k=B\/k=K\/xY v k) (fun k=>k=B\/k=K\/xY v' k) w w'
 c:w'.cell? ⟨K,0,none⟩=some kv
 z:w'.frozen? ⟨B,0,none⟩=false/\w'.frozen? ⟨K,0,none⟩=false
def AZ(f:FuncId):Prop:=∀ (B K:Nat) (v kv:Value) (l:Wd) (x:Nat) (ks:List Nat) (w:World),w.cell? ⟨B,0,none⟩=some v->w.frozen? ⟨B,0,none⟩=false->w.cell? ⟨K,0,none⟩=some kv->w.frozen? ⟨K,0,none⟩=false ->
  Ue w v l->gM w kv (x::ks)->B≠K->¬xY v B->¬xY v K->(∀ k,kv.ownBlock=some k->¬xY v k/\k≠B/\k≠K)->x<=4000000000->l.length<=100000000 ->
  Calls prog f #[.pointer (some ⟨B,0,none⟩),.pointer (some ⟨K,0,none⟩)] w (yqf B K v (l++jb x) (Va kv) w)
theorem I3:AZ 88/\AZ 89:=by
 constructor<;>(
  intro B K v kv l x ks w hB zB hK zK hr hn vy h1 h2 h3 hx hl;have HR:=zy hr;obtain⟨a,cap,rfl,k1,k2,k3⟩:=hn.ex;obtain⟨b,rfl,hb⟩:=k3 0 (by simp);obtain⟨m,hm⟩:=xX ks.length;simp only[List.length_cons,hm] at k1 hK;obtain⟨Zf,h4⟩:=h3 b.block rfl;have HT:=zy (Pa v l x w.drew (by exact hr) hx (by omega));obtain⟨L,hL⟩:=xX (l++jb x);rw[hL] at HT |-
  clear k3 hn h3 hL;have HM:=zy hm;clear hm;have hb':w.drew.cell? b=some (.int .i64 x):=by
   have e:b.add 0=b:=by unfold Addr.add;split<;>simp_all
   rw[e] at hb;exact hb
  obtain⟨ad,Ky⟩:∃ ad,Va (.slice (some b) (m+1) cap) = .slice (some ad) m (cap - 1):=⟨_,rfl⟩;have hs:=N9 b m cap k1;rw[Ky] at hs;have HS:=zy hs;clear hs;first|(go_enter func88,ntmps88)|(go_enter func89,ntmps89)
  go_wp2_with fail;refine rk (fun W':World=>W'.cell? ⟨K,0,none⟩=some (.slice (some b) (m+1) cap)/\W'.cell? b=some (.int .i64 x)) 8 [1,2,3,5,6] 4 ⟨hK,hb'⟩ ?_;(iterate 4 (refine ty ?_;try simp only[pl]))
  refine ty (v := .slice (some ad) m (cap - 1)) ?_ (hy:=fun w' _=>by have hs:=HS.out w';simp[execOp,go_sem,hs]);try simp only[pl]
  refine xq ?_;refine UN 0 (fun J hJ=>?_);go_simp;refine hJ.out _ _ ⟨hK,hb'⟩ fun _=>?_
  clear hJ J;refine UN 4 (fun J hJ=>?_);go_simp;refine HT.out.mono ?_;rintro e w1 ⟨v',rfl,VB,hf⟩;have e1:=hf.cell (a:=⟨K,0,none⟩) (v := .slice (some b) (m+1) cap) hK h2;have e2:=hf.cell hb' Zf;have e3:=hf.cell (a:=⟨B,0,none⟩) (v:=v) hB h1;have z1:=(hf.frozen (a:=⟨B,0,none⟩) (z7 w _ hB) h1).trans zB;have z2:=(hf.frozen (a:=⟨K,0,none⟩) (z7 w _ hK) h2).trans zK;obtain⟨na,nc,rfl⟩:=xf VB;have HF:=zy hf;have fI:=zy VB;refine hJ.out _ _ ⟨e1,e2⟩ fun _=>?_
  clear hJ J hf VB;refine UN 7 (fun J hJ=>?_);go_simp;refine hJ.out _ _ ⟨by rw[xk,if_neg (fun e=>vy (congrArg zZ e))];exact e1,by rw[xk,if_neg (fun e=>h4.1 (congrArg zZ e).symm)];exact e2⟩ fun _=>?_
  clear hJ J;have e4:(w1.setCell ⟨B,0,none⟩ (.slice na L.length nc)).cell? ⟨K,0,none⟩=some (.slice (some b) (m+1) cap):=by rw[xk,if_neg (fun e=>vy (congrArg zZ e))];exact e1
  refine BZ 8 (fun J hJ=>?_);go_simp;refine hJ.out _ _ ?_;clear hJ J;refine BX ?_ _;go_wp2;refine bodyPost_ret (v := .tuple #[]) ?_ rfl ?_
  .simp[results,results88,results89,go_sem]
  rw[show Va (.slice (some b) (ks.length+1) cap) = .slice (some ad) m (cap - 1) by rw[HM.out];exact Ky];refine⟨rfl,⟨_,by rw[xk,if_neg (fun e=>vy (congrArg zZ e).symm),xk,if_pos rfl,e3];rfl,?_,HF.out.fp,?_⟩,by rw[xk,if_pos rfl,e4];rfl,by rw[zx,zx];exact z1,by rw[zx,zx];exact z2⟩
  .exact ownsRow_setCell_other (ownsRow_setCell_other fI.out (fun e=>(HF.out.fp _ e).elim h1 (fun q=>Nat.lt_irrefl _ (z8 (z7 w _ hB) q))) _) (fun e=>(HF.out.fp _ e).elim h2 (fun q=>Nat.lt_irrefl _ (z8 (z7 w _ hK) q))) _
  .have h:=HF.out;exact((show Fr (fun k=>k=B\/k=K\/xY v k) (fun k=>k=B\/k=K\/xY _ k) w w1 from⟨h.os,h.tape,h.output,h.size,fun k hk hn=>h.keep k hk (fun q=>hn (.inr (.inr q))),fun k hk=>by
    rcases hk with q|q|q
    .exact .inl (.inl q)
    .exact .inl (.inr (.inl q))
    .exact(h.fp k q).imp (fun q => .inr (.inr q)) id⟩).set _ (.inl (.inl rfl))).set _ (.inl (.inr (.inl rfl))))
end Go.Proofs.YthpldolmpinnhaaGreatDoor
