import Derived.Test.YthpldolmpinnhaaGreatDoorJG39
import Derived.Recover
set_option maxHeartbeats 64000000
open Go.Lib renaming hid→z7
open List renaming length_append→z8,mem_append→zv,mem_singleton→zk,getD_eq_getElem?_getD→zf,length_cons→zZ,getElem?_eq_getElem→zY,take_succ_eq_append_getElem→zV,length_singleton→zU,mem_cons→zF,take_of_length_le→zI,cons_append→zL,map_append→zM,length_map→zN,foldl_cons→zO
open Nat renaming le_refl→zy,le_trans→zQ,zero_le→zE
open Go.World renaming frozen?_of_block→zx,block_lt_of_cell?→zu,frozen?_setCell→zj,ownsRow_nil→zJ,cell?_of_block→zD,setCell→zH
open Go.RowKit.Below renaming refl→zg
open And renaming intro→zX
open Go.Value renaming slice→zG
open Go.Instr renaming makeFunc→zP
open Go.Proofs.Tryz
namespace Go.Proofs.YthpldolmpinnhaaGreatDoor
open Go Go.RowKit
set_option maxRecDepth 10000
def NZ{α:Type}(x:qF α):Prop:=∀ e,x = .error e->e.1≠0
section
variable {α β:Type}
theorem NZ.ok(x:α×Nat):NZ (.ok x:qF α):=fun _ h=>by cases h
theorem NZ.err{n a:Nat}(h:n≠0):NZ (.error (n,a):qF α):=fun _ e=>by cases e;exact h
theorem NZ.then{x:qF α}{k:α->Nat->qF β}(h:NZ x)(hk:∀ a i,NZ (k a i)):NZ (x.then k):=by
 cases x with
 | error e=>intro e' he;cases he;exact h e rfl
 | ok p=>exact hk p.1 p.2
end
section
variable (rs:List Int)
theorem X2(r:Int)(i:Nat):NZ (vR rs r i):=by unfold vR;split;exact .ok _;exact .err (by decide)
theorem H6(i:Nat):NZ (gK rs i):=by unfold gK;split;exact .err (by decide);exact .ok _
theorem MN(i:Nat):NZ (kK rs i):=by unfold kK;split;exact .err (by decide);exact .ok _
theorem zfd(num:Bool)(i:Nat):NZ (Kg rs num i):=by
 unfold Kg;split
 .exact(MN rs _).then fun _ _ => .ok _
 .exact(H6 rs _).then fun _ _=>by split;exact .err (by decide);exact .ok _
theorem tZ(m:Option kN)(hm:∀ x,m=some x->∀ b i,NZ (x b i))(num:Bool)(k:Wd)(i o l:Nat):NZ (XH rs m num k i o l):=by
 cases m with
 | none=>exact .err (by decide)
 | some x=>exact(hm x rfl num l).then fun _ _=>(X2 rs _ _).then fun _ _ => .ok _
theorem zfb(m:Option kN)(hm:∀ x,m=some x->∀ b i,NZ (x b i))(num:Bool)(i:Nat):NZ (Xv rs m num i) :=
 (zfd rs num i).then fun _ _=>(X2 rs _ _).then fun _ _=>tZ rs m hm _ _ _ _ _
theorem Sk(m:Option kN)(hm:∀ x,m=some x->∀ b i,NZ (x b i))(num:Bool):∀ (n:Nat) (acc:Fo) (i:Nat),NZ (ji rs m num n acc i)
 | 0,_,_ => .err (by decide)
 | n+1,acc,i=>by
  unfold ji;split
  .exact .ok _
  .exact(zfb rs m hm num i).then fun _ _=>Sk m hm num n _ _
theorem zd0(form i:Nat):NZ (JN rs form i):=by
 unfold JN;split
 .exact(MN rs _).then fun _ _ => .ok _
 .exact .ok _
theorem zd1(m:Option kN)(hm:∀ x,m=some x->∀ b i,NZ (x b i))(i:Nat):NZ (YI rs m i):=by
 refine(X2 rs _ _).then fun _ a=>(H6 rs _).then fun name b=>?_
 split
 .exact(X2 rs _ _).then fun _ _ => .ok _
 .refine(H6 rs _).then fun w c=>?_
  split
  .exact(X2 rs _ _).then fun _ _ => .ok _
  .split
   .exact .err (by decide)
   .exact(X2 rs _ _).then fun _ d=>(zd0 rs _ _).then fun o l=>(Sk rs m hm _ _ _ _).then fun _ _=>(X2 rs _ _).then fun _ _ => .ok _
theorem MO(m:Option kN)(hm:∀ x,m=some x->∀ b i,NZ (x b i))(num:Bool):∀ (n:Nat) (acc:Fo) (i:Nat),NZ (qI rs m num n acc i)
 | 0,_,_ => .err (by decide)
 | n+1,acc,i=>by
  unfold qI;split
  .exact .ok _
  .split
   .exact(zd1 rs m hm i).then fun _ _=>MO m hm num n _ _
   .split
    .exact MO m hm num n _ _
    .exact MO m hm num n _ _
theorem nZ:∀ (n:Nat) (b:Bool) (i:Nat),NZ (YL rs n b i)
 | 0,b,i=>MO rs none (fun _ h=>by cases h) b _ _ _
 | n+1,b,i=>MO rs _ (fun x h=>by cases h;exact nZ n) b _ _ _
theorem nY:NZ (YM rs):=(nZ rs 5 false 0).then fun _ _=>by split;exact .ok _;exact .err (by decide)
end
theorem nX{σ:Type}(P:σ->Prop)(F:σ->Fo->Out σ)(hF:∀ s f,P s->match F s f with | .go _ s=>P s | .XO _ s=>P s):∀ (f:Fo) (s:σ),P s->match xO F f s with | .go _ s=>P s | .XO _ s=>P s:=by
 have key:∀ (x:Out σ) (k:σ->Out σ),(match x with | .go _ s=>P s | .XO _ s=>P s)->(∀ s,P s->match k s with | .go _ s=>P s | .XO _ s=>P s)->match x.then k with | .go _ s=>P s | .XO _ s=>P s:=by
  intro x k hx hk;match x,hx with
  | .go true s,hx=>exact hk s hx
  | .go false s,hx=>exact hx
  | .XO _ s,hx=>exact hx
 intro f;induction f with
 | nil=>exact fun s h=>h
 | text t r ih=>exact fun s h=>ih s h
 | hash r ih=>exact fun s h=>ih s h
 | put n a r ih=>exact fun s h=>key _ _ (hF _ _ h) ih
 | num n a r ih=>exact fun s h=>key _ _ (hF _ _ h) ih
 | br n a f o c bs r N5 N6=>exact fun s h=>key _ _ (hF _ _ h) fun s h=>key _ _ (N5 s h) N6
 | uz k a m r N5 N6=>exact fun s h=>key _ _ (N5 s h) N6
def NzS(s:UA):Prop:=∀ x∈s.2,x.1≠0
theorem H9{s:UA}(h:NzS s)(n:Wd)(a k:Nat):NzS (vO s n a k):=by
 unfold vO;split
 .intro x hx;rw[zv,zk] at hx;rcases hx with hx|rfl
  .exact h x hx
  .show 5≠0;decide
 .split<;>exact h
theorem zd2(cl:Nat):∀ (f:Fo) (seen:List Wd) (acc:List (Nat×Nat)),(∀ x∈acc,x.1≠0)->∀ x∈QX cl seen acc f,x.1≠0:=by
 have Hl:∀ (seen:List Wd) (acc:List (Nat×Nat)),(∀ x∈acc,x.1≠0)->∀ x∈(if FZ∈seen then acc else acc++[(6,cl)]),x.1≠0:=by
  intro seen acc h x hx;split at hx
  .exact h x hx
  .rw[zv,zk] at hx;rcases hx with hx|rfl
   .exact h x hx
   .show 6≠0;decide
 intro f;induction f with
 | uz k a m r _ ih =>
  intro seen acc h;refine ih _ _ fun x hx=>?_
  split at hx
  .rw[zv,zk] at hx;rcases hx with hx|rfl
   .exact h x hx
   .show 7≠0;decide
  .exact h x hx
 | nil=>exact Hl
 | text _ _ _=>exact Hl
 | hash _ _=>exact Hl
 | put _ _ _ _=>exact Hl
 | num _ _ _ _=>exact Hl
 | br _ _ _ _ _ _ _ _ _=>exact Hl
theorem zd3{f:Fo}{x:Nat×Nat}(h:Z7 f=some x):x.1≠0:=by
 have h0:∀ y∈jH f,y.1≠0:=by
  have:=nX NzS fK (fun s g hs=>by
   cases g with
   | br n a fo o c bs r =>
    intro y hy;simp only[zv] at hy;rcases hy with hy|hy
    .exact H9 hs _ _ _ y hy
    .exact zd2 _ _ _ _ (fun _ h=>by cases h) y hy
   | num n a r=>exact H9 hs _ _ _
   | put n a r=>exact H9 hs _ _ _
   | _=>exact hs) f (fun _=>none,[]) (fun _ h=>by cases h)
  unfold jH
  cases hE:xO fK f (fun _=>none,[]) with
  | go b s=>rw[hE] at this;exact this
  | XO c s=>rw[hE] at this;exact this
 unfold Z7 at h
 cases hf:jH f with
 | nil=>rw[hf] at h;cases h
 | cons y l =>
  rw[hf] at h h0
  cases h;have:∀ (l:List (Nat×Nat)) (m:Nat×Nat),m.1≠0->(∀ y∈l,y.1≠0)->(KM m l).1≠0:=by
   intro l;induction l with
   | nil=>exact fun m h _=>h
   | cons z l ih =>
    intro m h hl;refine ih _ ?_ (fun y hy=>hl y (by simp[hy]));show(if z.2<m.2 then z else m).1≠0;split
    .exact hl z (by simp)
    .exact h
  exact this l y (h0 y (by simp)) (fun z hz=>h0 z (by simp[hz]))
theorem tY{l:List UInt8}{e:Nat×Nat}(h:ke l = .error e):e.1≠0:=by
 unfold ke at h
 cases hp:uF l with
 | error e' =>
  rw[hp] at h
  cases h;unfold uF at hp;split at hp
  .cases hp;show(1:Nat)≠0;decide
  .split at hp
   .cases hp;show(2:Nat)≠0;decide
   .split at hp
    .next e2 he=>cases hp;exact nY _ _ he
    .cases hp
 | ok g =>
  rw[hp] at h;dsimp only at h
  cases hc:Z7 g with
  | some x=>rw[hc] at h;cases h;exact zd3 hc
  | none=>rw[hc] at h;cases h
structure Alt(m hi:Nat)(w w':World):Prop where
 os:w'.os=w.os
 tape:w'.tape=w.tape
 output:w'.output=w.output
 size:w.heap.size<=w'.heap.size
 block:∀ k,k<w.heap.size->(k<m\/hi<=k)->w'.heap[k]? = w.heap[k]?
theorem Alt.of{m hi:Nat}{w w':World}(h:Below w.heap.size w w'):Alt m hi w w':=⟨h.os,h.tape,h.output,h.size,fun k hk _=>h.block k hk⟩
theorem Alt.set{m hi b j:Nat}(w:World)(u:Value)(h1:m<=b)(h2:b<hi):Alt m hi w (w.setCell ⟨b,j,none⟩ u) :=
 ⟨rfl,rfl,rfl,by simp[zH],fun k _ hk=>Below.heap_setCell _ _ _ _ (by show k≠b;omega)⟩
structure yy7{σ:Type}(m hi:Nat)(v:Value)(I:σ->Nat->World->Prop)(F:σ->Wd->Nat->Out σ):Prop where
 fn:∃ k cap,v = .func (.func k) #[] cap/\(∀ args w,(callFunc k args).run prog w = .ok (.enter k args) w) /\
  ∀ s room W n a,I s (room+1) W->hi<=W.heap.size->n.length<=4000001->Calls prog k (#[xg n,.int .i64 (a:Nat)]++cap) W (fun e W'=>Sa I room (F s n a) e W'/\xr m hi W W')
 same:∀ s b W W',I s b W->Alt m hi W W'->I s b W'
 less:∀ s b b' W,I s b W->b'<=b->I s b' W
 XO:∀ s n a c s',F s n a = .XO c s'->∃ t x,c=[{ v := .iface t x,recovered:=false }]
def YQ{σ:Type}(F:σ->Wd->Nat->Out σ)(s:σ)(x:Fo):Out σ:=match IA x with|some (n,a)=>F s n a|none => .go true s
theorem Wm{σ:Type}{m hi:Nat}{v:Value}{I:σ->Nat->World->Prop}{F:σ->Wd->Nat->Out σ}(hA:yy7 m hi v I F)(Y:Nat)(s:σ)(room:Nat)(W:World)(u:Value)(n:Wd)(a:Nat)
  (hI:I s (room+1) W) (hY:W.cell? ⟨Y,0,none⟩=some v) (hn:n.length<=4000001) (Z2:hi<=W.heap.size) :
  Calls prog 50 #[u,.agg #[xg n,.int .i64 (a:Nat)],.pointer (some ⟨Y,0,none⟩)] W (fun e W'=>Sa I room (F s n a) e W'/\xr m hi W W'):=by
 obtain⟨⟨k,cap,rfl,Dc,vu⟩,jU,Ru,_⟩:=hA;have xB:Y<W.heap.size:=zu W _ hY;have uN:=fun o=>(zg W.heap.size W).alloc (zy _) o
 have HC:=z7 (vu s room (W.alloc (.cells #[xg n,.int .i64 (a:Nat)] 114)) n a (jU _ _ _ _ hI (Alt.of (uN _))) (zQ Z2 (uN _).size) hn);have HK:=z7 ((xW (lo:=m) Z2).below (uN (.cells #[xg n,.int .i64 (a:Nat)] 114)));have hY':(W.alloc (.cells #[xg n,.int .i64 (a:Nat)] 114)).cell? ⟨Y,0,none⟩=some (.func (.func k) #[] cap):=(World.cell?_alloc_lt _ _ _ xB).trans hY;clear hI vu jU Ru uN hY hn;obtain⟨o,ho⟩:=xX (F s n a);rw[ho] at HC |-
 clear ho;go_enter func50,ntmps50;go_wp2_with fail;refine HC.out.mono ?_;rintro e w2 ⟨hq,Nx⟩;have N2:=z7 (Nx.via HK.out (zy _) (zy _));clear Nx HK
 cases o with
 | XO c s2 =>
  obtain⟨rfl,Kk⟩:=hq;go_wp2;exact⟨rfl,⟨rfl,Kk⟩,N2.out⟩
 | go b s2 =>
  obtain⟨rfl,Kk⟩:=hq;have HI2:=z7 Kk;clear Kk;go_wp2;go_ret;exact⟨⟨rfl,HI2.out⟩,N2.out⟩
theorem fk{σ:Type}{G:σ->Fo->Out σ}(hG:∀ s x c s',G s x = .XO c s'->∃ t y,c=[{ v := .iface t y,recovered:=false }]):∀ (f:Fo) (s:σ) (c:List PanicEntry) (s':σ),xO G f s = .XO c s'->∃ t y,c=[{ v := .iface t y,recovered:=false }]
 | .nil,s,c,s',h=>by cases h
 | .text _ r,s,c,s',h=>fk hG r s c s' h
 | .hash r,s,c,s',h=>fk hG r s c s' h
 | .put n a r,s,c,s',h=>by
  rw[xO] at h
  cases ho:G s (.put n a .nil) with
  | XO c2 s2=>rw[ho] at h;cases h;exact hG _ _ _ _ ho
  | go b s2 =>
   rw[ho] at h
   cases b with
   | false=>cases h
   | true=>exact fk hG r s2 c s' h
 | .num n a r,s,c,s',h=>by
  rw[xO] at h
  cases ho:G s (.num n a .nil) with
  | XO c2 s2=>rw[ho] at h;cases h;exact hG _ _ _ _ ho
  | go b s2 =>
   rw[ho] at h
   cases b with
   | false=>cases h
   | true=>exact fk hG r s2 c s' h
 | .br n a f o c0 bs r,s,c,s',h=>by
  rw[xO] at h
  cases ho:G s (.br n a f o c0 bs .nil) with
  | XO c2 s2=>rw[ho] at h;cases h;exact hG _ _ _ _ ho
  | go b s2 =>
   rw[ho] at h
   cases b with
   | false=>cases h
   | true =>
    have h':(xO G bs s2).then (fun s=>xO G r s) = .XO c s':=h
    cases h2:xO G bs s2 with
    | XO c3 s3=>rw[h2] at h';cases h';exact fk hG bs _ _ _ h2
    | go b2 s3 =>
     rw[h2] at h'
     cases b2 with
     | false=>cases h'
     | true=>exact fk hG r s3 c s' h'
 | .uz k a m r,s,c,s',h=>by
  rw[xO] at h
  cases h2:xO G m s with
  | XO c3 s3=>rw[h2] at h;cases h;exact fk hG m _ _ _ h2
  | go b2 s3 =>
   rw[h2] at h
   cases b2 with
   | false=>cases h
   | true=>exact fk hG r s3 c s' h
theorem PO(B:Nat)(w:World):CallsD prog 48 #[.pointer (some ⟨B,0,none⟩)] .returning w fun e u' w'=>e = .returned (.tuple #[])/\u' = .returning/\w'=w:=by
 refine callsD_of_wpS func48 rfl fun c₀ cs hu=>?_
 apply wpS_seq;apply wpS_region;simp[wpOpsS,go_sem,recoverD,hu,ntmps48,Exit.thenS];refine wpS_of_wp ?_;go_wp2
 cases c₀;simp_all [bodyPostS,results,results48]
theorem MP(B:Nat)(t:TypeId)(x u:Value)(uf:List PanicEntry)(w:World)(hc:w.cell? ⟨B,0,none⟩=some u)(hz:w.frozen? ⟨B,0,none⟩=false) :
  CallsD prog 48 #[.pointer (some ⟨B,0,none⟩)] (.panicking ({ v := .iface t x,recovered:=false }::uf)) w fun e u' w' =>
   e = .returned (.tuple #[])/\u' = .panicking ({ v := .iface t x,recovered:=true }::uf)/\w'=w.setCell ⟨B,0,none⟩ (.iface 33 (.int .i64 15)):=by
 refine callsD_of_wpS func48 rfl fun c₀ cs hu=>?_
 apply wpS_seq;apply wpS_region;simp[wpOpsS,go_sem,recoverD,hu,ntmps48,Exit.thenS];refine wpS_of_wp ?_;simp only[Array.replicate,List.replicate,List.setIfInBounds_toArray,List.set_cons_zero,List.set_cons_succ,List.append_toArray,zL,List.nil_append,Act.put];go_wp2;simp[bodyPostS,results,results48]
def yy8{σ:Type}(r:Except (Nat×Nat) Fo)(I:Nat->σ->Nat->World->Prop)(F:σ->Wd->Nat->Out σ)(s0:σ)(w:World)(e:Ending)(w':World):Prop :=
 match r with
 | .error (n,a)=>(∃ b,e = .returned (.iface 101 (.pointer (some ⟨b,0,none⟩)))/\w'.cell? ⟨b,0,none⟩=some (.int .i64 n)/\w'.cell? ⟨b,1,none⟩=some (.int .i64 a))/\Below w.heap.size w w'
 | .ok f=>∃ hi,w.heap.size<=hi/\match xO (YQ F) f s0 with
  | .go _ s'=>e = .returned .nilIface/\I hi s' 0 w'
  | .XO _ s'=>e = .returned (.iface 33 (.int .i64 15))/\I hi s' 0 w'
theorem Wn{σ:Type}(s:ByteArray)(v:Value)(I:Nat->σ->Nat->World->Prop)(F:σ->Wd->Nat->Out σ)(s0:σ)(w:World)(hs:s.size<=9223372036854775807)(hT:Lib.Utf8Tabs 3 4 w)(hN:uS w)
  (hv:∃ k cap,v = .func (.func k) #[] cap) (hA:∀ hi,w.heap.size<=hi->yy7 w.heap.size hi v (I hi) F) (hI:∀ hi W,w.heap.size<=hi->hi<=W.heap.size->Below w.heap.size w W->I hi s0 1000 W) :
  Calls prog 31 #[.string s,v] w (yy8 (ke s.data.toList) I F s0 w):=by
 obtain⟨kv,cv,rfl⟩:=hv;have Nv:∀ (fn:Fn) (first cap:Array Value) (w:World),(zP fn first cap).run prog w = .ok (.func fn first cap) w:=fun _ _ _ _=>rfl
 obtain⟨m,hm⟩:=xX w.heap.size;have HM:=z7 hm;rw[hm] at hA hI;have h1:(w.alloc (.cells #[.func (.func kv) #[] cv] 79)).heap.size=m+1:=by simp[hm]
 have h2:((w.alloc (.cells #[.func (.func kv) #[] cv] 79)).alloc (.cells #[.nilIface] 73)).heap.size=m+2:=by simp[hm]
 have b1:Below w.heap.size w (w.alloc (.cells #[.func (.func kv) #[] cv] 79)):=(zg _ _).alloc (zy _) _;have b2:Below (w.alloc (.cells #[.func (.func kv) #[] cv] 79)).heap.size (w.alloc (.cells #[.func (.func kv) #[] cv] 79)) ((w.alloc (.cells #[.func (.func kv) #[] cv] 79)).alloc (.cells #[.nilIface] 73)):=(zg _ _).alloc (zy _) _;have b12:=b1.trans (b2.mono (by omega));have c1:=xu w #[.func (.func kv) #[] cv] 79 (0,0) 0;rw[hm] at c1;have pV:=(b2.cell (p:=⟨m,0,none⟩) (by show m<_;omega)).trans c1;have c2:=xu (w.alloc (.cells #[.func (.func kv) #[] cv] 79)) #[.nilIface] 73 (0,0) 0;rw[h1] at c2;have z2:((w.alloc (.cells #[.func (.func kv) #[] cv] 79)).alloc (.cells #[.nilIface] 73)).frozen? ⟨m+1,0,none⟩=false:=by rw[<-h1];simp
 obtain⟨W0,Jf⟩:=xX ((w.alloc (.cells #[.func (.func kv) #[] cv] 79)).alloc (.cells #[.nilIface] 73));rw[Jf] at h2 b12 pV c2 z2;have HRD:=z7 (Lg s W0 hs (KX hT b12) (hN.below b12));obtain⟨r,hr⟩:=xX (ke s.data.toList);rw[hr] at HRD |-
 have HA:=z7 hA;have HI:=z7 hI;have aU:=z7 Jf;clear hT hN hA hI hr h1 b1 b2 c1 Jf;go_enter_defers func31,ntmps31
 go_wp2_with fail;rw[aU.out];refine HRD.out.mono ?_;rintro e w1 ⟨hq,xG⟩;have Ja:=b12.trans (xG.mono (by omega));have d1:=(xG.cell (p:=⟨m,0,none⟩) (by show m<_;omega)).trans pV;have d2:=(xG.cell (p:=⟨m+1,0,none⟩) (by show m+1<_;omega)).trans c2;have y2:=(xG.frozen (p:=⟨m+1,0,none⟩) (by show m+1<_;omega)).trans z2;have qc:=xG.size;clear HRD b12 pV c2 z2
 cases r with
 | error en =>
  obtain⟨n,a⟩:=en;obtain⟨v',b,rfl,⟨a',n',c',rfl⟩,f0,f1⟩:=hq;have neE:b≠m+1:=fun e=>by rw[e,d2] at f0;cases f0
  have q1:(w1.setCell ⟨m+1,0,none⟩ (.iface 101 (.pointer (some ⟨b,0,none⟩)))).cell? ⟨m+1,0,none⟩=some (.iface 101 (.pointer (some ⟨b,0,none⟩))):=by rw[xk,if_pos rfl,d2];rfl
  have hE:((w1.setCell ⟨m+1,0,none⟩ (.iface 101 (.pointer (some ⟨b,0,none⟩)))).setCell ⟨m+1,0,none⟩ (.iface 101 (.pointer (some ⟨b,0,none⟩)))).cell? ⟨m+1,0,none⟩=some (.iface 101 (.pointer (some ⟨b,0,none⟩))):=by rw[xk,if_pos rfl,q1];rfl
  have Mm:∀ j:Nat,¬(⟨m+1,0,none⟩:Addr)=⟨b,j,none⟩:=fun j e=>neE (congrArg Addr.block e).symm
  have ub:Below w.heap.size w ((w1.setCell ⟨m+1,0,none⟩ (.iface 101 (.pointer (some ⟨b,0,none⟩)))).setCell ⟨m+1,0,none⟩ (.iface 101 (.pointer (some ⟨b,0,none⟩)))):=vJ (vJ Ja (by omega)) (by omega);have HF0:=z7 f0;have Ve:=z7 f1;clear f0 f1 neE;go_wp2;unfold bodyPostD;simp[Leaves,settle,results,results31,go_sem,hE];exact⟨⟨b,rfl,by rw[xk,if_neg (Mm 0),xk,if_neg (Mm 0)];exact HF0.out,by rw[xk,if_neg (Mm 1),xk,if_neg (Mm 1)];exact Ve.out⟩,ub⟩
 | ok f =>
  obtain⟨⟨a,c,vs,rfl,xi,ql⟩,di⟩:=hq;have qb:=z7 xi;have Y2:=z7 ql;have dp:=z7 di;have eP:xr W0.heap.size w1.heap.size w1 (w1.setCell ⟨m+1,0,none⟩ .nilIface):=(xW (zy _)).put (by omega) 0 _;have ZW:Below w.heap.size w (w1.setCell ⟨m+1,0,none⟩ .nilIface):=vJ Ja (by omega);have g1:(w1.setCell ⟨m+1,0,none⟩ .nilIface).cell? ⟨m,0,none⟩=some (.func (.func kv) #[] cv):=by rw[xk,if_neg (by simp)];exact d1
  have g2:(w1.setCell ⟨m+1,0,none⟩ .nilIface).cell? ⟨m+1,0,none⟩=some .nilIface:=by rw[xk,if_pos rfl,d2];rfl
  have g3:(w1.setCell ⟨m+1,0,none⟩ .nilIface).frozen? ⟨m+1,0,none⟩=false:=by rw[zj];exact y2
  have g4:(w1.setCell ⟨m+1,0,none⟩ .nilIface).heap.size=w1.heap.size:=by simp[zH]
  obtain⟨w2,K7⟩:=xX (w1.setCell ⟨m+1,0,none⟩ .nilIface);rw[K7] at eP ZW g1 g2 g3 g4;obtain⟨hi,Z2⟩:=xX w1.heap.size;rw[Z2] at eP g4;have hmh:m+2<=hi:=by omega
  have HAH:=HA.out hi (by omega);have hY:Ci (m+2) hi w2 (.func (.func 50) #[] #[.pointer (some ⟨m,0,none⟩)]) (fun s b W=>I hi s b W/\xr m hi w2 W) (YQ F):=by
   refine⟨⟨_,_,rfl,fun args w=>enters_of func50 (by kernel_rfl) rfl args w,fun s room W x u n a Mh XQ Vr hh=>?_⟩,fun s b W h=>⟨h.2.1,fun k k1 k2=>h.2.2 k (by omega) k2⟩,fun s b W W' h hb=>⟨HAH.same _ _ _ _ h.1 (Alt.of hb),h.2.below hb⟩,fun s b b' W h hb=>⟨HAH.less _ _ _ _ h.1 hb,h.2⟩⟩;have oh:n.length<=4000001:=by
    cases x with
    | put n0 a0 r=>cases hh;simp[Fo.wf] at Vr;exact Vr.1
    | num n0 a0 r=>cases hh;simp[Fo.wf] at Vr;exact Vr.1
    | br n0 a0 f0 o0 c0 bs r=>cases hh;simp[Fo.wf] at Vr;exact Vr.1.1.1.1.1
    | _=>cases hh
   have hwt:1<=x.wt:=by cases x<;>simp[Fo.wt]<;>omega
   have e:YQ F s x=F s n a:=by unfold YQ;rw[hh]
   rw[e];refine(Wm HAH m s room W u n a (HAH.less _ _ _ _ Mh.1 (by omega)) ((Mh.2.cell (p:=⟨m,0,none⟩) (zy _) (by show m<_;omega)).trans g1) oh Mh.2.1).mono ?_;intro e w' hq;obtain⟨h1,h2⟩:=hq
   cases ho:F s n a with
   | XO c s'=>rw[ho] at h1;exact⟨h1.1,h1.2,h2.via Mh.2 (zy _) (zy _)⟩
   | go b s'=>rw[ho] at h1;exact⟨h1.1,h1.2,h2.via Mh.2 (zy _) (zy _)⟩
  have hI2:I hi s0 (0+f.cnt) w2:=HAH.less _ _ _ _ (HI.out hi w2 (by omega) (by omega) (by rw[<-HM.out];exact ZW)) (by have:=di.cnt;omega);have Qx:=xi.keep (lo':=m+2) (hi':=hi) (w':=w2) (by rw[Z2];exact eP) (by omega) (by omega);have zyq:=xZ.keep (lo':=m+2) (hi':=hi) (w':=w2) (by rw[Z2];exact eP) (by omega) (by omega) f vs ql;have HE:=z7 (F9 hY (SizeOf.sizeOf f+1) f (Nat.lt_succ_self _) di.msg di.wf (by have:=di.len;omega) s0 0 w2 a c vs ⟨hI2,xW (by omega)⟩ Qx zyq);have HPN:=z7 (fun c s' h=>fk (G:=YQ F) (fun s x c s' h=>by
   unfold YQ at h
   cases hh:IA x with
   | none=>rw[hh] at h;cases h
   | some na=>rw[hh] at h;exact HAH.XO _ _ _ _ _ h) f s0 c s' h)
  obtain⟨o,ho⟩:=xX (xO (YQ F) f s0);rw[ho] at HE HPN;have HO:=z7 ho;have wW:=z7 K7;have yyz:=z7 HAH;clear xi ql di hY hI2 Qx zyq ho K7 eP HAH;go_wp2_with fail;rw[wW.out];refine HE.out.mono ?_;rintro e w3 hq;have GM:m<=m+1:=Nat.le_succ m
  cases o with
  | go b s' =>
   obtain⟨rfl,SN,eR⟩:=hq;have e2:=(eR.cell (p:=⟨m+1,0,none⟩) GM (by show m+1<_;omega)).trans g2;have e3:w3.frozen? ⟨m+1,0,none⟩=false:=(zx (a:=⟨m+1,0,none⟩) (eR.2 (m+1) GM (by omega))).trans g3;have hI4:=yyz.out.same _ _ _ (w3.setCell ⟨m+1,0,none⟩ .nilIface) SN (Alt.set w3 _ GM (by omega));have hE:(w3.setCell ⟨m+1,0,none⟩ .nilIface).cell? ⟨m+1,0,none⟩=some .nilIface:=by rw[xk,if_pos rfl,e2];rfl
   have HI4:=z7 hI4;clear SN eR hI4 HE;go_wp2;refine leaves_cons (f:=48) (args:=#[.pointer (some ⟨m+1,0,none⟩)]) (by simp) (by simp[go_sem]) ?_;refine(PO (m+1) _).mono ?_;rintro e u' Qm ⟨rfl,rfl,rfl⟩;simp[Leaves,settle,results,results31,go_sem,hE];refine⟨hi,by rw[HM.out];omega,?_⟩;rw[HO.out];exact⟨rfl,HI4.out⟩
  | XO ch s' =>
   obtain⟨rfl,SN,eR⟩:=hq;obtain⟨t,x,rfl⟩:=HPN.out ch s' rfl;have e2:=(eR.cell (p:=⟨m+1,0,none⟩) GM (by show m+1<_;omega)).trans g2;have e3:w3.frozen? ⟨m+1,0,none⟩=false:=(zx (a:=⟨m+1,0,none⟩) (eR.2 (m+1) GM (by omega))).trans g3;have hI4:=yyz.out.same _ _ _ (w3.setCell ⟨m+1,0,none⟩ (.iface 33 (.int .i64 15))) SN (Alt.set w3 _ GM (by omega));have hE:(w3.setCell ⟨m+1,0,none⟩ (.iface 33 (.int .i64 15))).cell? ⟨m+1,0,none⟩=some (.iface 33 (.int .i64 15)):=by rw[xk,if_pos rfl,e2];rfl
   have HI4:=z7 hI4;clear SN eR hI4 HE;go_wp2;refine leaves_cons (f:=48) (args:=#[.pointer (some ⟨m+1,0,none⟩)]) (by simp) (by simp[go_sem]) ?_;refine(MP (m+1) t x _ [] _ e2 e3).mono ?_;rintro e u' Qm ⟨rfl,rfl,rfl⟩;simp[Leaves,settle,results,results31,go_sem,hE];refine⟨hi,by rw[HM.out];omega,?_⟩;rw[HO.out];exact⟨rfl,HI4.out⟩
abbrev Ak:=List (Wd×Nat)
def jN(n:Int)(s:Ak)(nm:Wd)(pl:Nat):Out Ak := .go (decide (((s.length+1:Nat):Int)<n)) (s++[(nm,pl)])
abbrev Kr(s:Ak):List Value:=s.map fun x=>xg x.1
abbrev VF(s:Ak):List Value:=s.map fun x=>Value.int .i64 (x.2:Nat)
structure DJ(b:Nat)(n:Int)(w:World)(hi:Nat)(s:Ak)(room:Nat)(W:World):Prop where
 low:b+3<=hi
 oy:hi<=W.heap.size
 nc:W.cell? ⟨b,0,none⟩=some (.int .i64 n)
 names:∃ v,W.cell? ⟨b+1,0,none⟩=some v/\W.ownsRow hi 9 1 v s.length (Kr s)/\∃ u,W.cell? ⟨b+2,0,none⟩=some u/\W.ownsRow hi 3 1 u s.length (VF s)/\∀ g,v.ownBlock=some g->u.ownBlock≠some g
 z1:W.frozen? ⟨b+1,0,none⟩=false
 z2:W.frozen? ⟨b+2,0,none⟩=false
 jV:s.length+room<=1000000
 Hf:Below b w W
theorem ZR{W W':World}{m hi:Nat}{e:TypeId}{size n:Nat}{v:Value}{xs:List Value}(h:W.ownsRow hi e size v n xs)(ha:Alt m hi W W'):W'.ownsRow hi e size v n xs:=by
 have xB:=h.lt;obtain⟨h1,h2⟩:=h;refine⟨h1,?_⟩;rcases h2 with h2|⟨g,cap,cur,hv,hg,hh,rest⟩
 .exact .inl h2
 .exact .inr ⟨g,cap,cur,hv,hg,(ha.block g (xB g (by rw[hv];rfl)).2 (.inr hg)).trans hh,rest⟩
theorem DJ.same{b:Nat}{n:Int}{w:World}{hi:Nat}{s:Ak}{room:Nat}{W W':World}(h:DJ b n w hi s room W)(ha:Alt (b+3) hi W W'):DJ b n w hi s room W':=by
 obtain⟨h1,h2,h3,⟨v,h4,h5,u,h6,h7,h8⟩,h9,du,Qn,Qp⟩:=h;have l0:b<W.heap.size:=zu W _ h3;have l1:b+1<W.heap.size:=zu W _ h4;have l2:b+2<W.heap.size:=zu W _ h6;exact⟨h1,zQ h2 ha.size,(zD (a:=⟨b,0,none⟩) (ha.block b l0 (.inl (by omega)))).trans h3,
  ⟨v,(zD (a:=⟨b+1,0,none⟩) (ha.block (b+1) l1 (.inl (by omega)))).trans h4,ZR h5 ha,u,(zD (a:=⟨b+2,0,none⟩) (ha.block (b+2) l2 (.inl (by omega)))).trans h6,ZR h7 ha,h8⟩,
  (zx (a:=⟨b+1,0,none⟩) (ha.block (b+1) l1 (.inl (by omega)))).trans h9,(zx (a:=⟨b+2,0,none⟩) (ha.block (b+2) l2 (.inl (by omega)))).trans du,Qn,
  Qp.trans ⟨ha.os,ha.tape,ha.output,ha.size,fun k hk=>ha.block k (by omega) (.inl (by omega))⟩⟩
theorem CV{W W':World}{base:Nat}{row:Option Nat}{e:TypeId}{size n:Nat}{v:Value}{xs:List Value}(h:W.ownsRow base e size v n xs)(hg:W.grownBy W' row)(vy:∀ g,v.ownBlock=some g->row≠some g):W'.ownsRow base e size v n xs :=
 h.kept hg (by
  cases hv:v.ownBlock with
  | none=>exact .inl rfl
  | some g=>exact .inr (fun e=>vy g hv e.symm))
theorem DG{lo hi:Nat}{w W W':World}{row:Option Nat}(h:xr lo hi w W)(hg:W.grownBy W' row)(hr:∀ g,row=some g->g<lo\/hi<=g):xr lo hi w W' :=
 ⟨zQ h.1 hg.size,fun k k1 k2=>(hg.block k (Nat.lt_of_lt_of_le k2 h.1) (fun e=>by have:=hr k e.symm;omega)).trans (h.2 k k1 k2)⟩
theorem Wo(b:Nat)(n:Int)(w:World)(hi:Nat)(s:Ak)(room:Nat)(W:World)(nm:Wd)(pl:Nat)(hI:DJ b n w hi s (room+1) W) :
  Calls prog 32 #[xg nm,.int .i64 (pl:Nat),.pointer (some ⟨b+1,0,none⟩),.pointer (some ⟨b+2,0,none⟩),.pointer (some ⟨b,0,none⟩)] W (fun e W'=>Sa (DJ b n w hi) room (jN n s nm pl) e W'/\xr (b+3) hi W W'):=by
 obtain⟨h1,h2,h3,⟨v,h4,h5,u,h6,h7,h8⟩,h9,du,Qn,Qp⟩:=hI;obtain⟨va,vc,rfl⟩:=xf h5;obtain⟨ua,uc,rfl⟩:=xf h7;obtain⟨L,hL⟩:=xX s.length;rw[hL] at h4 h5 h6 h7 h8 Qn;have H5:=z7 h5;have H7:=z7 h7;have H8:=z7 h8;have H12:=z7 Qp;have HL:=z7 hL;have Kw:b+2<W.heap.size:=zu W _ h6;clear h5 h7 h8 Qp hL;go_enter func32,ntmps32;go_wp2_with (at_builtin;refine kI ?_);intro W1 XY;have b1:Below W.heap.size W W1:=by rw[XY];exact(zg _ _).alloc (zy _) _
 have c1:=xu W #[xg nm] 9 (0,0) 0;rw[<-XY] at c1;have s1:W1.heap.size=W.heap.size+1:=by rw[XY];simp
 have K1:=z7 ((xW (lo:=b+3) h2).below b1);have H5a:=z7 (ZR H5.out (Alt.of (m:=b+3) b1));have H7a:=z7 (ZR H7.out (Alt.of (m:=b+3) b1));have d0:=(b1.cell (p:=⟨b,0,none⟩) (by show b<_;omega)).trans h3;have d1:=(b1.cell (p:=⟨b+1,0,none⟩) (by show b+1<_;omega)).trans h4;have d2:=(b1.cell (p:=⟨b+2,0,none⟩) (by show b+2<_;omega)).trans h6;have y1:=(b1.frozen (p:=⟨b+1,0,none⟩) (by show b+1<_;omega)).trans h9;have y2:=(b1.frozen (p:=⟨b+2,0,none⟩) (by show b+2<_;omega)).trans du;have e1:=H12.out.trans (b1.mono (by omega));clear XY h3 h4 h6 h9 du;refine N8 qz rfl _ _ rfl hi _ L (Kr s) rfl H5a.out ⟨W.heap.size,0,none⟩ 1 1 [xg nm] rfl rfl ?a1 ?a2 (by omega) (by omega) ?a3
 case a1=>exact cells_one c1
 case a2 =>
  intro x hx;simp at hx;subst hx;rfl
 intro v2 W2 X3 je K7;have ZF:∀ g,(zG va L vc).ownBlock=some g->hi<=g:=fun g hg=>(H5.out.lt g hg).1
 have FD:∀ k,k<hi->(some k:Option Nat)≠(zG va L vc).ownBlock:=fun k q1 q2=>by have:=ZF k q2.symm;omega
 have f0:=je.cell d0 (FD b (by omega));have f1:=je.cell d1 (FD (b+1) (by omega));have f2:=je.cell d2 (FD (b+2) (by omega));have x1:W2.frozen? ⟨b+1,0,none⟩=false:=(zx (a:=⟨b+1,0,none⟩) (je.block (b+1) (by omega) (FD _ (by omega)))).trans y1;have x2:W2.frozen? ⟨b+2,0,none⟩=false:=(zx (a:=⟨b+2,0,none⟩) (je.block (b+2) (by omega) (FD _ (by omega)))).trans y2;have K2:=z7 (DG K1.out je (fun g hg => .inr (ZF g hg)));have H7b:=z7 (CV H7a.out je (fun g hg e=>H8.out g e hg));have e2:=e1.grown je (by omega) (fun g hg=>by have:=ZF g hg;omega);have s2:=je.size;have nU:∀ g,v2.ownBlock=some g->(zG ua L uc).ownBlock≠some g:=fun g hg e=>by
  rcases K7 with q|q
  .exact H8.out g (q▸hg) e
  .rw[q] at hg
   cases hg;have:=(H7.out.lt _ e).2;omega
 have HD:=z7 nU;obtain⟨DC,DE,rfl⟩:=xf X3;have ee:=z7 X3;clear X3 je K7 nU d0 d1 d2 y1 y2 e1 c1 FD;go_wp2_with (at_builtin;refine kI ?_);intro W3 kg;have t0:(W2.setCell ⟨b+1,0,none⟩ (.slice DC (L+1) DE)).heap.size=W2.heap.size:=by simp[zH]
 have g0:(W2.setCell ⟨b+1,0,none⟩ (.slice DC (L+1) DE)).cell? ⟨b,0,none⟩=some (.int .i64 n):=by rw[xk,if_neg (by simp)];exact f0
 have g1:(W2.setCell ⟨b+1,0,none⟩ (.slice DC (L+1) DE)).cell? ⟨b+1,0,none⟩=some (.slice DC (L+1) DE):=by rw[xk,if_pos rfl,f1];rfl
 have g2:(W2.setCell ⟨b+1,0,none⟩ (.slice DC (L+1) DE)).cell? ⟨b+2,0,none⟩=some (.slice ua L uc):=by rw[xk,if_neg (by simp)];exact f2
 have y1:(W2.setCell ⟨b+1,0,none⟩ (.slice DC (L+1) DE)).frozen? ⟨b+1,0,none⟩=false:=by rw[zj];exact x1
 have y2:(W2.setCell ⟨b+1,0,none⟩ (.slice DC (L+1) DE)).frozen? ⟨b+2,0,none⟩=false:=by rw[zj];exact x2
 have o1:=ownsRow_setCell_below ee.out (a:=⟨b+1,0,none⟩) (by show b+1<hi;omega) (.slice DC (L+1) DE);have o2:=ownsRow_setCell_below H7b.out (a:=⟨b+1,0,none⟩) (by show b+1<hi;omega) (.slice DC (L+1) DE);have K3:=K2.out.put (B:=b+1) (by omega) 0 (.slice DC (L+1) DE);have e3:Below b w (W2.setCell ⟨b+1,0,none⟩ (.slice DC (L+1) DE)):=vJ e2 (by omega);obtain⟨V,hV⟩:=xX (W2.setCell ⟨b+1,0,none⟩ (.slice DC (L+1) DE));rw[hV] at t0 g0 g1 g2 y1 y2 o1 o2 K3 e3 kg;clear f0 f1 f2 x1 x2 hV K2 H7b ee e2 H5a H7a;have b3:Below V.heap.size V W3:=by rw[kg];exact(zg _ _).alloc (zy _) _
 have c3:=xu V #[.int .i64 (pl:Nat)] 3 (0,0) 0;rw[<-kg,t0] at c3;have s3:W3.heap.size=W2.heap.size+1:=by rw[kg,<-t0];simp
 have K4:=z7 (K3.below b3);have o3:=z7 (ZR o1 (Alt.of (m:=b+3) b3));have o4:=z7 (ZR o2 (Alt.of (m:=b+3) b3));have d0:=(b3.cell (p:=⟨b,0,none⟩) (by show b<_;omega)).trans g0;have d1:=(b3.cell (p:=⟨b+1,0,none⟩) (by show b+1<_;omega)).trans g1;have d2:=(b3.cell (p:=⟨b+2,0,none⟩) (by show b+2<_;omega)).trans g2;have x1:=(b3.frozen (p:=⟨b+1,0,none⟩) (by show b+1<_;omega)).trans y1;have x2:=(b3.frozen (p:=⟨b+2,0,none⟩) (by show b+2<_;omega)).trans y2;have e4:=e3.trans (b3.mono (by omega));have O1:=z7 o1;have O2:=z7 o2;clear kg g0 g1 g2 y1 y2 e3 b3 K3 o1 o2 K1;refine N8 Vj rfl _ _ rfl hi _ L (VF s) rfl o4.out ⟨W2.heap.size,0,none⟩ 1 1 [.int .i64 (pl:Nat)] rfl rfl ?a4 ?a5 (by omega) (by omega) ?a6
 case a4=>exact cells_one c3
 case a5 =>
  intro x hx;simp at hx;subst hx;rfl
 intro v4 W4 VU qt hw4;have Jw:∀ g,(zG ua L uc).ownBlock=some g->hi<=g:=fun g hg=>(O2.out.lt g hg).1
 have Wp:∀ k,k<hi->(some k:Option Nat)≠(zG ua L uc).ownBlock:=fun k q1 q2=>by have:=Jw k q2.symm;omega
 have f0:=qt.cell d0 (Wp b (by omega));have f1:=qt.cell d1 (Wp (b+1) (by omega));have f2:=qt.cell d2 (Wp (b+2) (by omega));have y1:W4.frozen? ⟨b+1,0,none⟩=false:=(zx (a:=⟨b+1,0,none⟩) (qt.block (b+1) (by omega) (Wp _ (by omega)))).trans x1;have y2:W4.frozen? ⟨b+2,0,none⟩=false:=(zx (a:=⟨b+2,0,none⟩) (qt.block (b+2) (by omega) (Wp _ (by omega)))).trans x2;have K5:=z7 (DG K4.out qt (fun g hg => .inr (Jw g hg)));have o5:=z7 (CV o3.out qt (fun g hg e=>HD.out g hg e));have e5:=e4.grown qt (by omega) (fun g hg=>by have:=Jw g hg;omega);have s4:=qt.size;have nU:∀ g,(zG DC (L+1) DE).ownBlock=some g->v4.ownBlock≠some g:=fun g hg e=>by
  rcases hw4 with q|q
  .exact HD.out g hg (q▸e)
  .rw[q] at e
   cases e;have:=(O1.out.lt _ hg).2;omega
 have HD4:=z7 nU;obtain⟨ua4,uc4,rfl⟩:=xf VU;have JM:=z7 VU;have hF1:(W4.setCell ⟨b+2,0,none⟩ (.slice ua4 (L+1) uc4)).cell? ⟨b+1,0,none⟩=some (.slice DC (L+1) DE):=by rw[xk,if_neg (by simp)];exact f1
 have hF0:(W4.setCell ⟨b+2,0,none⟩ (.slice ua4 (L+1) uc4)).cell? ⟨b,0,none⟩=some (.int .i64 n):=by rw[xk,if_neg (by simp)];exact f0
 have hFI:DJ b n w hi (s++[(nm,pl)]) room (W4.setCell ⟨b+2,0,none⟩ (.slice ua4 (L+1) uc4)):=by
  refine⟨h1,zQ K5.out.1 (by simp[zH]),hF0,⟨_,hF1,?_,_,by rw[xk,if_pos rfl,f2];rfl,?_,HD4.out⟩,by rw[zj];exact y1,by rw[zj];exact y2,by simp[HL.out];omega,vJ e5 (by omega)⟩
  .have h:=ownsRow_setCell_below o5.out (a:=⟨b+2,0,none⟩) (by show b+2<hi;omega) (.slice ua4 (L+1) uc4);rw[z8,HL.out,show Kr (s++[(nm,pl)])=Kr s++[xg nm] from by simp[Kr]];exact h
  .have h:=ownsRow_setCell_below JM.out (a:=⟨b+2,0,none⟩) (by show b+2<hi;omega) (.slice ua4 (L+1) uc4);rw[z8,HL.out,show VF (s++[(nm,pl)])=VF s++[.int .i64 (pl:Nat)] from by simp[VF]];exact h
 have HFI:=z7 hFI;have KF:=z7 (K5.out.put (B:=b+2) (by omega) 0 (.slice ua4 (L+1) uc4));have Vr:jN n s nm pl = .go (decide (((L+1:Nat):Int)<n)) (s++[(nm,pl)]):=by unfold jN;rw[HL.out]
 have wP:=z7 Vr;clear VU qt hw4 nU Wp Vr hFI d0 d1 d2 x1 x2 e4 c3;go_wp2;go_ret;rw[wP.out];exact⟨⟨by simp,HFI.out⟩,KF.out⟩
theorem walk_go(n:Int):∀ (f:Fo) (s:Ak),∃ b s',xO (YQ (jN n)) f s = .go b s'
 | .nil,s=>⟨true,s,rfl⟩
 | .text _ r,s=>walk_go n r s
 | .hash r,s=>walk_go n r s
 | .put nm a r,s=>by
  rw[xO,show YQ (jN n) s (.put nm a .nil) = .go (decide (((s.length+1:Nat):Int)<n)) (s++[(nm,a)]) from rfl]
  cases decide (((s.length+1:Nat):Int)<n) with
  | false=>exact⟨_,_,rfl⟩
  | true=>exact walk_go n r _
 | .num nm a r,s=>by
  rw[xO,show YQ (jN n) s (.num nm a .nil) = .go (decide (((s.length+1:Nat):Int)<n)) (s++[(nm,a)]) from rfl]
  cases decide (((s.length+1:Nat):Int)<n) with
  | false=>exact⟨_,_,rfl⟩
  | true=>exact walk_go n r _
 | .br nm a f o c bs r,s=>by
  rw[xO,show YQ (jN n) s (.br nm a f o c bs .nil) = .go (decide (((s.length+1:Nat):Int)<n)) (s++[(nm,a)]) from rfl]
  cases decide (((s.length+1:Nat):Int)<n) with
  | false=>exact⟨_,_,rfl⟩
  | true =>
   obtain⟨b,s1,h1⟩:=walk_go n bs (s++[(nm,a)]);show ∃ b s',(xO (YQ (jN n)) bs (s++[(nm,a)])).then _=_;rw[h1]
   cases b with
   | false=>exact⟨_,_,rfl⟩
   | true=>exact walk_go n r s1
 | .uz k a m r,s=>by
  obtain⟨b,s1,h1⟩:=walk_go n m s;rw[xO,h1]
  cases b with
  | false=>exact⟨_,_,rfl⟩
  | true=>exact walk_go n r s1
def YK(n:Int)(f:Fo):Ak:=match xO (YQ (jN n)) f [] with | .go _ s=>s | .XO _ s=>s
def yyx(n:Int)(r:Except (Nat×Nat) Fo)(w:World)(e:Ending)(w':World):Prop :=
 (match r with
  | .error (k,a)=>e = .returned (.tuple #[.slice none 0 0,.slice none 0 0,.int .i64 (k:Nat),.int .i64 (a:Nat)])
  | .ok f=>∃ va vc ua uc,e = .returned (.tuple #[.slice va (YK n f).length vc,.slice ua (YK n f).length uc,.int .i64 0,.int .i64 0])/\w'.ownsRow w.heap.size 9 1 (.slice va (YK n f).length vc) (YK n f).length (Kr (YK n f)) /\
    w'.ownsRow w.heap.size 3 1 (.slice ua (YK n f).length uc) (YK n f).length (VF (YK n f)))/\Below w.heap.size w w'
theorem DD{w:World}{base base':Nat}{e:TypeId}{size n:Nat}{v:Value}{xs:List Value}(h:w.ownsRow base e size v n xs)(hb:base'<=base):w.ownsRow base' e size v n xs:=by
 obtain⟨h1,h2⟩:=h;refine⟨h1,?_⟩;rcases h2 with h2|⟨g,cap,cur,hv,hg,rest⟩
 .exact .inl h2
 .exact .inr ⟨g,cap,cur,hv,by omega,rest⟩
theorem PR(X:World)(c:Array Value)(t:TypeId)(i:Nat):(X.alloc (.cells c t)).frozen? ⟨X.heap.size,i,none⟩=false:=by simp
theorem nQ(s:ByteArray)(n:Int)(w:World)(hs:s.size<=9223372036854775807)(hE:QG w)(hT:Lib.Utf8Tabs 3 4 w)(hN:uS w) :
  Calls prog 19 #[.string s,.int .i64 n] w (yyx n (ke s.data.toList) w):=by
 have Nv:∀ (fn:Fn) (first cap:Array Value) (w:World),(zP fn first cap).run prog w = .ok (.func fn first cap) w:=fun _ _ _ _=>rfl
 obtain⟨b,hb⟩:=xX w.heap.size;have HB:=z7 hb;have t1:(w.alloc (.cells #[.int .i64 n] 3)).heap.size=b+1:=by simp[hb]
 have t2:((w.alloc (.cells #[.int .i64 n] 3)).alloc (.cells #[.slice none 0 0] 31)).heap.size=b+2:=by simp[hb]
 have t3:(((w.alloc (.cells #[.int .i64 n] 3)).alloc (.cells #[.slice none 0 0] 31)).alloc (.cells #[.slice none 0 0] 39)).heap.size=b+3:=by simp[hb]
 have q1:Below w.heap.size w (w.alloc (.cells #[.int .i64 n] 3)):=(zg _ _).alloc (zy _) _;have q2:Below (w.alloc (.cells #[.int .i64 n] 3)).heap.size (w.alloc (.cells #[.int .i64 n] 3)) ((w.alloc (.cells #[.int .i64 n] 3)).alloc (.cells #[.slice none 0 0] 31)):=(zg _ _).alloc (zy _) _;have q3:Below ((w.alloc (.cells #[.int .i64 n] 3)).alloc (.cells #[.slice none 0 0] 31)).heap.size ((w.alloc (.cells #[.int .i64 n] 3)).alloc (.cells #[.slice none 0 0] 31)) (((w.alloc (.cells #[.int .i64 n] 3)).alloc (.cells #[.slice none 0 0] 31)).alloc (.cells #[.slice none 0 0] 39)):=(zg _ _).alloc (zy _) _;have ub:=(q1.trans (q2.mono (by omega))).trans (q3.mono (by omega));have c0:=xu w #[.int .i64 n] 3 (0,0) 0;rw[hb] at c0;have c0':=(q3.cell (p:=⟨b,0,none⟩) (by show b<_;omega)).trans ((q2.cell (p:=⟨b,0,none⟩) (by show b<_;omega)).trans c0);have c1:=xu (w.alloc (.cells #[.int .i64 n] 3)) #[.slice none 0 0] 31 (0,0) 0;rw[t1] at c1;have pV:=(q3.cell (p:=⟨b+1,0,none⟩) (by show b+1<_;omega)).trans c1;have c2:=xu ((w.alloc (.cells #[.int .i64 n] 3)).alloc (.cells #[.slice none 0 0] 31)) #[.slice none 0 0] 39 (0,0) 0;rw[t2] at c2;have z1:(((w.alloc (.cells #[.int .i64 n] 3)).alloc (.cells #[.slice none 0 0] 31)).alloc (.cells #[.slice none 0 0] 39)).frozen? ⟨b+1,0,none⟩=false:=by
  rw[q3.frozen (p:=⟨b+1,0,none⟩) (by show b+1<_;omega),<-t1];simp
 have z2:(((w.alloc (.cells #[.int .i64 n] 3)).alloc (.cells #[.slice none 0 0] 31)).alloc (.cells #[.slice none 0 0] 39)).frozen? ⟨b+2,0,none⟩=false:=by
  have h:=PR ((w.alloc (.cells #[.int .i64 n] 3)).alloc (.cells #[.slice none 0 0] 31)) #[.slice none 0 0] 39 0;rw[t2] at h;exact h
 obtain⟨W0,Jf⟩:=xX (((w.alloc (.cells #[.int .i64 n] 3)).alloc (.cells #[.slice none 0 0] 31)).alloc (.cells #[.slice none 0 0] 39));rw[Jf] at t3 ub c0' pV c2 z1 z2;have aU:=z7 Jf;have hE0:=hE.below ub;have HPE:=z7 (Wn (σ:=Ak) s (.func (.func 32) #[] #[.pointer (some ⟨b+1,0,none⟩),.pointer (some ⟨b+2,0,none⟩),.pointer (some ⟨b,0,none⟩)]) (fun hi s room W=>DJ b n w hi s room W) (jN n) [] W0 hs (KX hT ub) (hN.below ub) ⟨_,_,rfl⟩
  (fun hi hh=>by
   rw[t3] at hh |-
   refine⟨⟨_,_,rfl,fun args w=>enters_of func32 (by kernel_rfl) rfl args w,fun s room W nm pl hI _ _=>Wo b n w hi s room W nm pl hI⟩,fun s r W W' h ha=>h.same ha,fun s r r' W h hr=>⟨h.low,h.oy,h.nc,h.names,h.z1,h.z2,by have:=h.jV;omega,h.Hf⟩,fun s nm a c s' h=>by cases h⟩)
  (fun hi W hh hW jB=>by
   rw[t3] at hh;have k0:=(jB.cell (p:=⟨b,0,none⟩) (by show b<_;omega)).trans c0';have k1:=(jB.cell (p:=⟨b+1,0,none⟩) (by show b+1<_;omega)).trans pV;have k2:=(jB.cell (p:=⟨b+2,0,none⟩) (by show b+2<_;omega)).trans c2;exact⟨hh,hW,k0,⟨_,k1,zJ _ _ _ _,_,k2,zJ _ _ _ _,fun g hg=>by cases hg⟩,(jB.frozen (p:=⟨b+1,0,none⟩) (by show b+1<_;omega)).trans z1,(jB.frozen (p:=⟨b+2,0,none⟩) (by show b+2<_;omega)).trans z2,by simp,
    by have h:=ub.trans (jB.mono (by omega));rw[hb] at h;exact h⟩))
 obtain⟨r,hr⟩:=xX (ke s.data.toList);rw[hr] at HPE |-
 clear hr q1 q2 q3 c0 c1 hT hN hE Jf t1 t2 z1 z2 c0';go_enter func19,ntmps19;go_wp2_with fail;rw[aU.out];refine HPE.out.mono ?_;rintro e w1 hq
 cases r with
 | error en =>
  obtain⟨k,a⟩:=en;obtain⟨⟨bf,rfl,f0,f1⟩,xG⟩:=hq;have ax:=z7 (ep bf (k:Nat) (a:Nat) w1 (hE0.below xG) f0 f1);have m1:=(xG.cell (p:=⟨b+1,0,none⟩) (by show b+1<_;omega)).trans pV;have m2:=(xG.cell (p:=⟨b+2,0,none⟩) (by show b+2<_;omega)).trans c2;have Ja:=ub.trans (xG.mono (by omega));have uH:=xG.size;clear f0 f1 xG HPE;go_wp2_with fail;refine ax.out.mono ?_;rintro e w2 ⟨rfl,xJ⟩;have n1:=(xJ.cell (p:=⟨b+1,0,none⟩) (by show b+1<_;omega)).trans m1;have n2:=(xJ.cell (p:=⟨b+2,0,none⟩) (by show b+2<_;omega)).trans m2;have ZW:=Ja.trans (xJ.mono (by omega));clear m1 m2 ax;have jO:w2.drew.cell? ⟨b+1,0,none⟩=some (.slice none 0 0)/\w2.drew.cell? ⟨b+2,0,none⟩=some (.slice none 0 0):=⟨n1,n2⟩;go_wp2_with fail;refine rt (fun W':World=>W'.cell? ⟨b+1,0,none⟩=some (.slice none 0 0)/\W'.cell? ⟨b+2,0,none⟩=some (.slice none 0 0)) [0,1,2,3,4,5,6,7] 0 jO ?_;(iterate 8 ((first|refine ty ?_|refine tn ?_);try simp only[pl]))
  refine xq ?_;refine b7 ?_ _;go_wp2;refine bodyPost_ret (v := .tuple #[.slice none 0 0,.slice none 0 0,.int .i64 (k:Nat),.int .i64 (a:Nat)]) ?_ rfl ?_
  .simp[results,results19,go_sem]
  exact⟨rfl,ZW.drew⟩
 | ok f =>
  obtain⟨bo,so,ho⟩:=walk_go n f [];have Rj:YK n f=so:=by unfold YK;rw[ho]
  have HWL:=z7 Rj;obtain⟨hi,Z2,hq⟩:=hq;rw[ho] at hq;obtain⟨rfl,hI⟩:=hq;have xG:Below W0.heap.size W0 W0:=zg _ _;have F8:=hI.Hf;obtain⟨vv,m1,r1,uu,m2,r2,_⟩:=hI.names;obtain⟨va,vc,rfl⟩:=xf r1;obtain⟨ua,uc,rfl⟩:=xf r2;have uH:b+2<w1.heap.size:=zu _ _ m2;have ax:=z7 (QF w1);have fI:=z7 r1;have Jh:=z7 r2;clear Rj ho hI r1 r2 HPE;obtain⟨L,hL⟩:=xX so.length;rw[hL] at m1 m2;have HL:=z7 hL;clear hL;go_wp2_with fail;refine ax.out.mono ?_;rintro e w2 ⟨rfl,xJ⟩;have n1:=(xJ.cell (p:=⟨b+1,0,none⟩) (by show b+1<_;omega)).trans m1;have n2:=(xJ.cell (p:=⟨b+2,0,none⟩) (by show b+2<_;omega)).trans m2;clear m1 m2 ax;have jO:w2.drew.cell? ⟨b+1,0,none⟩=some (.slice va L vc)/\w2.drew.cell? ⟨b+2,0,none⟩=some (.slice ua L uc):=⟨n1,n2⟩;go_wp2_with fail;refine rt (fun W':World=>W'.cell? ⟨b+1,0,none⟩=some (.slice va L vc)/\W'.cell? ⟨b+2,0,none⟩=some (.slice ua L uc)) [0,1,2,3,4,5,6,7] 0 jO ?_;(iterate 8 ((first|refine ty ?_|refine tn ?_);try simp only[pl]))
  refine xq ?_;refine b7 ?_ _;go_wp2;refine bodyPost_ret (v := .tuple #[.slice va L vc,.slice ua L uc,.int .i64 0,.int .i64 0]) ?_ rfl ?_
  .simp[results,results19,go_sem]
  have KV:Below w.heap.size w w2:=by rw[HB.out];exact F8.trans (xJ.mono (by omega))
  have o1:=DD (ZR fI.out (Alt.of (m:=hi) xJ)) (base':=w.heap.size) (by rw[HB.out];omega);have o2:=DD (ZR Jh.out (Alt.of (m:=hi) xJ)) (base':=w.heap.size) (by rw[HB.out];omega);refine⟨?_,KV.drew⟩;refine⟨va,vc,ua,uc,by rw[HWL.out,HL.out],?_,?_⟩
  .rw[HWL.out,HL.out];have h:=o1;rw[HL.out] at h;exact h
  .rw[HWL.out,HL.out];have h:=o2;rw[HL.out] at h;exact h
def Fo.kinds(K:Wd->Option Nat):Fo->Prop
 | .nil=>True
 | .text _ r=>r.kinds K
 | .hash r=>r.kinds K
 | .put _ _ r=>r.kinds K
 | .num n _ r=>K n=some 1/\r.kinds K
 | .br n _ f _ _ bs r=>K n=some (if f=0 then 2 else 1)/\bs.kinds K/\r.kinds K
 | .uz _ _ m r=>m.kinds K/\r.kinds K
def Fo.vP:Fo->List (Wd×Nat)
 | .nil=>[]
 | .text _ r=>r.vP
 | .hash r=>r.vP
 | .put n a r=>(n,a)::r.vP
 | .num n a r=>(n,a)::r.vP
 | .br n a _ _ _ bs r=>(n,a)::(bs.vP++r.vP)
 | .uz _ _ m r=>m.vP++r.vP
theorem Fo.kE:∀ f:Fo,f.vP.length*24<=f.uj
 | .nil=>zy _
 | .text t r=>by have:=Fo.kE r;simp only[Fo.vP,Fo.uj];omega
 | .hash r=>by have:=Fo.kE r;simp only[Fo.vP,Fo.uj];omega
 | .put n a r=>by have:=Fo.kE r;simp only[Fo.vP,Fo.uj,zZ];omega
 | .num n a r=>by have:=Fo.kE r;simp only[Fo.vP,Fo.uj,zZ];omega
 | .br n a f o c b r=>by have:=Fo.kE b;have:=Fo.kE r;simp only[Fo.vP,Fo.uj,zZ,z8];omega
 | .uz k a m r=>by have:=Fo.kE m;have:=Fo.kE r;simp only[Fo.vP,Fo.uj,z8];omega
theorem Fo.qR:∀ f:Fo,f.fit->∀ p∈f.vP,j8 p.1=true
 | .nil,_,_,hp=>by cases hp
 | .text t r,h,p,hp=>Fo.qR r h p hp
 | .hash r,h,p,hp=>Fo.qR r h p hp
 | .put n a r,h,p,hp=>by
  rcases zF.1 hp with rfl|hp
  .exact h.1.2
  .exact Fo.qR r h.2 p hp
 | .num n a r,h,p,hp=>by
  rcases zF.1 hp with rfl|hp
  .exact h.1.2
  .exact Fo.qR r h.2 p hp
 | .br n a f o c b r,h,p,hp=>by
  rcases zF.1 hp with rfl|hp
  .exact h.1.2
  .rcases zv.1 hp with hp|hp
   .exact Fo.qR b h.2.2.2.2.1 p hp
   .exact Fo.qR r h.2.2.2.2.2 p hp
 | .uz k a m r,h,p,hp=>by
  rcases zv.1 hp with hp|hp
  .exact Fo.qR m h.1 p hp
  .exact Fo.qR r h.2 p hp
theorem Wr(n:Int):∀ (f:Fo) (s:Ak),((s.length+f.vP.length:Nat):Int)<n->xO (YQ (jN n)) f s = .go true (s++f.vP):=by
 have one:∀ (s:Ak) (nm:Wd) (a:Nat),((s.length+1:Nat):Int)<n->jN n s nm a = .go true (s++[(nm,a)]):=fun s nm a h=>by
  unfold jN;rw[decide_eq_true h]
 intro f;induction f with
 | nil=>intro s _;simp[xO,Fo.vP]
 | text t r ih=>exact fun s h=>ih s h
 | hash r ih=>exact fun s h=>ih s h
 | put nm a r ih =>
  intro s h;simp only[Fo.vP,zZ] at h;have h2:=ih (s++[(nm,a)]) (by rw[z8];simp only[zU];omega);show Out.then (jN n s nm a) _=_;rw[one s nm a (by omega)];show xO (YQ (jN n)) r _=_;rw[h2];simp[Fo.vP]
 | num nm a r ih =>
  intro s h;simp only[Fo.vP,zZ] at h;have h2:=ih (s++[(nm,a)]) (by rw[z8];simp only[zU];omega);show Out.then (jN n s nm a) _=_;rw[one s nm a (by omega)];show xO (YQ (jN n)) r _=_;rw[h2];simp[Fo.vP]
 | br nm a fo o c bs r N5 N6 =>
  intro s h;simp only[Fo.vP,zZ,z8] at h;have h2:=N5 (s++[(nm,a)]) (by rw[z8];simp only[zU];omega);have h3:=N6 (s++[(nm,a)]++bs.vP) (by simp only[z8,zU];omega);show Out.then (jN n s nm a) _=_;rw[one s nm a (by omega)];show Out.then (xO (YQ (jN n)) bs _) _=_;rw[h2];show xO (YQ (jN n)) r _=_;rw[h3];simp[Fo.vP]
 | uz k a m r N5 N6 =>
  intro s h;simp only[Fo.vP,z8] at h;have h2:=N5 s (by omega);have h3:=N6 (s++m.vP) (by rw[z8];omega);show Out.then (xO (YQ (jN n)) m s) _=_;rw[h2];show xO (YQ (jN n)) r _=_;rw[h3];simp[Fo.vP]
theorem PS{n:Int}{f:Fo}(h:(f.vP.length:Int)<n):YK n f=f.vP:=by
 unfold YK;rw[Wr n f [] (by simpa using h)];rfl
theorem CU{s:UA}{n:Wd}{a k:Nat}(h:(vO s n a k).2=[])(hk:k≠0):s.2=[]/\(∀ m x,s.1 m=some x->(vO s n a k).1 m=some x)/\(vO s n a k).1 n=some k:=by
 unfold vO at h |-
 by_cases h1:k≠0/\(s.1 n).isSome=true/\(s.1 n).getD 0≠k
 .rw[if_pos h1] at h;simp at h
 .rw[if_neg h1,if_pos hk] at h |-
  refine⟨h,fun m x hm=>?_,by simp⟩;dsimp only;split
  .next e =>
   subst e;by_cases hx:x=k
   .rw[hx]
   .exact absurd ⟨hk,by rw[hm];rfl,by rw[hm];exact hx⟩ h1
  .exact hm
theorem jt{K K':Wd->Option Nat}(h:∀ m x,K m=some x->K' m=some x):∀ f:Fo,f.kinds K->f.kinds K'
 | .nil,_=>trivial
 | .text _ r,hk=>jt h r hk
 | .hash r,hk=>jt h r hk
 | .put _ _ r,hk=>jt h r hk
 | .num _ _ r,hk=>⟨h _ _ hk.1,jt h r hk.2⟩
 | .br _ _ _ _ _ bs r,hk=>⟨h _ _ hk.1,jt h bs hk.2.1,jt h r hk.2.2⟩
 | .uz _ _ m r,hk=>⟨jt h m hk.1,jt h r hk.2⟩
theorem PT:∀ (f:Fo) (s:UA),∃ s',xO fK f s = .go true s'/\(s'.2=[]->s.2=[]/\(∀ m x,s.1 m=some x->s'.1 m=some x)/\f.kinds s'.1):=by
 intro f;induction f with
 | nil=>exact fun s=>⟨s,rfl,fun h=>⟨h,fun _ _ h=>h,trivial⟩⟩
 | text t r ih=>exact fun s=>ih s
 | hash r ih=>exact fun s=>ih s
 | put n a r ih =>
  intro s;obtain⟨s',h1,h2⟩:=ih (vO s n a 0);refine⟨s',h1,fun h=>?_⟩;obtain⟨a1,a2,a3⟩:=h2 h;have e:vO s n a 0=s:=by simp[vO]
  rw[e] at a1 a2;exact⟨a1,a2,a3⟩
 | num n a r ih =>
  intro s;obtain⟨s',h1,h2⟩:=ih (vO s n a 1);refine⟨s',h1,fun h=>?_⟩;obtain⟨a1,a2,a3⟩:=h2 h;obtain⟨b1,b2,b3⟩:=CU a1 (by decide);exact⟨b1,fun m x hm=>a2 m x (b2 m x hm),a2 _ _ b3,a3⟩
 | br n a fo o c bs r N5 N6 =>
  intro s;obtain⟨s1,h1,h2⟩:=N5 ((vO s n a (jg (.br n a fo o c bs .nil))).1,(vO s n a (jg (.br n a fo o c bs .nil))).2++QX c [] [] bs);obtain⟨s2,h3,h4⟩:=N6 s1;refine⟨s2,?_,fun h=>?_⟩
  .show Out.then (xO fK bs _) _=_;rw[h1];exact h3
  .obtain⟨a1,a2,a3⟩:=h4 h;obtain⟨b1,b2,b3⟩:=h2 a1;have hk:jg (.br n a fo o c bs .nil)=if fo=0 then 2 else 1:=rfl;rw[hk] at b1 b2;obtain⟨d1,d2,d3⟩:=CU (List.append_eq_nil_iff.1 b1).1 (by split<;>decide);exact⟨d1,fun m x hm=>a2 m x (b2 m x (d2 m x hm)),a2 _ _ (b2 _ _ d3),jt a2 bs b3,a3⟩
 | uz k a m r N5 N6 =>
  intro s;obtain⟨s1,h1,h2⟩:=N5 s;obtain⟨s2,h3,h4⟩:=N6 s1;refine⟨s2,?_,fun h=>?_⟩
  .show Out.then (xO fK m s) _=_;rw[h1];exact h3
  .obtain⟨a1,a2,a3⟩:=h4 h;obtain⟨b1,b2,b3⟩:=h2 a1;exact⟨b1,fun n x hn=>a2 n x (b2 n x hn),jt a2 m b3,a3⟩
theorem Ws{f:Fo}(h:Z7 f=none):∃ K,f.kinds K:=by
 obtain⟨s',h1,h2⟩:=PT f (fun _=>none,[]);unfold Z7 jH at h;rw[h1] at h;dsimp only at h
 cases hs:s'.2 with
 | nil=>exact⟨s'.1,(h2 hs).2.2⟩
 | cons x l=>rw[hs] at h;cases h
theorem PW{E:qJ Unit}{K:Wd->Option Nat}{fm:Wd->Option (Wd×Bool)}:∀ (f:Fo) (k:Wd) (x:vq) (o:Wd),f.kinds K->(∀ p∈f.vP,fm p.1=some ([50],decide (K p.1=some 1)))->∃ o',kT (Jo E fm) f k x o () = .ok (o',()):=by
 have hv:∀ b,gi [50] b=true:=by intro b;cases b<;>kernel_rfl
 have hg:∀ n b,fm n=some ([50],b)->Ze (Jo E fm) n () = .ok (([50],b),()):=fun n b h=>by
  simp only[Ze,Jo,su,h,hv,if_true]
 intro f;induction f with
 | nil=>exact fun k x o _ _=>⟨o,rfl⟩
 | text t r ih=>exact fun k x o h hh=>ih k x _ h hh
 | hash r ih=>exact fun k x o h hh=>ih k x _ h hh
 | put n a r ih =>
  intro k x o h hh;obtain⟨o',ho⟩:=ih k x (o++OU (Jo E fm) [50] (decide (K n=some 1))) h (fun p hp=>hh p (by simp[Fo.vP,hp]));refine⟨o',?_⟩;rw[kT,hg n _ (hh (n,a) (by simp[Fo.vP]))];exact ho
 | num n a r ih =>
  intro k x o h hh;have e:=hg n _ (hh (n,a) (by simp[Fo.vP]));rw[decide_eq_true h.1] at e;obtain⟨o',ho⟩:=ih k x (o++(Jo E fm).wr (numOf [50])) h.2 (fun p hp=>hh p (by simp[Fo.vP,hp]));refine⟨o',?_⟩;rw[kT,Zi,e];exact ho
 | br n a fo off c bs r N5 N6 =>
  intro k x o h hh;have e:=hg n _ (hh (n,a) (by simp[Fo.vP]));have hb:∀ p∈bs.vP,fm p.1=some ([50],decide (K p.1=some 1)):=fun p hp=>hh p (by simp[Fo.vP,hp])
  have hr:∀ p∈r.vP,fm p.1=some ([50],decide (K p.1=some 1)):=fun p hp=>hh p (by simp[Fo.vP,hp])
  have hK:=h.1;by_cases h0:fo=0
  .rw[if_pos h0] at hK;rw[show decide (K n=some 1)=false by rw[hK];decide] at e;obtain⟨o1,h1⟩:=N5 (Zl bs.keys [50]) x o h.2.1 hb;obtain⟨o2,h2⟩:=N6 k x o1 h.2.2 hr;refine⟨o2,?_⟩;rw[kT,if_pos h0,Hg,e];simp only[Bool.false_eq_true,if_false];rw[h1];exact h2
  .rw[if_neg h0] at hK;rw[decide_eq_true hK] at e;obtain⟨o1,h1⟩:=N5 (Ff (Jo E fm) fo bs.keys (numOf [50]) (X9 (numOf [50]) (xE off))) (X9 (numOf [50]) (xE off)) o h.2.1 hb;obtain⟨o2,h2⟩:=N6 k x o1 h.2.2 hr;refine⟨o2,?_⟩;rw[kT,if_neg h0,Zi,e];simp only[if_true];rw[h1];exact h2
 | uz k' a m r N5 N6 =>
  intro k x o h hh;rw[kT];split
  .exact N5 [] x o h.1 (fun p hp=>hh p (by simp[Fo.vP,hp]))
  .exact N6 k x o h.2 (fun p hp=>hh p (by simp[Fo.vP,hp]))
def Vv(l:List Wd):List Wd:=l.foldl (fun a x=>if x∈a then a else a++[x]) []
theorem nK:∀ (l a:List Wd) (x:Wd),x∈l.foldl (fun a x=>if x∈a then a else a++[x]) a ↔ x∈a\/x∈l
 | [],a,x=>by simp
 | y::l,a,x=>by
  rw[zO,nK l];by_cases h:y∈a
  .rw[if_pos h];constructor
   .rintro(q|q)
    .exact .inl q
    .exact .inr (List.mem_cons_of_mem _ q)
   .rintro(q|q)
    .exact .inl q
    .rcases zF.1 q with rfl|q
     .exact .inl h
     .exact .inr q
  .rw[if_neg h];simp[or_assoc]
theorem Sj{l:List Wd}{x:Wd}:x∈Vv l ↔ x∈l:=by
 unfold Vv;rw[nK];simp
theorem nJ(l:List Wd)(x:Wd):Vv (l++[x])=if x∈Vv l then Vv l else Vv l++[x]:=by
 unfold Vv;rw[List.foldl_append];rfl
theorem tX(l:List Wd):(Vv l).length<=l.length:=by
 have:∀ (l a:List Wd),(l.foldl (fun a x=>if x∈a then a else a++[x]) a).length<=a.length+l.length:=by
  intro l;induction l with
  | nil=>intro a;simp
  | cons y l ih =>
   intro a;rw[zO];refine zQ (ih _) ?_;split
   .simp
   .simp;omega
 simpa[Vv] using this l []
def nG(b:Bool):Wd:=if b then [110] else []
def fH(jV:List Wd)(kd:Nat->Bool)(i:Nat):List Wd:=(List.range i).flatMap fun j=>[jV.getD j [],nG (kd j),[50]]
theorem UL(jV:List Wd)(kd:Nat->Bool)(i:Nat):fH jV kd (i+1)=fH jV kd i++[jV.getD i [],nG (kd i),[50]]:=by
 simp[fH,List.range_succ]
theorem VD(jV:List Wd)(kd:Nat->Bool):∀ i,(fH jV kd i).length=3*i
 | 0=>rfl
 | i+1=>by rw[UL,z8,VD jV kd i];simp;omega
theorem MR:∀ (n:Nat) (l m:List Wd) (p:Nat×(Wd->Option (Wd×Bool))),l.length=3*n->uY (l++m) p=uY m (uY l p)
 | 0,l,m,p,h=>by
  obtain rfl:=List.eq_nil_of_length_eq_zero (by omega:l.length=0);rfl
 | n+1,[],m,p,h=>by simp at h
 | n+1,[_],m,p,h=>by simp at h;omega
 | n+1,[_,_],m,p,h=>by simp at h;omega
 | n+1,a::b::c::l,m,p,h=>by
  simp only[zL];rw[uY,uY,MR n l m _ (by simp at h;omega)]
theorem CQ{jV:List Wd}{kd:Nat->Bool}{K:Wd->Bool}(hk:∀ j (h:j<jV.length),kd j=K jV[j]):∀ i,i<=jV.length->(uY (fH jV kd i) (0,fun _=>none)).1<=i/\∀ m,(uY (fH jV kd i) (0,fun _=>none)).2 m=if m∈jV.take i then some ([50],K m) else none
 | 0,_=>⟨zy _,fun m=>by simp[fH,uY]⟩
 | i+1,h=>by
  obtain⟨h1,h2⟩:=CQ hk i (by omega);have hi:i<jV.length:=by omega
  have hg:jV.getD i []=jV[i]:=by rw[zf,zY hi];rfl
  rw[UL,MR i _ _ _ (VD jV kd i),uY,uY]
  .refine⟨?_,fun m=>?_⟩
   .dsimp only;split<;>omega
   .dsimp only;rw[hg];have ht:jV.take (i+1)=jV.take i++[jV[i]]:=zV hi;by_cases e:jV[i]=m
    .subst e;rw[if_pos rfl,if_pos (ht▸zv.2 (.inr (zk.2 rfl)))];rw[hk i hi]
     cases K jV[i]<;>rfl
    .rw[if_neg e,h2];by_cases hm:m∈jV.take i
     .rw[if_pos hm,if_pos (ht▸zv.2 (.inl hm))]
     .rw[if_neg hm,if_neg (by rw[ht,zv,zk];exact fun q=>q.elim hm (fun q=>e q.symm))]
  .intro a b c l q
   cases q
abbrev XZ(w:World)(v:Value)(l:List Wd):Prop:=w.ownsRow 0 9 1 v l.length (l.map xg)
theorem XZ.texts{w:World}{v:Value}{l:List Wd}(h:XZ w v l):∃ a c,v = .slice a l.length c/\Ys w a l:=by
 by_cases h0:0<l.length
 .obtain⟨g,c,hv,-,-,hc⟩:=vZ h h0;refine⟨_,c,hv,fun _=>⟨g,0,rfl,fun j t ht=>?_⟩⟩;have:=(List.getElem?_eq_some_iff.1 ht).1;rw[Nat.zero_add,hc j (by omega),List.getElem?_map,ht];rfl
 .obtain⟨a,c,hv⟩:=xf h;exact⟨a,c,hv,fun q=>absurd (List.length_pos_iff.2 q) h0⟩
theorem XZ.at_{w:World}{v:Value}{l:List Wd}{j:Nat}(h:XZ w v l)(hj:j<l.length):∃ g c,v = .slice (some ⟨g,0,none⟩) l.length c/\w.cell? ⟨g,j,none⟩=some (xg l[j]):=by
 obtain⟨g,c,hv,-,-,hc⟩:=vZ h (by omega);exact⟨g,c,hv,by rw[hc j (by omega)];simp[hj]⟩
def VW(k j:Nat):Bool:=decide (k / 2 ^ j % 2=1)
theorem tV:∀ k:Fin 16,∀ j:Fin 4,(bits .and .i64 ((k.val:Int) / 2 ^ j.val) 1==1)=VW k.val j.val:=by decide +kernel
theorem tU:∀ a b c d:Bool,a.toNat+2*b.toNat+4*c.toNat+8*d.toNat<16/\VW (a.toNat+2*b.toNat+4*c.toNat+8*d.toNat) 0=a/\VW (a.toNat+2*b.toNat+4*c.toNat+8*d.toNat) 1=b/\VW (a.toNat+2*b.toNat+4*c.toNat+8*d.toNat) 2=c/\VW (a.toNat+2*b.toNat+4*c.toNat+8*d.toNat) 3=d:=by decide
theorem tQ(p:Nat->Bool):∃ kb,kb<16/\∀ j,j<4->VW kb j=p j:=by
 obtain⟨h,h0,h1,h2,h3⟩:=tU (p 0) (p 1) (p 2) (p 3);refine⟨_,h,fun j hj=>?_⟩;match j,hj with
 | 0,_=>exact h0
 | 1,_=>exact h1
 | 2,_=>exact h2
 | 3,_=>exact h3
theorem nD{f:Fo}{jV:List Wd}{K:Wd->Option Nat}{kd:Nat->Bool}{E:qJ Unit}{t:Wd}{n:Nat}(hL:jV.length<=4)(hh:∀ m,m∈jV ↔ ∃ p∈f.vP,p.1=m)(hn:∀ p∈f.vP,j8 p.1=true)(hK:f.kinds K)
  (hkd:∀ j (h:j<jV.length),kd j=decide (K jV[j]=some 1)) (hq:M5 E f (uY (fH jV kd jV.length) (0,fun _=>none)).1 (uY (fH jV kd jV.length) (0,fun _=>none)).2 t n):n=0:=by
 obtain⟨h1,h2⟩:=CQ (K:=fun m=>decide (K m=some 1)) hkd jV.length (zy _);rw[List.take_length] at h2;have kZ:Zp (uY (fH jV kd jV.length) (0,fun _=>none)).2 (uY (fH jV kd jV.length) (0,fun _=>none)).1:=by
  refine⟨by omega,fun m x hx=>?_⟩;rw[h2] at hx;split at hx
  .next hm =>
   cases hx;obtain⟨p,hp,rfl⟩:=(hh m).1 hm;refine⟨hn p hp,?_⟩;dsimp only;generalize decide (K p.1=some 1)=b
   cases b<;>kernel_rfl
  .cases hx
 obtain⟨o,ho⟩:=PW (E:=E) (fm:=(uY (fH jV kd jV.length) (0,fun _=>none)).2) f [] (false,([],[])) [] hK (fun p hp=>by rw[h2,if_pos ((hh p.1).2 ⟨p,hp,rfl⟩)]);rcases hq with⟨-,h3⟩|⟨h3,-⟩
 .rw[ho] at h3;exact h3.2
 .exact absurd kZ h3
theorem nE(s:ByteArray)(w:World)(hs:s.size<=9223372036854775807)(hE:dU w) :
  Calls prog 6 #[.string s] w fun e w'=>e = .returned (.bool true)/\Below w.heap.size w w':=by
 by_cases h60:8192<s.size
 .have g1:decide (8192<(s.size:Int))=true:=decide_eq_true (by omega);go_enter func6,ntmps6;go_wp2;go_ret;exact⟨rfl,zg _ _⟩
 have xb9:s.size<=8192:=by omega
 have g1:decide (8192<(s.size:Int))=false:=decide_eq_false (by omega);have jD:=z7 (PN w hE);have HE:=z7 hE;clear h60 hE;go_enter func6,ntmps6;go_wp2_with fail;refine jD.out.mono ?_;rintro e w0 ⟨rfl,jk⟩;have hE0:=HE.out.below jk;have HWK:=z7 (nQ s 8192 w0 hs hE0.cmp.tabs.err hE0.cmp.tabs.eW hE0.cmp.names);have HB0:=z7 jk;obtain⟨r,hr⟩:=xX (ke s.data.toList);rw[hr] at HWK;have HR:=z7 hr;clear jD jk hE0 hr;go_wp2_with fail;refine HWK.out.mono ?_;rintro e w1 ⟨UP,xG⟩;have NH:=z7 (HB0.out.trans (xG.mono HB0.out.size))
 cases r with
 | error x =>
  obtain⟨n,a⟩:=x;obtain rfl:=UP;have hn:n≠0:=tY HR.out;have bO:((n:Int)=0)=False:=by simp;omega
  clear HWK xG HB0;go_wp2_with fail;refine(Vz w1).mono ?_;rintro e w2 ⟨⟨c,o,rfl,hc,ho⟩,xJ⟩;obtain⟨ca,cn,ck,rfl⟩:=hc.slice;obtain⟨oa,on,ok,rfl⟩:=ho.slice;have hG:=MM.made (Xx.mk hc ho) (NH.out.trans (xJ.mono NH.out.size));go_wp2_with fail;generalize w2.alloc (.cells #[.slice ca cn ck,.slice oa on ok,.int .i32 45,.int .i32 46,.int .i32 44,.int .u8 3,.int .u8 0,.string ⟨#[]⟩] 25)=W at hG |-
  generalize w2.heap.size=B at hG |-
  clear hc ho xJ;have pR:=DQ (p:=s.data.toList) (w:=W) (by rw[xc];omega) (HE.out.below hG.Hf).cmp (HE.out.below hG.Hf).rt hG.eng;rw[show xg s.data.toList = .string s by simp[xg],HR.out] at pR;have HC:=z7 pR;have HG:=z7 hG;clear pR hG;refine HC.out.mono ?_;rintro e w3 ⟨ub,rfl⟩;have HB:=z7 (HG.out.next ub).Hf;clear ub HC HG;go_wp2;go_ret;exact⟨by first|rfl|simp[hn],HB.out⟩
 | ok f =>
  obtain⟨va,vc,ua,uc,rfl,xV,-⟩:=UP;obtain⟨p1,p2⟩:=ZM HR.out;obtain⟨m1,m2,m3⟩:=KN p1 p2;have hhm:=f.kE;have Rj:YK 8192 f=f.vP:=PS (by omega);rw[Rj] at xV |-
  obtain⟨nm,Jc⟩:=xX (f.vP.map (·.1));have ZG:XZ w1 (.slice va f.vP.length vc) nm:=by
   have:=DD (base':=0) xV (zE _);rw[<-Jc];dsimp only[XZ];rw[zN,List.map_map];exact this
  obtain⟨N,hN⟩:=xX f.vP.length;have hNm:nm.length=N:=by rw[<-Jc,zN,hN]
  rw[hN] at ZG hhm |-
  have HNM:=z7 (zX Jc hNm);have HO:=z7 ZG;have lD:=z7 (zX (Fo.qR f m3) (Ws p2));clear xV ZG Rj Jc hN hNm p1 p2 m1 m2 m3 HWK HB0 xG;go_wp2_with fail;refine(Vz w1).mono ?_;rintro e w2 ⟨⟨c,o,rfl,hc,ho⟩,xJ⟩;obtain⟨ca,cn,ck,rfl⟩:=hc.slice;obtain⟨oa,on,ok,rfl⟩:=ho.slice;have hG:=MM.made (Xx.mk hc ho) (NH.out.trans (xJ.mono NH.out.size));have ee:=z7 ((Fr.of xJ (F:=xI)).own HO.out (fun _ _=>id));have TQ:=z7 (((Fr.refl xI w2).alloc (.cells #[.slice ca cn ck,.slice oa on ok,.int .i32 45,.int .i32 46,.int .i32 44,.int .u8 3,.int .u8 0,.string ⟨#[]⟩] 25)).own ee.out (fun _ _=>id));go_wp2_with fail;generalize w2.alloc (.cells #[.slice ca cn ck,.slice oa on ok,.int .i32 45,.int .i32 46,.int .i32 44,.int .u8 3,.int .u8 0,.string ⟨#[]⟩] 25)=W at hG TQ |-
  generalize w2.heap.size=B at hG |-
  clear hc ho xJ HO ee;have pR:=DQ (p:=s.data.toList) (w:=W) (by rw[xc];omega) (HE.out.below hG.Hf).cmp (HE.out.below hG.Hf).rt hG.eng;rw[show xg s.data.toList = .string s by simp[xg],HR.out] at pR;have HC:=z7 pR;have HG:=z7 hG;clear pR hG;refine HC.out.mono ?_;rintro e w3 ⟨ub,P,q,g,mb,vC,vI,rs,rfl,hL⟩;have HB:=z7 (HG.out.next ub).Hf;have JM:=z7 ((Fr.of ub (F:=xI)).own TQ.out (fun _ _=>id));have HL:=z7 hL;clear ub HC HG TQ hL;have hN1:N<=2000:=by
   obtain⟨p1,p2⟩:=ZM HR.out;have:=(KN p1 p2).2.1;omega
  clear hhm;go_wp2_with fail;go_loopw [12,13] (fun fv iv wr=>∃ (i:Nat) (v:Value),v=fv/\i<=N/\iv = .int .i64 i/\XZ wr v (Vv (nm.take i))/\Fr xI (xY v) w3 wr) (fun _ iv _=>N - (intOf iv).toNat)
  case atStart=>exact⟨0,_,rfl,zE _,rfl,zJ _ _ _ _,(Fr.refl _ _).tg (fun k hk=>by cases hk)⟩
  case round =>
   obtain⟨i,v,rfl,hi,rfl,xi,hf⟩:=hrel;obtain⟨w5,e5⟩:∃ w5,w5=wr:=⟨_,rfl⟩;subst e5;by_cases xB:i<N
   .have tN:i<nm.length:=by rw[HNM.out.2];exact xB
    obtain⟨x,hx⟩:=xX (nm[i]);obtain⟨gn,cn2,Aq,hcx⟩:=(show XZ w3 (.slice va N vc) nm from JM.out).at_ tN;have ylv:va=some ⟨gn,0,none⟩:=by injection Aq
    subst ylv;clear Aq;rw[hx] at hcx;have yyu:=hf.cell hcx id;obtain⟨D,hD⟩:=xX (Vv (nm.take i));have hds:Vv (nm.take (i+1))=if x∈D then D else D++[x]:=by
     rw[zV tN,hx,nJ,hD]
    have hDl:D.length<=N:=by
     rw[<-hD];refine zQ (tX _) ?_;rw[List.length_take];omega
    rw[hD] at xi;have HDS:=z7 hds;have HCX:=z7 hcx;have k1:(i:Int)<(N:Int):=by omega
    obtain⟨L,hL⟩:=xX D.length;obtain⟨fa,fc,rfl⟩:=xf xi;rw[hL] at hDl xi hf |-
    have Gu:=z7 (zX xi hf);have HLD:=z7 hL;clear xi hf hds hcx hx hD hL;go_wp2_with fail;go_loopw [14,15] (fun sv kv wr=>∃ (k:Nat) (b:Bool),b=decide (x∈D.take k)/\k<=L/\kv = .int .i64 k/\sv = .bool b/\Fr xI xI w5 wr) (fun _ kv _=>L - (intOf kv).toNat)
    case atStart=>exact⟨0,false,by simp,zE _,rfl,rfl,Fr.refl _ _⟩
    case round =>
     obtain⟨k,b,hb,hk,rfl,rfl,hf⟩:=hrel;by_cases b8:k<L
     .have CC:k<D.length:=by rw[HLD.out];exact b8
      obtain⟨gf,cf,hvf,hcy⟩:=XZ.at_ Gu.out.1 CC;have zd4:fa=some ⟨gf,0,none⟩:=by injection hvf
      subst zd4;clear hvf;obtain⟨y,hy⟩:=xX (D[k]);rw[hy] at hcy;have c1:=hf.cell hcy id;have c2:=hf.cell yyu id;have Dw:decide (x∈D.take (k+1))=(b ||(y==x)):=by
       rw[hb,zV CC,hy,Bool.eq_iff_iff];simp only[zv,zk,decide_eq_true_eq,Bool.or_eq_true,beq_iff_eq];exact⟨fun q=>q.imp id (fun z=>z.symm),fun q=>q.imp id (fun z=>z.symm)⟩
      obtain⟨q,hq⟩:=xX ((y==x));rw[hq] at Dw;have HBN:=z7 Dw;have HF:=z7 hf;have k2:(k:Int)<(L:Int):=by omega
      clear Dw hb hf hy;go_wp2_with fail;refine rt (fun W':World=>W'.cell? ⟨gf,k,none⟩=some (xg y)/\W'.cell? ⟨gn,i,none⟩=some (xg x)) [0,1,2,3,4,5,6,7,8,9,10,11,12] 0 ⟨c1,c2⟩ ?_
      cases b;all_goals
       (iterate 13 ((first|refine ty ?_|refine tn ?_);try simp only[pl]))
       refine xq ?_;refine b7 ?_ _;go_wp2;go_roundw
       case rel=>exact⟨k+1,_,HBN.out.symm,by omega,by go_num,by first|rfl|simp,HF.out.drew⟩
       case measure=>simp only[intOf];omega
     .have Nx:k=L:=by omega
      have Jt:¬(k:Int)<(L:Int):=by omega
      have Hx:D.take k=D:=by rw[Nx];exact zI (by rw[HLD.out];exact zy _)
      rw[Hx] at hb;have HF:=z7 (Gu.out.2.trans (hf.wide (G:=xY (.slice fa L fc)) (fun _ q=>q.elim)));have HRB:=z7 (hf.own Gu.out.1 (fun _ _=>id));have c2:=hf.cell yyu id;have HDM:=z7 hb;clear hb Nx Hx hf
      cases b
      .have HD2:=z7 (show Vv (nm.take (i+1))=D++[x] by rw[HDS.out,if_neg (by simpa using HDM.out)]);go_wp2_with (at_builtin;refine Uc qz [xg x] 1 HRB.out (by have:=HLD.out;omega) ?_);intro v2 w6 X3 vU;have Jh:=z7 (show XZ w6 v2 (Vv (nm.take (i+1))) by rw[HD2.out];dsimp only[XZ];rw[z8,zM];exact X3);have fL:=z7 (HF.out.trans vU);clear X3 vU;go_wp2;go_roundw
       case rel=>exact⟨i+1,_,rfl,by omega,by go_num,Jh.out,fL.out⟩
       case measure=>simp only[intOf];omega
      .have Jh:=z7 (show XZ wr (.slice fa L fc) (Vv (nm.take (i+1))) by rw[HDS.out,if_pos (by simpa using HDM.out)];exact HRB.out);go_wp2;go_roundw
       case rel=>exact⟨i+1,_,rfl,by omega,by go_num,Jh.out,HF.out⟩
       case measure=>simp only[intOf];omega
   .have Kk:i=N:=by omega
    have dI:¬(i:Int)<(N:Int):=by omega
    have Hx:nm.take i=nm:=by rw[Kk];exact zI (by rw[HNM.out.2];exact zy _)
    rw[Hx] at xi;obtain⟨jV,Eg⟩:=xX (Vv nm);rw[Eg] at xi;obtain⟨fa,fc,rfl⟩:=xf xi;obtain⟨L,hL⟩:=xX jV.length;have Gu:=z7 (zX xi hf);have Ud:=z7 (zX Eg hL);rw[hL];clear xi hf Hx Kk Eg hL;by_cases h4:4<L
    .have h4i:(4:Int)<(L:Int):=by omega
     have Ax:=z7 (HB.out.trans ((Gu.out.2.low (fun _ q=>q.elim) (zy _)).mono HB.out.size));go_wp2;go_ret;exact⟨by first|rfl|simp,Ax.out⟩
    .have h4i:¬(4:Int)<(L:Int):=by omega
     obtain⟨K,hK⟩:=lD.out.2;obtain⟨kb,hkb,yyk⟩:=tQ (fun j=>decide (K (jV.getD j [])=some 1));have HK:=z7 (zX hK yyk);have yyj:=z7 (show XZ w5 (.slice fa L fc) jV/\Fr xI (xY (.slice fa L fc)) w3 w5 by rw[<-Ud.out.2];exact Gu.out);clear hK yyk Gu;go_wp2_with fail;go_loopw [16] (fun kv wr=>∃ k:Nat,k<=kb/\kv = .int .i64 k/\XZ wr (.slice fa L fc) jV/\Fr xI (xY (.slice fa L fc)) w3 wr) (fun kv _=>16 - (intOf kv).toNat)
     case atStart=>exact⟨0,zE _,rfl,yyj.out⟩
     case round =>
      obtain⟨k,hk,rfl,xi,hf⟩:=hrel;have jh:=z7 (zX xi hf);obtain⟨w6,e6⟩:∃ w6,w6=wr:=⟨_,rfl⟩;subst e6;have k16:(k:Int)<16:=by omega
      clear xi hf;go_wp2_with fail;go_loopw [17,18] (fun lv iv wr=>∃ (i:Nat) (v:Value),v=lv/\i<=L/\iv = .int .i64 i/\XZ wr v (fH jV (VW k) i)/\Fr xI (xY v) w6 wr) (fun _ iv _=>L - (intOf iv).toNat)
      case atStart=>exact⟨0,_,rfl,zE _,rfl,zJ _ _ _ _,(Fr.refl _ _).tg (fun k hk=>by cases hk)⟩
      case round =>
       obtain⟨j,v,rfl,hj,rfl,xi,hf⟩:=hrel;by_cases ylq:j<L
       .have hjf:j<jV.length:=by rw[Ud.out.2];exact ylq
        obtain⟨gf,cf,hvf,hcy⟩:=XZ.at_ jh.out.1 hjf;have zd4:fa=some ⟨gf,0,none⟩:=by injection hvf
        subst zd4;clear hvf;have hg:jV.getD j []=jV[j]:=by rw[zf,zY hjf];rfl
        obtain⟨y,hy⟩:=xX (jV[j]);rw[hy] at hcy hg;have c1:=hf.cell hcy id;have HG:=z7 hg;have HRJ:=z7 (zX xi hf);have j1:(j:Int)<(L:Int):=by omega
        have j4:j<4:=by omega
        clear xi hf hcy hy hg;have bP:=tV ⟨k,by omega⟩ ⟨j,j4⟩;dsimp only at bP;obtain⟨b,hb⟩:=xX (VW k j);rw[hb] at bP;have HA:=z7 (show fH jV (VW k) (j+1)=fH jV (VW k) j++[y,nG b,[50]] by rw[UL,HG.out,hb]);have uN:=VD jV (VW k) j;have A7:=z7 uN;clear hb uN
        cases b;all_goals
         go_wp2_with (at_builtin;refine Uc qz [_,_,_] 3 HRJ.out.1 (by have:=A7.out;omega) ?_);intro v2 w7 X3 vU;have Jh:=z7 (show XZ w7 v2 (fH jV (VW k) (j+1)) by rw[HA.out];dsimp only[XZ];rw[z8,zM];exact X3);have fL:=z7 (HRJ.out.2.trans vU);clear X3 vU;go_wp2;go_roundw
         case rel=>exact⟨j+1,_,rfl,by omega,by go_num,Jh.out,fL.out⟩
         case measure=>simp only[intOf];omega
       .have Iu:j=L:=by omega
        have hjn:¬(j:Int)<(L:Int):=by omega
        rw[Iu] at xi;obtain⟨la,lc,hv,hta⟩:=xi.texts;subst hv;have kR:(fH jV (VW k) L).length=3*L:=VD jV (VW k) L;have Xg:∀ t∈fH jV (VW k) L,t.length<=1000000:=by
         intro t ht;obtain⟨q,hq,ht⟩:=List.mem_flatMap.1 ht;rw[List.mem_range] at hq;simp only[zF,List.not_mem_nil,or_false] at ht;rcases ht with rfl|rfl|rfl
         .have kh:q<jV.length:=by rw[Ud.out.2];exact hq
          rw[zf,zY kh];have h7:jV[q]∈Vv nm:=by rw[Ud.out.1];exact List.getElem_mem kh
          have T5:=Sj.1 h7;rw[<-HNM.out.1] at T5;obtain⟨p,hp,hpe⟩:=List.mem_map.1 T5;have:=lD.out.1 p hp;rw[hpe] at this;unfold j8 at this;simp only[Bool.and_eq_true,decide_eq_true_eq] at this;show jV[q].length<=_;omega
         .cases VW k q<;>decide
         .decide
        have XV:=jh.out.2.tr hf (fun _ q=>q.elim);have HFM:=z7 (JB (c:=lc) (HL.out.fr (XV.tg (fun _ q=>q.elim))) ((HE.out.below HB.out).cmp.tabs.err.below (XV.low (fun _ q=>q.elim) (zy _))) hta kR Xg (by omega));have HRF:=z7 (zX (hf.own jh.out.1 (fun _ _=>id)) XV);rw[kR];clear xi hf hta kR Xg XV;go_wp2_with fail;refine HFM.out.mono ?_;rintro e w7 ⟨⟨t,n,rfl,nH⟩,hf7⟩;have wM:=HRF.out.2.tr hf7 (fun _ q=>q.elim);have TU:=z7 (zX (hf7.own HRF.out.1 (fun _ _=>id)) (wM.tg (fun q hq=>yyj.out.2.fp q hq)));have Ax:=z7 (HB.out.trans ((wM.low (fun _ q=>q.elim) (zy _)).mono HB.out.size));have Jt:n≠0->k+1<=kb:=by
         intro hn;refine Nat.lt_of_le_of_ne hk (fun e=>hn ?_);subst e;rw[<-Ud.out.2] at nH;refine nD (by rw[Ud.out.2];omega) (fun m=>?_) lD.out.1 HK.out.1 (fun j hj=>?_) nH
         .rw[<-Ud.out.1,Sj,<-HNM.out.1,List.mem_map]
         .rw[HK.out.2 j (by have:=Ud.out.2;omega),zf,zY hj];rfl
        have Sd:=z7 Jt;clear nH hf7 wM HFM Jt;by_cases hn:n=0
        .have bO:((n:Int)=0)=True:=by simp[hn]
         subst hn;go_wp2;go_ret;exact⟨by first|rfl|simp,Ax.out⟩
        .have bO:((n:Int)=0)=False:=by simp[hn]
         have HKL:=z7 (Sd.out hn);go_wp2;go_roundw
         case rel=>exact⟨k+1,HKL.out,by go_num,TU.out⟩
         case measure=>simp only[intOf];omega
end Go.Proofs.YthpldolmpinnhaaGreatDoor
