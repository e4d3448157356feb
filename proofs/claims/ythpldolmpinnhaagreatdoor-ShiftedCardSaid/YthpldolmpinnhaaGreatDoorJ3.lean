import Derived.Test.YthpldolmpinnhaaGreatDoorJ2
import Derived.OneCell
namespace Go.Proofs.YthpldolmpinnhaaGreatDoor
open Go Go.RowKit
set_option maxRecDepth 10000
structure Fr (F F':Nat->Prop) (w w':World):Prop where
 os:w'.os=w.os
 tape:w'.tape=w.tape
 output:w'.output=w.output
 size:w.heap.size<=w'.heap.size
 keep:∀ k,k<w.heap.size->¬F k->w'.heap[k]? = w.heap[k]?
 fp:∀ k,F' k->F k\/w.heap.size<=k
namespace Fr
variable {F F' F'' G:Nat->Prop} {w w' w'':World}
theorem refl (F:Nat->Prop) (w:World):Fr F F w w:=⟨rfl,rfl,rfl,Nat.le_refl _,fun _ _ _=>rfl,fun _ h => .inl h⟩
theorem trans (h:Fr F F' w w') (k:Fr F' F'' w' w''):Fr F F'' w w'' :=
 ⟨k.os.trans h.os,k.tape.trans h.tape,k.output.trans h.output,Nat.le_trans h.size k.size,
  fun i hi hn=>(k.keep i (Nat.lt_of_lt_of_le hi h.size) (fun hf=>(h.fp i hf).elim hn (fun q=>by omega))).trans (h.keep i hi hn),
  fun i hi=>(k.fp i hi).elim (h.fp i) (fun q => .inr (Nat.le_trans h.size q))⟩
theorem wide (h:Fr F F' w w') (hF:∀ k,F k->G k):Fr G G w w':=⟨h.os,h.tape,h.output,h.size,fun k hk hn=>h.keep k hk (fun q=>hn (hF k q)),fun _ q => .inl q⟩
theorem tg (h:Fr F F' w w') (hF:∀ k,F'' k->F k\/w.heap.size<=k):Fr F F'' w w':=⟨h.os,h.tape,h.output,h.size,h.keep,hF⟩
theorem of (h:Below w.heap.size w w'):Fr F F w w':=⟨h.os,h.tape,h.output,h.size,fun k hk _=>h.block k hk,fun _ q => .inl q⟩
theorem below (h:Fr F F' w w') (hb:Below w'.heap.size w' w''):Fr F F' w w'':=h.trans (of hb)
theorem belowAt {B:Nat} (h:Fr F F' w w') (hb:Below B w' w'') (hB:w.heap.size<=B):Fr F F' w w'' :=
 ⟨hb.os.trans h.os,hb.tape.trans h.tape,hb.output.trans h.output,Nat.le_trans h.size hb.size,fun k hk hn=>(hb.block k (by omega)).trans (h.keep k hk hn),h.fp⟩
theorem und (h:Fr F F' w.drew w'):Fr F F' w w':=⟨h.os,h.tape,h.output,h.size,h.keep,h.fp⟩
theorem drew (h:Fr F F' w w'):Fr F F' w w'.drew:=⟨h.os,h.tape,h.output,h.size,h.keep,h.fp⟩
theorem alloc (h:Fr F F' w w') (o:Obj):Fr F F' w (w'.alloc o):=h.below ((Below.refl _ _).alloc (Nat.le_refl _) _)
theorem set (h:Fr F F' w w') {a:Addr} (u:Value) (ha:F a.block\/w.heap.size<=a.block):Fr F F' w (w'.setCell a u) :=
 ⟨h.os,h.tape,h.output,by simpa [World.setCell] using h.size,fun k hk hn=>(Below.heap_setCell _ _ _ _ (fun q=>by rcases ha with e | e;exact hn (q▸e);omega)).trans (h.keep k hk hn),h.fp⟩
theorem grown {r:Option Nat} (h:Fr F F' w w') (hg:w'.grownBy w'' r) (hr:∀ g,r=some g->F g\/w.heap.size<=g):Fr F F' w w'' :=
 ⟨hg.os.trans h.os,hg.tape.trans h.tape,hg.output.trans h.output,Nat.le_trans h.size hg.size,fun k hk hn=>(hg.block k (Nat.lt_of_lt_of_le hk h.size) (fun e=>(hr k e.symm).elim hn (fun q=>by omega))).trans (h.keep k hk hn),h.fp⟩
theorem cell (h:Fr F F' w w') {a:Addr} {v:Value} (hc:w.cell? a=some v) (ha:¬F a.block):w'.cell? a=some v :=
 (World.cell?_of_block (h.keep a.block (World.block_lt_of_cell? w a hc) ha)).trans hc
theorem frozen (h:Fr F F' w w') {a:Addr} (hl:a.block<w.heap.size) (ha:¬F a.block):w'.frozen? a=w.frozen? a:=World.frozen?_of_block (h.keep a.block hl ha)
theorem low {B:Nat} (h:Fr F F' w w') (hF:∀ k,F k->B<=k) (hB:B<=w.heap.size):Below B w w':=⟨h.os,h.tape,h.output,h.size,fun k hk=>h.keep k (by omega) (fun q=>by have:=hF k q;omega)⟩
theorem own {base size n:Nat} {e:TypeId} {v:Value} {xs:List Value} (h:Fr F F' w w') (ho:w.ownsRow base e size v n xs) (hv:∀ g,v.ownBlock=some g->¬F g):w'.ownsRow base e size v n xs:=by
 obtain ⟨h1,h2⟩:=ho;refine ⟨h1,?_⟩;rcases h2 with hn | ⟨g,cap,cur,e1,e2,e3,e4⟩
 ·exact .inl hn
 ·exact .inr ⟨g,cap,cur,e1,e2,(h.keep g (Array.getElem?_eq_some_iff.1 e3).1 (hv g (by rw [e1];rfl))).trans e3,e4⟩
end Fr
abbrev noF (_:Nat):Prop:=False
abbrev rowF (v:Value) (k:Nat):Prop:=v.ownBlock=some k
theorem Fr.app {v v':Value} {w w':World} (hg:w.grownBy w' v.ownBlock) (hw:v'.ownBlock=v.ownBlock\/v'.ownBlock=some w.heap.size):Fr (rowF v) (rowF v') w w' :=
 ⟨hg.os,hg.tape,hg.output,hg.size,fun k hk hn=>hg.block k hk (fun e=>hn e.symm),fun k hk=>by
  rcases hw with e | e
  ·exact .inl (e.symm.trans hk)
  ·exact .inr (by rw [rowF,e] at hk;cases hk;exact Nat.le_refl _)⟩
theorem own_in {w:World} {base size n:Nat} {e:TypeId} {v:Value} {xs:List Value} (h:w.ownsRow base e size v n xs) {g:Nat} (hg:rowF v g):g<w.heap.size:=(h.lt g hg).2
theorem cell_al {w:World} {a:Addr} {v:Value} (h:w.cell? a=some v) (o:Obj):(w.alloc o).cell? a=some v:=(World.cell?_alloc_lt _ _ _ (World.block_lt_of_cell? w a h)).trans h
theorem cell_set {w:World} {a b:Addr} {v:Value} (h:w.cell? a=some v) (u:Value) (hn:b.block≠a.block):(w.setCell b u).cell? a=some v:=by rw [cellSet,if_neg (fun e=>hn (by rw [e]))];exact h
theorem cell_put {w:World} {a:Addr} {v:Value} (h:w.cell? a=some v) (u:Value):(w.setCell a u).cell? a=some u:=by rw [cellSet,if_pos rfl,h];rfl
theorem app_new {P:Program} {t e te:TypeId} {z:Value} {size bytes:Nat} (E:Elem P t e z size bytes) {w:World} {ops:Array Oper} {rest:List Oper} {o:Oper} {a:Act} {Q:Exit->Act->World->Prop}
  (news:List Value) (m:Nat) {s x:Operand} {v:Value} {n:Nat} {xs:List Value} (hown:w.ownsRow 0 e size v n xs)
  (h31:n+m<=2147483648) (h:∀ v' w',w'.ownsRow 0 e size v' (n+m) (xs++news)->Fr (rowF v) (rowF v') w w'->wpList P ops Q rest (a.put o.dst v') w')
  (hgd:o.guard=none:=by rfl) (ho:o.op = .call { callee := .builtin .append,args:=#[s,x],argTypes:=#[t,t] }:=by rfl) (hs:a.eval s=v:=by rfl) (hx:a.eval x = .slice (some ⟨w.heap.size,0,none⟩) m m:=by rfl)
  (hl:news.length=m*size:=by rfl) (h1:∀ u∈news,u.oneCell'=true:=by simp [Value.oneCell']):wpList P ops Q (o::rest) a (w.alloc (.cells news.toArray te)):=by
 have hb:Below w.heap.size w (w.alloc (.cells news.toArray te)):=(Below.refl _ _).alloc (Nat.le_refl _) _;refine app_at E hgd s x ho 0 v n xs hs ((Fr.of hb (F:=fun _=>False)).own hown (fun _ _ q=>q)) _ m m news hx hl (fun j u hu=>by rw [addr_add0,cell_made];simpa using hu) h1 h31 (Nat.zero_le _) (fun v' w' ho hg hw=>h v' w' ho ?_);have hlt:=hown.lt;refine ⟨hg.os.trans hb.os,hg.tape.trans hb.tape,hg.output.trans hb.output,Nat.le_trans hb.size hg.size,fun k hk hn=>(hg.block k (Nat.lt_of_lt_of_le hk hb.size) (fun e=>hn e.symm)).trans (hb.block k hk),fun k hk=>?_⟩;rcases hw with e | e
 ·exact .inl (e.symm.trans hk)
 ·exact .inr (by rw [rowF,e] at hk;cases hk;exact hb.size)
theorem app_newo {P:Program} {t e te:TypeId} {z:Value} {size bytes:Nat} (E:Elem P t e z size bytes) {w:World} {o:Oper} {a:Act} {K:Act->World->Prop} {Q:Exit->Act->World->Prop}
  (news:List Value) (m:Nat) {s x:Operand} {v:Value} {n:Nat} {xs:List Value} (hown:w.ownsRow 0 e size v n xs)
  (h31:n+m<=2147483648) (h:∀ v' w',w'.ownsRow 0 e size v' (n+m) (xs++news)->Fr (rowF v) (rowF v') w w'->K (a.put o.dst v') w')
  (ho:o.op = .call { callee := .builtin .append,args:=#[s,x],argTypes:=#[t,t] }:=by rfl) (hs:a.eval s=v:=by rfl) (hx:a.eval x = .slice (some ⟨w.heap.size,0,none⟩) m m:=by rfl)
  (hl:news.length=m*size:=by rfl) (h1:∀ u∈news,u.oneCell'=true:=by simp [Value.oneCell']):o.wp P a (w.alloc (.cells news.toArray te)) K Q:=by
 have hb:Below w.heap.size w (w.alloc (.cells news.toArray te)):=(Below.refl _ _).alloc (Nat.le_refl _) _;refine app_op E s x ho 0 v n xs hs ((Fr.of hb (F:=fun _=>False)).own hown (fun _ _ q=>q)) _ m m news hx hl (fun j u hu=>by rw [addr_add0,cell_made];simpa using hu) h1 h31 (Nat.zero_le _) (fun v' w' ho hg hw=>h v' w' ho ?_);refine ⟨hg.os.trans hb.os,hg.tape.trans hb.tape,hg.output.trans hb.output,Nat.le_trans hb.size hg.size,fun k hk hn=>(hg.block k (Nat.lt_of_lt_of_le hk hb.size) (fun e=>hn e.symm)).trans (hb.block k hk),fun k hk=>?_⟩;rcases hw with e | e
 ·exact .inl (e.symm.trans hk)
 ·exact .inr (by rw [rowF,e] at hk;cases hk;exact hb.size)
theorem elem_byt:Elem Tryz.prog 48 5 (.int .u8 0) 1 1 :=
 ⟨Tryz.underlying48,info_parts (by kernel_rfl),rfl,by decide,by decide⟩
def bytC (l:Wd):List Value:=l.map fun c => .int .u8 c.toNat
theorem bytC_app (a b:Wd):bytC (a++b)=bytC a++bytC b:=by simp [bytC]
abbrev BRow (w:World) (v:Value) (l:Wd):Prop:=w.ownsRow 0 5 1 v l.length (bytC l)
def bt (x:Nat):UInt8:=UInt8.ofNat x
def twoL (x:Nat):Wd:=[bt (x / 256),bt x]
def fourL (x:Nat):Wd:=[bt (x / 16777216),bt (x / 65536),bt (x / 256),bt x]
theorem bt_int (x:Nat):((bt x).toNat:Int)=(x:Int) % 256:=by simp [bt]
def MoreQ (v:Value) (l:Wd) (w:World) (e:Ending) (w':World):Prop:=∃ v',e = .returned v'/\BRow w' v' l/\Fr (rowF v) (rowF v') w w'
theorem two_any (v:Value) (l:Wd) (x:Nat) (w:World) (h:BRow w v l) (hx:x<=4000000000) (hl:l.length<=100000000) :
  Calls Tryz.prog 54 #[v,.int .i64 x] w (MoreQ v (l++twoL x) w):=by
 have HX:=Lib.hid (show [Value.int .u8 ((x:Int) / 256 % 256),.int .u8 ((x:Int) % 256)]=bytC (twoL x) by simp [bytC,twoL,bt_int]);obtain ⟨n,hn⟩:∃ n,l.length=n:=⟨_,rfl⟩;dsimp only [BRow] at h;rw [hn] at h hl;obtain ⟨a,cap,rfl⟩:=own_slice h;have HN:=Lib.hid hn;have HH:=Lib.hid h;clear h hn;go_enter Tryz.func54,Tryz.ntmps54
 go_wp2_with (at_builtin;refine app_new elem_byt [_,_] 2 HH.out (by omega) ?_)
 intro v' w' ho hf;obtain ⟨na,nc,rfl⟩:=own_slice ho;have HO:=Lib.hid ho;have HF:=Lib.hid hf;clear ho hf;go_wp2
 go_ret
 refine ⟨_,rfl,?_,HF.out⟩;have:=HO.out;rw [HX.out] at this;simpa [BRow,bytC_app,HN.out,twoL] using this
theorem four_any (v:Value) (l:Wd) (x:Nat) (w:World) (h:BRow w v l) (hx:x<4294967296) (hl:l.length<=100000000) :
  Calls Tryz.prog 56 #[v,.int .u32 x] w (MoreQ v (l++fourL x) w):=by
 have HX:=Lib.hid (show [Value.int .u8 ((x:Int) / 16777216),.int .u8 ((x:Int) / 65536 % 256),.int .u8 ((x:Int) / 256 % 256),.int .u8 ((x:Int) % 256)]=bytC (fourL x) by simp [bytC,fourL,bt_int];omega);obtain ⟨n,hn⟩:∃ n,l.length=n:=⟨_,rfl⟩;dsimp only [BRow] at h;rw [hn] at h hl;obtain ⟨a,cap,rfl⟩:=own_slice h;have HN:=Lib.hid hn;have HH:=Lib.hid h;clear h hn;go_enter Tryz.func56,Tryz.ntmps56
 go_wp2_with (at_builtin;refine app_new elem_byt [_,_,_,_] 4 HH.out (by omega) ?_)
 intro v' w' ho hf;obtain ⟨na,nc,rfl⟩:=own_slice ho;have HO:=Lib.hid ho;have HF:=Lib.hid hf;clear ho hf;go_wp2
 go_ret
 refine ⟨_,rfl,?_,HF.out⟩;have:=HO.out;rw [HX.out] at this;simpa [BRow,bytC_app,HN.out,fourL] using this
end Go.Proofs.YthpldolmpinnhaaGreatDoor
