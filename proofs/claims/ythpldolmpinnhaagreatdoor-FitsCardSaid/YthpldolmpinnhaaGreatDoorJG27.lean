import Derived.Test.YthpldolmpinnhaaGreatDoorJG26
import Derived.Test.YthpldolmpinnhaaGreatDoorShelfV
import Derived.Laws.IdiomCopy
set_option maxHeartbeats 64000000
open Go.Lib renaming hid→z7,cell_of_heap→z8,frozen_of_heap→zV,runeCount→zD,validD→zE,Utf8Tabs→zH
open Go.Value renaming int→zy
open Go.RowKit.Below renaming heap_alloc→zx,refl→zk,heap_setCell→zX,setCell→zF
open Go.World renaming cell?_alloc_lt→zv,cell?_setCells_out→zY,block_lt_of_cell?→zN,setCells→zW
open Array renaming replicate→zu
open Nat renaming le_refl→zj,lt_of_lt_of_le→zZ,le_trans→zO
open List renaming drop_zero→zg,length_map→zU,length→zI,eq_nil_of_length_eq_zero→zL,length_pos_iff→zR,getElem_map→zS
open Bool renaming and_eq_true→zf,not_eq_true→zQ,or_eq_true→zM
open Go.Result renaming andThen→zJ
open Go.Conv renaming runesFrom→zG
open Go.Instr renaming index→zP
open Go.Proofs.Tryz
namespace Go.Proofs.YthpldolmpinnhaaGreatDoor
open Go Go.RowKit
set_option maxRecDepth 10000
def ya3:List UInt8:=[48,49,50,51,52,53,54,55,56,57]
def VR(dg:List UInt8):List UInt8:=if dg=[] then ya3 else dg
def LB(ra rb:Bool)(mi po gr:Int)(fi ne:Nat)(dg:List UInt8)(Qc Qo:World->Value->Prop)(w:World)(e:Ending)(w':World):Prop :=
 Below w.heap.size w w' /\
 if vS ra rb mi po gr fi ne dg then ∃ (g:Nat) (cv ov:Value),e = .returned (.pointer (some ⟨g,0,none⟩))/\w.heap.size<=g/\g<w'.heap.size /\
   Eb w' g mi po gr fi ((if ne=0 then fi else ne:Nat):Int) (xm (VR dg))/\w'.cell? ⟨g,0,none⟩=some cv/\w'.cell? ⟨g,1,none⟩=some ov /\
   (∀ W,Below w'.heap.size w' W->Qc W cv)/\(∀ W,Below w'.heap.size w' W->Qo W ov)
 else e = .returned (.pointer none)
def ZL(b:Nat)(A B:World):Prop:=A.heap.size<=B.heap.size/\∀ j,j≠b->j≠b+1->j<A.heap.size->B.heap[j]? = A.heap[j]?
theorem ZL.refl(b:Nat)(A:World):ZL b A A:=⟨zj _,fun _ _ _ _=>rfl⟩
theorem ZL.trans{b:Nat}{A B C:World}(h:ZL b A B)(k:ZL b B C):ZL b A C :=
 ⟨zO h.1 k.1,fun j h1 h2 h3=>(k.2 j h1 h2 (zZ h3 h.1)).trans (h.2 j h1 h2 h3)⟩
theorem ZL.below{b:Nat}{A B:World}(h:Below A.heap.size A B):ZL b A B:=⟨h.size,fun j _ _ h3=>h.block j h3⟩
theorem ZL.set{b:Nat}{A B:World}(h:ZL b A B)(p:Addr)(v:Value)(hp:p.block=b\/p.block=b+1):ZL b A (B.setCell p v) :=
 h.trans ⟨by simp,fun j h1 h2 _=>zX _ _ _ _ (by omega)⟩
theorem ZL.agree{b hi:Nat}{A B C:World}(h:ZL b A B)(hh:b+2<=hi)(hb:b+2<=A.heap.size)(k:Below B.heap.size B C):RR b hi A C :=
 ⟨zO h.1 k.size,fun j hj=>by
  have xB:j<A.heap.size:=by omega
  rw[k.block j (zZ xB h.1)];exact h.2 j (by omega) (by omega) xB⟩
theorem TO(h:Array Obj)(a b:Obj):((h.push a).push b)[h.size+1]? = some b:=by
 have e:h.size+1=(h.push a).size:=by simp
 rw[e];exact Array.getElem?_push_size
theorem UQ(r:Int):Lib.validRune r=fX r:=by
 unfold Lib.validRune fX;rw[decide_eq_decide];omega
theorem eO{ra rb:Bool}{mi po gr:Int}{fi ne:Nat}{dg:List UInt8}(h:¬(ra=true/\rb=true/\max (fi:Int) (ne:Int)<=9/\¬mi=0/\¬po=0)):vS ra rb mi po gr fi ne dg=false:=by
 rw[<-zQ];intro hk;simp only[vS,zf,Bool.not_eq_true',beq_eq_false_iff_ne,decide_eq_true_eq] at hk;exact h ⟨hk.1,hk.2.1,by omega,hk.2.2.2.2.2.1,hk.2.2.2.2.2.2.1⟩
theorem Ka{ra rb:Bool}{mi po gr:Int}{fi ne:Nat}{dg:List UInt8}(h:fX mi=false\/fX po=false\/fX gr=false):vS ra rb mi po gr fi ne dg=false:=by
 rw[<-zQ];intro hk;simp only[vS,zf] at hk;rcases h with h|h|h
 .rw[hk.2.2.1] at h;cases h
 .rw[hk.2.2.2.1] at h;cases h
 .rw[hk.2.2.2.2.1] at h;cases h
theorem Z9{w W:World}(h:zH 3 4 w)(hb:Below w.heap.size w W):zH 3 4 W:=by
 have lt:∀ (a:Addr) (v:Value),w.cell? a=some v->a.block<w.heap.size:=fun a v h=>zN w a h
 refine⟨fun c hc=>?_,fun i hi=>⟨?_,?_⟩⟩
 .rw[hb.cell (lt _ _ (h.1 c hc))];exact h.1 c hc
 .rw[hb.cell (lt _ _ (h.2 i hi).1)];exact(h.2 i hi).1
 .rw[hb.cell (lt _ _ (h.2 i hi).2)];exact(h.2 i hi).2
theorem Bm{ra rb:Bool}{mi po gr:Int}{fi ne:Nat}{dg:List UInt8}(h:zE dg=false):vS ra rb mi po gr fi ne dg=false:=by
 rw[<-zQ];intro hk;simp only[vS,zf,decide_eq_true_eq] at hk;have h1:(uI dg).2=dg.length:=by have:=hk.2.2.2.2.2.2.2.1;omega
 rw[(bF dg).2 h1] at h
 cases h
theorem dB{w:World}{o:Obj}{a:Addr}(h:a.block<w.heap.size):(w.alloc o).cell? a=w.cell? a:=zv w o a h
theorem Bn:(uI (⟨#[48,49,50,51,52,53,54,55,56,57]⟩:ByteArray).data.toList).1.length=10:=by
 have h:=(gF ⟨#[48,49,50,51,52,53,54,55,56,57]⟩ 10 0 (by decide) (by decide) (by rw[zg,(bF _).1 (by decide)];decide)).1;rw[zg] at h;rw[<-h];decide
theorem Bo{ra rb:Bool}{mi po gr:Int}{fi ne:Nat}{dg:List UInt8}(hd:¬dg=[])(h:¬(uI dg).1.length=10):vS ra rb mi po gr fi ne dg=false:=by
 rw[<-zQ];intro hk;simp only[vS,zf,zM,decide_eq_true_eq] at hk;rcases hk.2.2.2.2.2.2.2.2.1 with h1|h1
 .exact h1 (zR.2 hd)
 .refine h ?_;simp at h1;omega
theorem UK(B:Nat)(w:World)(s:ByteArray)(pos:Nat):B<=w.heap.size->Below B w (w.iter s pos):=fun hB=>(zk _ _).alloc hB _
theorem heap_set{w:World}{b j:Nat}{cs:Array Value}{T:TypeId}{fr:Nat×Nat}(h:w.heap[b]? = some (.cells cs T fr))(v:Value):(w.setCell ⟨b,j,none⟩ v).heap[b]? = some (.cells (cs.setIfInBounds j v) T fr):=by
 simp[World.setCell,Array.getElem?_modify,h]
structure RW(b:Nat)(c o cv ov:Value)(mi po gr fi ne nx:Int)(dg:ByteArray)(W:World):Prop where
 hA:W.heap[b]? = some (.cells #[c,o,.int .i32 mi,.int .i32 po,.int .i32 gr,.int .u8 fi,.int .u8 ne,.string dg] 25 (0,0))
 hB:W.heap[b+1]? = some (.cells #[cv,ov,.int .i32 mi,.int .i32 po,.int .i32 gr,.int .i64 fi,.int .i64 nx,.int .i32 0,.int .i32 0,.int .i32 0,.int .i32 0,.int .i32 0,.int .i32 0,.int .i32 0,.int .i32 0,.int .i32 0,.int .i32 0] 143 (0,0))
theorem RW.below{b B:Nat}{c o cv ov:Value}{mi po gr fi ne nx:Int}{dg:ByteArray}{W W':World}(h:RW b c o cv ov mi po gr fi ne nx dg W)(hb:Below B W W')(xB:b+1<B):RW b c o cv ov mi po gr fi ne nx dg W' :=
 ⟨by rw[hb.block b (by omega)];exact h.hA,by rw[hb.block (b+1) xB];exact h.hB⟩
theorem RW.a{b:Nat}{c o cv ov:Value}{mi po gr fi ne nx:Int}{dg:ByteArray}{W:World}(h:RW b c o cv ov mi po gr fi ne nx dg W) :
  W.cell? ⟨b,0,none⟩=some c/\W.cell? ⟨b,1,none⟩=some o/\W.cell? ⟨b,2,none⟩=some (.int .i32 mi)/\W.cell? ⟨b,3,none⟩=some (.int .i32 po)/\W.cell? ⟨b,4,none⟩=some (.int .i32 gr) /\
  W.cell? ⟨b,5,none⟩=some (.int .u8 fi)/\W.cell? ⟨b,6,none⟩=some (.int .u8 ne)/\W.cell? ⟨b,7,none⟩=some (.string dg)/\W.frozen? ⟨b,7,none⟩=false :=
 ⟨z8 h.hA 0,z8 h.hA 1,z8 h.hA 2,z8 h.hA 3,z8 h.hA 4,z8 h.hA 5,z8 h.hA 6,z8 h.hA 7,zV h.hA 7⟩
theorem RW.b{b:Nat}{c o cv ov:Value}{mi po gr fi ne nx:Int}{dg:ByteArray}{W:World}(h:RW b c o cv ov mi po gr fi ne nx dg W) :
  W.cell? ⟨b+1,0,none⟩=some cv/\W.cell? ⟨b+1,1,none⟩=some ov/\W.cell? ⟨b+1,5,none⟩=some (.int .i64 fi)/\W.cell? ⟨b+1,6,none⟩=some (.int .i64 nx) /\
  W.frozen? ⟨b+1,0,none⟩=false/\W.frozen? ⟨b+1,1,none⟩=false/\W.frozen? ⟨b+1,6,none⟩=false :=
 ⟨z8 h.hB 0,z8 h.hB 1,z8 h.hB 5,z8 h.hB 6,zV h.hB 0,zV h.hB 1,zV h.hB 6⟩
theorem RW.Xu{b:Nat}{c o cv ov:Value}{mi po gr fi ne nx:Int}{dg:ByteArray}{W:World}(h:RW b c o cv ov mi po gr fi ne nx dg W)(v:Value):RW b c o v ov mi po gr fi ne nx dg (W.setCell ⟨b+1,0,none⟩ v) :=
 ⟨by rw[zX _ _ _ _ (by simp)];exact h.hA,by rw[heap_set h.hB];rfl⟩
theorem RW.Ce{b:Nat}{c o cv ov:Value}{mi po gr fi ne nx:Int}{dg:ByteArray}{W:World}(h:RW b c o cv ov mi po gr fi ne nx dg W)(v:Value):RW b c o cv v mi po gr fi ne nx dg (W.setCell ⟨b+1,1,none⟩ v) :=
 ⟨by rw[zX _ _ _ _ (by simp)];exact h.hA,by rw[heap_set h.hB];rfl⟩
theorem RW.zo3{b:Nat}{c o cv ov:Value}{mi po gr fi ne nx:Int}{dg:ByteArray}{W:World}(h:RW b c o cv ov mi po gr fi ne nx dg W)(v:Int):RW b c o cv ov mi po gr fi ne v dg (W.setCell ⟨b+1,6,none⟩ (.int .i64 v)) :=
 ⟨by rw[zX _ _ _ _ (by simp)];exact h.hA,by rw[heap_set h.hB];rfl⟩
theorem RW.zo4{b:Nat}{c o cv ov:Value}{mi po gr fi ne nx:Int}{dg:ByteArray}{W:World}(h:RW b c o cv ov mi po gr fi ne nx dg W)(d:ByteArray):RW b c o cv ov mi po gr fi ne nx d (W.setCell ⟨b,7,none⟩ (.string d)) :=
 ⟨by rw[heap_set h.hA];rfl,by rw[zX _ _ _ _ (by simp)];exact h.hB⟩
theorem TP(V:World)(cs:List Value)(r:Array Value)(T:TypeId)(j:Nat)(v:Value)(h:cs[j]? = some v) :
  (V.alloc (.cells (cs.toArray++r) T)).drew.drew.cell? ((⟨V.heap.size,0,none⟩:Addr).add j)=some v:=by
 have h1:(V.alloc (.cells (cs.toArray++r) T)).drew.drew.heap[V.heap.size]? = some (.cells (cs.toArray++r) T):=by
  show(V.heap.push _)[V.heap.size]? = _;simp
 have xB:j<cs.length:=by
  rcases Nat.lt_or_ge j cs.length with hh|hh
  .exact hh
  .rw[List.getElem?_eq_none hh] at h;cases h
 rw[uR,z8 h1 j,Array.getElem?_append_left (by simpa using xB)];simpa using h
theorem Bp{V:World}{g:Nat}{cs:Array Value}{T:TypeId}(h:V.heap[g]? = some (.cells cs T (0,0)))(hs:cs.size=17)(n:Nat)(hn:n=10) :
  (∀ j,j<n->(V.cell? ⟨g,7+j,none⟩).isSome=true)/\∀ j,j<n->V.frozen? ⟨g,7+j,none⟩=false:=by
 subst hn;refine⟨fun j hj=>?_,fun j hj=>zV h _⟩;rw[z8 h (7+j)];have:7+j<cs.size:=by omega
 simp[this]
theorem ZL.setCells{b:Nat}{A:World}:∀ (vs:List Value) (B:World) (o:Nat),ZL b A B->ZL b A (B.setCells (b+1) o vs)
 | [],_,_,h=>h
 | v::vs,B,o,h=>by
  unfold zW;exact ZL.setCells vs _ _ (h.set _ _ (.inr rfl))
theorem Xn{b:Nat}{A:World}:∀ (vs:List Value) (B:World) (o:Nat),Below b A B->Below b A (B.setCells (b+1) o vs)
 | [],_,_,h=>h
 | v::vs,B,o,h=>by
  unfold zW;exact Xn vs _ _ (h.setCell (Nat.le_succ b) _)
theorem Gj{mi po gr:Int}{fi ne:Nat}{dg D:List UInt8}(hD:D=VR dg)(h3:max (fi:Int) (ne:Int)<=9)(h4:¬mi=0)(h5:¬po=0)(p1:fX mi=true)(p2:fX po=true)(p3:fX gr=true)
  (hp:(uI D).2=D.length) (hc:(uI D).1.length=10):vS true true mi po gr fi ne dg=true:=by
 unfold VR at hD;by_cases h:dg=[]
 .subst h;have e:(uI []).2=0:=by rw[kO]
  simp[vS,p1,p2,p3,h4,h5,e];omega
 .rw[if_neg h] at hD;subst hD;simp[vS,p1,p2,p3,h4,h5,hp,hc];omega
theorem QB{w W1 W3 W7:World}{D:ByteArray}{pos:Nat}{ob:Obj}{c oo cv ov:Value}{mi po gr:Int}{fi ne nx UM SN:Nat}{rs:List Int}{dg:List UInt8}{Qc Qo:World->Value->Prop}
  (h:RW w.heap.size c oo cv ov mi po gr fi ne (nx:Int) D W7) (hb:Below w.heap.size w W7) (hz:w.heap.size+2<=W7.heap.size) (hl:rs.length=10) (EY:nx=if ne=0 then fi else ne)
  (ZA:rs=xm D.data.toList) (hD:D.data.toList=VR dg) (hk:vS true true mi po gr fi ne dg=true)
  (s1:ZL w.heap.size W1 W7) (s3:ZL w.heap.size W3 W7) (h1:w.heap.size+2<=UM) (h3:w.heap.size+2<=SN) (z1:w.heap.size+2<=W1.heap.size) (z3:w.heap.size+2<=W3.heap.size)
  (q1:∀ W,RR w.heap.size UM W1 W->Qc W cv) (q3:∀ W,RR w.heap.size SN W3 W->Qo W ov) :
  LB true true mi po gr fi ne dg Qc Qo w (.returned (.pointer (some ⟨w.heap.size+1,0,none⟩))) (((W7.iter D pos).alloc ob).drew.drew.setCells (w.heap.size+1) 7 (rs.map (zy .i32))):=by
 have hV:((W7.iter D pos).alloc ob).drew.drew.heap[w.heap.size+1]? = W7.heap[w.heap.size+1]? := by
  show((W7.alloc _).alloc _).heap[w.heap.size+1]? = _;rw[zx _ _ _ (by simp;omega),zx _ _ _ (by omega)]
 have Hd:=hV.trans h.hB;have sV:∀ {A:World},ZL w.heap.size A W7->ZL w.heap.size A (((W7.iter D pos).alloc ob).drew.drew.setCells (w.heap.size+1) 7 (rs.map (zy .i32))):=by
  intro A hA;refine ZL.setCells _ _ _ (hA.trans ⟨?_,fun j _ _ hj=>?_⟩)
  .show W7.heap.size<=((W7.alloc _).alloc _).heap.size;simp;omega
  .show((W7.alloc _).alloc _).heap[j]? = _;rw[zx _ _ _ (by simp;omega),zx _ _ _ hj]
 have hbV:Below w.heap.size w (((W7.iter D pos).alloc ob).drew.drew.setCells (w.heap.size+1) 7 (rs.map (zy .i32))):=by
  refine Xn _ _ _ ?_;have h1:Below w.heap.size w ((W7.iter D pos).alloc ob):=(hb.trans (UK _ _ _ _ (by omega))).alloc (by show _<=(W7.alloc _).heap.size;simp;omega) _;exact⟨h1.os,h1.tape,h1.output,h1.size,h1.block⟩
 have hz9:=(sV (ZL.refl _ W7)).1;generalize hVV:((W7.iter D pos).alloc ob).drew.drew=V at *;have out:∀ j,j<7->(V.setCells (w.heap.size+1) 7 (rs.map (zy .i32))).cell? ⟨w.heap.size+1,j,none⟩=V.cell? ⟨w.heap.size+1,j,none⟩:=fun j hj=>zY _ _ _ _ _ (fun _ _ => .inl hj)
 refine⟨hbV,?_⟩;rw[if_pos hk];refine⟨w.heap.size+1,cv,ov,rfl,Nat.le_succ _,by omega,⟨?_,?_,?_,?_,?_,?_,?_⟩,?_,?_,fun W hW=>q1 W ((sV s1).agree h1 z1 hW),fun W hW=>q3 W ((sV s3).agree h3 z3 hW)⟩
 .rw[out 2 (by decide)];exact z8 Hd 2
 .rw[out 3 (by decide)];exact z8 Hd 3
 .rw[out 4 (by decide)];exact z8 Hd 4
 .rw[out 5 (by decide)];exact z8 Hd 5
 .rw[out 6 (by decide),<-EY];exact z8 Hd 6
 .rw[<-hD,<-ZA];exact hl
 .rw[<-hD,<-ZA];intro j hj;have dI:=World.cell?_setCells_in (w.heap.size+1) (rs.map (zy .i32)) 7 V (by rw[zU];exact(Bp Hd rfl _ hl).1) j (by simpa using hj);rw[dI,zS]
 .rw[out 0 (by decide)];exact z8 Hd 0
 .rw[out 1 (by decide)];exact z8 Hd 1
theorem QC(V:World)(rs:List Int)(r:Array Value)(cap b:Nat){cs:Array Value}{T:TypeId}(hl:rs.length=10)
  (Hd:(V.alloc (.cells ((rs.map (zy .i32)).toArray++r) 21)).drew.drew.heap[b]? = some (.cells cs T (0,0))) (hs:cs.size=17) :
  (Builtin.copy_ #[147,147] 3 #[.slice (some ⟨b,7,none⟩) 10 10,.slice (some ⟨V.heap.size,0,none⟩) 10 cap]).run Tryz.prog (V.alloc (.cells ((rs.map (zy .i32)).toArray++r) 21)).drew.drew =
   .ok (goInt (rs.map (zy .i32)).length) ((V.alloc (.cells ((rs.map (zy .i32)).toArray++r) 21)).drew.drew.setCells b 7 (rs.map (zy .i32))):=by
 have hd:=Bp Hd hs (rs.map (zy .i32)).length (by simp[hl]);have ya4:=TP V (rs.map (zy .i32)) r 21;generalize (V.alloc (.cells ((rs.map (zy .i32)).toArray++r) 21)).drew.drew=W at *;exact run_copy_cells W 147 147 3 21 b 7 10 10 ⟨V.heap.size,0,none⟩ 10 cap (rs.map (zy .i32)) underlying147 (by kernel_rfl) (by simp[hl]) ya4 hd.1 hd.2 (by intro v hv;simp at hv;obtain⟨x,_,rfl⟩:=hv;rfl)
theorem LC(c o:Value)(ra rb:Bool)(mi po gr:Int)(fi ne:Nat)(dg:ByteArray)(Qc Qo:World->Value->Prop)(w:World)(hd:dg.size<=1000000)(TM:fi<=255)(vy:ne<=255)
  (hc:jf w c ra Qc) (ho:jf w o rb Qo) (RA:(∃ a n k,c = .slice a n k)/\∃ a n k,o = .slice a n k) (hT:zH 3 4 w) :
  Calls Tryz.prog 43 #[LD c o mi po gr fi ne dg] w (LB ra rb mi po gr fi ne dg.data.toList Qc Qo w):=by
 obtain⟨⟨ca,cn,ck,rfl⟩,oa,on,ok,rfl⟩:=RA;have zo5:∀ W:World,(zP 144 (.agg #[.int .i32 mi,.int .i32 po,.int .i32 gr]) (.int .i64 0)).run Tryz.prog W = .ok (.int .i32 mi) W:=fun W=>by kernel_rfl
 have zo6:∀ W:World,(zP 144 (.agg #[.int .i32 mi,.int .i32 po,.int .i32 gr]) (.int .i64 1)).run Tryz.prog W = .ok (.int .i32 po) W:=fun W=>by kernel_rfl
 have zo7:∀ W:World,(zP 144 (.agg #[.int .i32 mi,.int .i32 po,.int .i32 gr]) (.int .i64 2)).run Tryz.prog W = .ok (.int .i32 gr) W:=fun W=>by kernel_rfl
 have HC:=z7 hc;have HO:=z7 ho;clear hc ho;go_enter func43,ntmps43;go_wp2_with fail;refine vB ?_;intro W hW;have hR:RW w.heap.size (.slice ca cn ck) (.slice oa on ok) (.slice none 0 0) (.slice none 0 0) mi po gr fi ne ne dg W:=by
  rw[hW];refine⟨?_,?_⟩
  .rw[zx _ _ _ (by simp)];show(w.heap.push _)[w.heap.size]? = _;simp
  .show((w.heap.push _).push _)[w.heap.size+1]? = _;exact TO _ _ _
 have jB:Below w.heap.size w W:=by rw[hW];exact((zk _ _).alloc (zj _) _).alloc (by simp) _
 have hzW:w.heap.size+2<=W.heap.size:=by rw[hW];simp
 clear hW;have HZW:=z7 hzW;refine(HC.out W jB).mono ?_;rintro e W1 ⟨⟨a1,n1,k1,rfl,hQ1⟩,xG⟩;have LH:=hR.below xG (by omega);have uv:Below w.heap.size w W1:=jB.trans (xG.mono (by omega));have Qv:w.heap.size+2<=W1.heap.size:=by have:=xG.size;omega
 clear hR jB hzW xG;obtain⟨g0,g1,g2,g3,g4,g5,g6⟩:=LH.b;obtain⟨a0,OA,a2,a3,a4,a5,a6,a7,a8⟩:=LH.a;have HQ1:=z7 hQ1;clear hQ1;go_wp2_with fail;refine vB ?_;intro W2 Nd;have N0:RW w.heap.size (.slice ca cn ck) (.slice oa on ok) (.slice a1 n1 k1) (.slice none 0 0) mi po gr fi ne ne dg W2:=by rw[Nd];exact LH.Xu _
 have uG:Below w.heap.size w W2:=by rw[Nd];exact uv.setCell (p:=⟨w.heap.size+1,0,none⟩) (by simp) _
 have TN:Below w.heap.size W1 W2:=by rw[Nd];exact(zk _ _).setCell (p:=⟨w.heap.size+1,0,none⟩) (by simp) _
 have Qw:w.heap.size+2<=W2.heap.size:=by rw[Nd];simpa using Qv
 have s12:ZL w.heap.size W1 W2:=by rw[Nd];exact(ZL.refl _ _).set _ _ (.inr rfl)
 clear Nd;refine(HO.out W2 uG).mono ?_;rintro e W3 ⟨⟨a9,n9,k9,rfl,hQ3⟩,ub⟩;have hR3:=N0.below ub (by omega);have ZQ:Below w.heap.size w W3:=uG.trans (ub.mono (by omega));have Ms:w.heap.size+2<=W3.heap.size:=by have:=ub.size;omega
 have s13:=s12.trans (ZL.below (b:=w.heap.size) ub);clear a0 OA a2 a3 a4 a5 a6 a7 a8 g0 g1 g2 g3 g4 g5 g6;obtain⟨g0,g1,g2,g3,g4,g5,g6⟩:=hR3.b;obtain⟨a0,OA,a2,a3,a4,a5,a6,a7,a8⟩:=hR3.a;have TK:=z7 hQ3;clear hQ3;by_cases di:ra=true/\rb=true/\max (fi:Int) (ne:Int)<=9/\¬mi=0/\¬po=0
 .obtain⟨r1,r2,r3,r4,r5⟩:=di;have hmi:(mi==0)=false:=by simpa using r4
  have hpo:(po==0)=false:=by simpa using r5
  go_wp2_with fail;refine GU ?_;intro W4 DH;have I5:RW w.heap.size (.slice ca cn ck) (.slice oa on ok) (.slice a1 n1 k1) (.slice a9 n9 k9) mi po gr fi ne ne dg W4:=by rw[DH];exact hR3.Ce _
  have dO:Below w.heap.size w W4:=by rw[DH];exact ZQ.setCell (p:=⟨w.heap.size+1,1,none⟩) (by simp) _
  have zkg:Below (w.heap.size+1) W3 W4:=by rw[DH];exact(zk _ _).setCell (p:=⟨w.heap.size+1,1,none⟩) (by simp) _
  have hz4:w.heap.size+2<=W4.heap.size:=by rw[DH];simpa using Ms
  have s34:ZL w.heap.size W3 W4:=by rw[DH];exact(ZL.refl _ _).set _ _ (.inr rfl)
  have HW4:=z7 DH;clear DH;clear a0 OA a2 a3 a4 a5 a6 a7 a8 g0 g1 g2 g3 g4 g5 g6;go_loopw [71] (fun i wr=>∃ k:Nat,k<=3/\i = .int .i64 k/\wr=W4/\(0<k->fX mi=true)/\(1<k->fX po=true)/\(2<k->fX gr=true)) (fun i _=>3 - (intOf i).toNat)
  case atStart=>exact⟨0,by omega,rfl,rfl,fun h=>by omega,fun h=>by omega,fun h=>by omega⟩
  case round =>
   obtain⟨k,hk,rfl,Hq,p1,p2,p3⟩:=hrel;subst Hq;have dV:k=0\/k=1\/k=2\/k=3:=by omega
   rcases dV with E0|eP|Nx|eR
   .subst E0;go_wp2_with fail;refine(Tryz.utf8_ValidRune mi _).mono ?_;rintro e w' ⟨rfl,rfl⟩;rw[UQ]
    cases hp:fX mi
    .have HF:=z7 (Ka (ra:=ra) (rb:=rb) (fi:=fi) (ne:=ne) (dg:=dg.data.toList) (mi:=mi) (po:=po) (gr:=gr) (.inl hp));clear hp;go_wp2;go_ret;refine⟨dO,?_⟩;rw[HF.out];exact rfl
    .have HP:=z7 hp;clear hp;go_wp2;go_roundw
     case rel=>exact⟨1,by omega,by go_num,by first|rfl|trivial,fun _=>HP.out,fun h=>by omega,fun h=>by omega⟩
     case measure=>simp[intOf]
   .subst eP;go_wp2_with fail;refine(Tryz.utf8_ValidRune po _).mono ?_;rintro e w' ⟨rfl,rfl⟩;rw[UQ]
    cases hp:fX po
    .have HF:=z7 (Ka (ra:=ra) (rb:=rb) (fi:=fi) (ne:=ne) (dg:=dg.data.toList) (mi:=mi) (po:=po) (gr:=gr) (.inr (.inl hp)));clear hp;go_wp2;go_ret;refine⟨dO,?_⟩;rw[HF.out];exact rfl
    .have HP:=z7 hp;clear hp;go_wp2;go_roundw
     case rel=>exact⟨2,by omega,by go_num,by first|rfl|trivial,fun _=>p1 (by omega),fun _=>HP.out,fun h=>by omega⟩
     case measure=>simp[intOf]
   .subst Nx;go_wp2_with fail;refine(Tryz.utf8_ValidRune gr _).mono ?_;rintro e w' ⟨rfl,rfl⟩;rw[UQ]
    cases hp:fX gr
    .have HF:=z7 (Ka (ra:=ra) (rb:=rb) (fi:=fi) (ne:=ne) (dg:=dg.data.toList) (mi:=mi) (po:=po) (gr:=gr) (.inr (.inr hp)));clear hp;go_wp2;go_ret;refine⟨dO,?_⟩;rw[HF.out];exact rfl
    .have HP:=z7 hp;clear hp;go_wp2;go_roundw
     case rel=>exact⟨3,by omega,by go_num,by first|rfl|trivial,fun _=>p1 (by omega),fun _=>p2 (by omega),fun _=>HP.out⟩
     case measure=>simp[intOf]
   .subst eR;by_cases n0:ne=0
    .have n0':((ne:Int)==0)=true:=by simp[n0]
     by_cases d0:dg.data.toList=[]
     .have d0':dg.toList.isEmpty=true:=by rw[toList_eq,d0];rfl
      obtain⟨g0,g1,g2,g3,g4,g5,g6⟩:=I5.b;obtain⟨a0,OA,a2,a3,a4,a5,a6,a7,a8⟩:=I5.a;go_wp2_with fail;refine vB ?_;intro W6 GL;have hR6:RW w.heap.size (.slice ca cn ck) (.slice oa on ok) (.slice a1 n1 k1) (.slice a9 n9 k9) mi po gr fi ne ((fi:Nat):Int) ⟨#[48,49,50,51,52,53,54,55,56,57]⟩ W6:=by rw[GL];exact((I5.zo3 _).zo4 _)
      have FH:Below w.heap.size wr W6:=by rw[GL];(repeat(first|(with_reducible exact zk _ _)|(with_reducible refine zF ?_ ?_ _;rotate_left;focus(first|(simp;done)|(simp;omega)))))
      have s46:ZL w.heap.size wr W6:=by rw[GL];exact(((ZL.refl _ _).set _ _ (.inr rfl)).set _ _ (.inl rfl))
      have hz6:w.heap.size+2<=W6.heap.size:=by have:=FH.size;omega
      clear a0 OA a2 a3 a4 a5 a6 a7 a8 g0 g1 g2 g3 g4 g5 g6 GL;have Yo:=dO.trans FH;have hT6:=Z9 hT Yo;refine(Tryz.utf8_ValidString ⟨#[48,49,50,51,52,53,54,55,56,57]⟩ W6 (by first|omega|decide) hT6).mono ?_;rintro e W7 ⟨rfl,jP⟩
      cases hv:zE (⟨#[48,49,50,51,52,53,54,55,56,57]⟩:ByteArray).data.toList
      .exact absurd hv (by decide)
      .have Cr:=z7 hv;clear hv;have Oa:=hR6.below jP (by omega);have Kc:Below w.heap.size w W7:=Yo.trans (jP.mono (by omega));have eS:ZL w.heap.size W3 W7:=(s34.trans s46).trans (ZL.below jP);have hz7:w.heap.size+2<=W7.heap.size:=by have:=jP.size;omega
       obtain⟨a0,OA,a2,a3,a4,a5,a6,a7,a8⟩:=Oa.a;go_wp2_with fail;refine(Tryz.utf8_RuneCountInString ⟨#[48,49,50,51,52,53,54,55,56,57]⟩ W7 (by first|omega|decide)).mono ?_;rintro e W8 ⟨rfl,pos,rfl⟩;have Uv:(uI (⟨#[48,49,50,51,52,53,54,55,56,57]⟩:ByteArray).data.toList).2=(⟨#[48,49,50,51,52,53,54,55,56,57]⟩:ByteArray).data.toList.length:=(bF _).1 Cr.out;have U5:=gF ⟨#[48,49,50,51,52,53,54,55,56,57]⟩ (⟨#[48,49,50,51,52,53,54,55,56,57]⟩:ByteArray).size 0 (by omega) (by omega) (by rw[zg,Uv,xc];simp);rw[zg] at U5;rw[show zD ⟨#[48,49,50,51,52,53,54,55,56,57]⟩=(uI (⟨#[48,49,50,51,52,53,54,55,56,57]⟩:ByteArray).data.toList).1.length from U5.1];have BP:=z7 U5;have BB:=z7 Uv;clear U5 Uv;obtain⟨cnt,ZV⟩:∃ n,(uI (⟨#[48,49,50,51,52,53,54,55,56,57]⟩:ByteArray).data.toList).1.length=n:=⟨_,rfl⟩;rw[ZV];have UJ:=z7 ZV;clear ZV;by_cases du:cnt=10
       .subst du;have UT:zG ⟨#[48,49,50,51,52,53,54,55,56,57]⟩ (⟨#[48,49,50,51,52,53,54,55,56,57]⟩:ByteArray).size 0 #[]=((xm (⟨#[48,49,50,51,52,53,54,55,56,57]⟩:ByteArray).data.toList).map (zy .i32)).toArray:=by have:=BP.out.2 #[];simpa using this
        have JS:(xm (⟨#[48,49,50,51,52,53,54,55,56,57]⟩:ByteArray).data.toList).length=10:=by
         have:=congrArg zI (Y6 _ (⟨#[48,49,50,51,52,53,54,55,56,57]⟩:ByteArray).data.toList (zj _));rw[zU,UJ.out] at this;exact this
        obtain⟨rs,ZA⟩:∃ r:List Int,r=xm (⟨#[48,49,50,51,52,53,54,55,56,57]⟩:ByteArray).data.toList:=⟨_,rfl⟩;rw[<-ZA] at UT JS;have hcv:∀ W:World,(convert 9 147 (.string ⟨#[48,49,50,51,52,53,54,55,56,57]⟩)).run Tryz.prog W = .ok (.slice (some ⟨W.heap.size,0,none⟩) 10 (grownCap W 10 0 21)) (W.drew.alloc (.cells ((rs.map (zy .i32)).toArray++zu (grownCap W 10 0 21 - 10) (.int .i32 0)) 21)):=by
         intro W;have:=run_runes_of_string (P:=Tryz.prog) W 9 147 21 ⟨#[48,49,50,51,52,53,54,55,56,57]⟩ underlying9 underlying147 underlying21 (by rw[UT];simp;omega);rw[UT] at this;simpa[JS] using this
        have HRF:=z7 UT;have cG:=z7 ZA;clear UT ZA;go_wp2_with fail;have jO:(W7.iter ⟨#[48,49,50,51,52,53,54,55,56,57]⟩ pos).drew.cell? ⟨w.heap.size,7,none⟩=some (.string ⟨#[48,49,50,51,52,53,54,55,56,57]⟩):=by
         show(W7.alloc _).cell? _=_;rw[zv _ _ _ (by simp;omega)];exact a7
        refine rt (fun W':World=>W'.cell? ⟨w.heap.size,7,none⟩=some (.string ⟨#[48,49,50,51,52,53,54,55,56,57]⟩)) [0,1,2,3,4,5] 2 jO ?_;(iterate 6 ((first|refine ty ?_|refine tn ?_);try simp only[pl]))
        refine xq ?_;refine jx 6 (fun K hK=>?_);go_simp;refine hK.out _ _ ?_ (fun _=>?_)
        .show((W7.iter ⟨#[48,49,50,51,52,53,54,55,56,57]⟩ pos).alloc _).cell? _=_;rw[dB (by show _<(W7.alloc _).heap.size;simp;omega)];exact jO
        clear hK K;refine jx 7 (fun K hK=>?_);go_simp;have Oc:(((W7.iter ⟨#[48,49,50,51,52,53,54,55,56,57]⟩ pos).alloc (.cells ((rs.map (zy .i32)).toArray++zu (grownCap (W7.iter ⟨#[48,49,50,51,52,53,54,55,56,57]⟩ pos).drew 10 0 21 - 10) (.int .i32 0)) 21)).drew.drew).heap[w.heap.size+1]? = W7.heap[w.heap.size+1]? := by
         show((W7.alloc _).alloc _).heap[w.heap.size+1]? = _;rw[zx _ _ _ (by simp;omega),zx _ _ _ (by omega)]
        have Hd:=Oc.trans Oa.hB;have FI:=QC (W7.iter ⟨#[48,49,50,51,52,53,54,55,56,57]⟩ pos) rs (zu (grownCap (W7.iter ⟨#[48,49,50,51,52,53,54,55,56,57]⟩ pos).drew 10 0 21 - 10) (.int .i32 0)) (grownCap (W7.iter ⟨#[48,49,50,51,52,53,54,55,56,57]⟩ pos).drew 10 0 21) (w.heap.size+1) JS Hd (by simp);rw[FI];simp only[zJ];refine hK.out _ _ ?_ (fun _=>?_)
        .rw[zY _ _ _ _ _ (fun h=>absurd h (by simp))];show((W7.iter ⟨#[48,49,50,51,52,53,54,55,56,57]⟩ pos).alloc _).cell? _=_;rw[dB (by show _<(W7.alloc _).heap.size;simp;omega)];exact jO
        clear hK K;refine b7 ?_ _;go_wp2;refine bodyPost_ret (v := .pointer (some ⟨w.heap.size+1,0,none⟩)) ?_ rfl ?_
        .simp[results,results43,go_sem]
        .have HD:(⟨#[48,49,50,51,52,53,54,55,56,57]⟩:ByteArray).data.toList=VR dg.data.toList:=by rw[d0];rfl
         have HK:=Gj (fi:=fi) (ne:=ne) HD r3 r4 r5 (p1 (by omega)) (p2 (by omega)) (p3 (by omega)) BB.out UJ.out;rw[show ra=true from r1,show rb=true from r2];exact QB (nx:=fi) Oa Kc hz7 JS (by rw[if_pos n0]) cG.out HD HK (s13.trans eS) eS HZW.out Qw Qv Ms HQ1.out TK.out
       .exact absurd (UJ.out.symm.trans Bn) du
     .have d0':dg.toList.isEmpty=false:=by rw[toList_eq];simpa using d0
      obtain⟨g0,g1,g2,g3,g4,g5,g6⟩:=I5.b;obtain⟨a0,OA,a2,a3,a4,a5,a6,a7,a8⟩:=I5.a;go_wp2_with fail;refine vB ?_;intro W6 GL;have hR6:RW w.heap.size (.slice ca cn ck) (.slice oa on ok) (.slice a1 n1 k1) (.slice a9 n9 k9) mi po gr fi ne ((fi:Nat):Int) dg W6:=by rw[GL];exact(I5.zo3 _)
      have FH:Below w.heap.size wr W6:=by rw[GL];(repeat(first|(with_reducible exact zk _ _)|(with_reducible refine zF ?_ ?_ _;rotate_left;focus(first|(simp;done)|(simp;omega)))))
      have s46:ZL w.heap.size wr W6:=by rw[GL];exact((ZL.refl _ _).set _ _ (.inr rfl))
      have hz6:w.heap.size+2<=W6.heap.size:=by have:=FH.size;omega
      clear a0 OA a2 a3 a4 a5 a6 a7 a8 g0 g1 g2 g3 g4 g5 g6 GL;have Yo:=dO.trans FH;have hT6:=Z9 hT Yo;refine(Tryz.utf8_ValidString dg W6 (by first|omega|decide) hT6).mono ?_;rintro e W7 ⟨rfl,jP⟩
      cases hv:zE (dg:ByteArray).data.toList
      .have HF:=z7 (Bm (ra:=ra) (rb:=rb) (fi:=fi) (ne:=ne) (mi:=mi) (po:=po) (gr:=gr) hv);clear hv;go_wp2;go_ret;refine⟨Yo.trans (jP.mono (by omega)),?_⟩;rw[HF.out];exact rfl
      .have Cr:=z7 hv;clear hv;have Oa:=hR6.below jP (by omega);have Kc:Below w.heap.size w W7:=Yo.trans (jP.mono (by omega));have eS:ZL w.heap.size W3 W7:=(s34.trans s46).trans (ZL.below jP);have hz7:w.heap.size+2<=W7.heap.size:=by have:=jP.size;omega
       obtain⟨a0,OA,a2,a3,a4,a5,a6,a7,a8⟩:=Oa.a;go_wp2_with fail;refine(Tryz.utf8_RuneCountInString dg W7 (by first|omega|decide)).mono ?_;rintro e W8 ⟨rfl,pos,rfl⟩;have Uv:(uI (dg:ByteArray).data.toList).2=(dg:ByteArray).data.toList.length:=(bF _).1 Cr.out;have U5:=gF dg (dg:ByteArray).size 0 (by omega) (by omega) (by rw[zg,Uv,xc];simp);rw[zg] at U5;rw[show zD dg=(uI (dg:ByteArray).data.toList).1.length from U5.1];have BP:=z7 U5;have BB:=z7 Uv;clear U5 Uv;obtain⟨cnt,ZV⟩:∃ n,(uI (dg:ByteArray).data.toList).1.length=n:=⟨_,rfl⟩;rw[ZV];have UJ:=z7 ZV;clear ZV;by_cases du:cnt=10
       .subst du;have UT:zG dg (dg:ByteArray).size 0 #[]=((xm (dg:ByteArray).data.toList).map (zy .i32)).toArray:=by have:=BP.out.2 #[];simpa using this
        have JS:(xm (dg:ByteArray).data.toList).length=10:=by
         have:=congrArg zI (Y6 _ (dg:ByteArray).data.toList (zj _));rw[zU,UJ.out] at this;exact this
        obtain⟨rs,ZA⟩:∃ r:List Int,r=xm (dg:ByteArray).data.toList:=⟨_,rfl⟩;rw[<-ZA] at UT JS;have hcv:∀ W:World,(convert 9 147 (.string dg)).run Tryz.prog W = .ok (.slice (some ⟨W.heap.size,0,none⟩) 10 (grownCap W 10 0 21)) (W.drew.alloc (.cells ((rs.map (zy .i32)).toArray++zu (grownCap W 10 0 21 - 10) (.int .i32 0)) 21)):=by
         intro W;have:=run_runes_of_string (P:=Tryz.prog) W 9 147 21 dg underlying9 underlying147 underlying21 (by rw[UT];simp;omega);rw[UT] at this;simpa[JS] using this
        have HRF:=z7 UT;have cG:=z7 ZA;clear UT ZA;go_wp2_with fail;have jO:(W7.iter dg pos).drew.cell? ⟨w.heap.size,7,none⟩=some (.string dg):=by
         show(W7.alloc _).cell? _=_;rw[zv _ _ _ (by simp;omega)];exact a7
        refine rt (fun W':World=>W'.cell? ⟨w.heap.size,7,none⟩=some (.string dg)) [0,1,2,3,4,5] 2 jO ?_;(iterate 6 ((first|refine ty ?_|refine tn ?_);try simp only[pl]))
        refine xq ?_;refine jx 6 (fun K hK=>?_);go_simp;refine hK.out _ _ ?_ (fun _=>?_)
        .show((W7.iter dg pos).alloc _).cell? _=_;rw[dB (by show _<(W7.alloc _).heap.size;simp;omega)];exact jO
        clear hK K;refine jx 7 (fun K hK=>?_);go_simp;have Oc:(((W7.iter dg pos).alloc (.cells ((rs.map (zy .i32)).toArray++zu (grownCap (W7.iter dg pos).drew 10 0 21 - 10) (.int .i32 0)) 21)).drew.drew).heap[w.heap.size+1]? = W7.heap[w.heap.size+1]? := by
         show((W7.alloc _).alloc _).heap[w.heap.size+1]? = _;rw[zx _ _ _ (by simp;omega),zx _ _ _ (by omega)]
        have Hd:=Oc.trans Oa.hB;have FI:=QC (W7.iter dg pos) rs (zu (grownCap (W7.iter dg pos).drew 10 0 21 - 10) (.int .i32 0)) (grownCap (W7.iter dg pos).drew 10 0 21) (w.heap.size+1) JS Hd (by simp);rw[FI];simp only[zJ];refine hK.out _ _ ?_ (fun _=>?_)
        .rw[zY _ _ _ _ _ (fun h=>absurd h (by simp))];show((W7.iter dg pos).alloc _).cell? _=_;rw[dB (by show _<(W7.alloc _).heap.size;simp;omega)];exact jO
        clear hK K;refine b7 ?_ _;go_wp2;refine bodyPost_ret (v := .pointer (some ⟨w.heap.size+1,0,none⟩)) ?_ rfl ?_
        .simp[results,results43,go_sem]
        .have HD:(dg:ByteArray).data.toList=VR dg.data.toList:=by unfold VR;rw[if_neg d0]
         have HK:=Gj (fi:=fi) (ne:=ne) HD r3 r4 r5 (p1 (by omega)) (p2 (by omega)) (p3 (by omega)) BB.out UJ.out;rw[show ra=true from r1,show rb=true from r2];exact QB (nx:=fi) Oa Kc hz7 JS (by rw[if_pos n0]) cG.out HD HK (s13.trans eS) eS HZW.out Qw Qv Ms HQ1.out TK.out
       .have ya7:((cnt:Int) !=10)=true:=by simp;omega
        have HF:=z7 (Bo (ra:=ra) (rb:=rb) (fi:=fi) (ne:=ne) (mi:=mi) (po:=po) (gr:=gr) d0 (fun h=>du (UJ.out.symm.trans h)));go_wp2;go_ret;refine⟨Kc.trans (UK _ _ _ _ (by omega)),?_⟩;rw[HF.out];exact rfl
    .have n0':((ne:Int)==0)=false:=by simpa using n0
     by_cases d0:dg.data.toList=[]
     .have d0':dg.toList.isEmpty=true:=by rw[toList_eq,d0];rfl
      obtain⟨g0,g1,g2,g3,g4,g5,g6⟩:=I5.b;obtain⟨a0,OA,a2,a3,a4,a5,a6,a7,a8⟩:=I5.a;go_wp2_with fail;refine vB ?_;intro W6 GL;have hR6:RW w.heap.size (.slice ca cn ck) (.slice oa on ok) (.slice a1 n1 k1) (.slice a9 n9 k9) mi po gr fi ne ((ne:Nat):Int) ⟨#[48,49,50,51,52,53,54,55,56,57]⟩ W6:=by rw[GL];exact(I5.zo4 _)
      have FH:Below w.heap.size wr W6:=by rw[GL];(repeat(first|(with_reducible exact zk _ _)|(with_reducible refine zF ?_ ?_ _;rotate_left;focus(first|(simp;done)|(simp;omega)))))
      have s46:ZL w.heap.size wr W6:=by rw[GL];exact((ZL.refl _ _).set _ _ (.inl rfl))
      have hz6:w.heap.size+2<=W6.heap.size:=by have:=FH.size;omega
      clear a0 OA a2 a3 a4 a5 a6 a7 a8 g0 g1 g2 g3 g4 g5 g6 GL;have Yo:=dO.trans FH;have hT6:=Z9 hT Yo;refine(Tryz.utf8_ValidString ⟨#[48,49,50,51,52,53,54,55,56,57]⟩ W6 (by first|omega|decide) hT6).mono ?_;rintro e W7 ⟨rfl,jP⟩
      cases hv:zE (⟨#[48,49,50,51,52,53,54,55,56,57]⟩:ByteArray).data.toList
      .exact absurd hv (by decide)
      .have Cr:=z7 hv;clear hv;have Oa:=hR6.below jP (by omega);have Kc:Below w.heap.size w W7:=Yo.trans (jP.mono (by omega));have eS:ZL w.heap.size W3 W7:=(s34.trans s46).trans (ZL.below jP);have hz7:w.heap.size+2<=W7.heap.size:=by have:=jP.size;omega
       obtain⟨a0,OA,a2,a3,a4,a5,a6,a7,a8⟩:=Oa.a;go_wp2_with fail;refine(Tryz.utf8_RuneCountInString ⟨#[48,49,50,51,52,53,54,55,56,57]⟩ W7 (by first|omega|decide)).mono ?_;rintro e W8 ⟨rfl,pos,rfl⟩;have Uv:(uI (⟨#[48,49,50,51,52,53,54,55,56,57]⟩:ByteArray).data.toList).2=(⟨#[48,49,50,51,52,53,54,55,56,57]⟩:ByteArray).data.toList.length:=(bF _).1 Cr.out;have U5:=gF ⟨#[48,49,50,51,52,53,54,55,56,57]⟩ (⟨#[48,49,50,51,52,53,54,55,56,57]⟩:ByteArray).size 0 (by omega) (by omega) (by rw[zg,Uv,xc];simp);rw[zg] at U5;rw[show zD ⟨#[48,49,50,51,52,53,54,55,56,57]⟩=(uI (⟨#[48,49,50,51,52,53,54,55,56,57]⟩:ByteArray).data.toList).1.length from U5.1];have BP:=z7 U5;have BB:=z7 Uv;clear U5 Uv;obtain⟨cnt,ZV⟩:∃ n,(uI (⟨#[48,49,50,51,52,53,54,55,56,57]⟩:ByteArray).data.toList).1.length=n:=⟨_,rfl⟩;rw[ZV];have UJ:=z7 ZV;clear ZV;by_cases du:cnt=10
       .subst du;have UT:zG ⟨#[48,49,50,51,52,53,54,55,56,57]⟩ (⟨#[48,49,50,51,52,53,54,55,56,57]⟩:ByteArray).size 0 #[]=((xm (⟨#[48,49,50,51,52,53,54,55,56,57]⟩:ByteArray).data.toList).map (zy .i32)).toArray:=by have:=BP.out.2 #[];simpa using this
        have JS:(xm (⟨#[48,49,50,51,52,53,54,55,56,57]⟩:ByteArray).data.toList).length=10:=by
         have:=congrArg zI (Y6 _ (⟨#[48,49,50,51,52,53,54,55,56,57]⟩:ByteArray).data.toList (zj _));rw[zU,UJ.out] at this;exact this
        obtain⟨rs,ZA⟩:∃ r:List Int,r=xm (⟨#[48,49,50,51,52,53,54,55,56,57]⟩:ByteArray).data.toList:=⟨_,rfl⟩;rw[<-ZA] at UT JS;have hcv:∀ W:World,(convert 9 147 (.string ⟨#[48,49,50,51,52,53,54,55,56,57]⟩)).run Tryz.prog W = .ok (.slice (some ⟨W.heap.size,0,none⟩) 10 (grownCap W 10 0 21)) (W.drew.alloc (.cells ((rs.map (zy .i32)).toArray++zu (grownCap W 10 0 21 - 10) (.int .i32 0)) 21)):=by
         intro W;have:=run_runes_of_string (P:=Tryz.prog) W 9 147 21 ⟨#[48,49,50,51,52,53,54,55,56,57]⟩ underlying9 underlying147 underlying21 (by rw[UT];simp;omega);rw[UT] at this;simpa[JS] using this
        have HRF:=z7 UT;have cG:=z7 ZA;clear UT ZA;go_wp2_with fail;have jO:(W7.iter ⟨#[48,49,50,51,52,53,54,55,56,57]⟩ pos).drew.cell? ⟨w.heap.size,7,none⟩=some (.string ⟨#[48,49,50,51,52,53,54,55,56,57]⟩):=by
         show(W7.alloc _).cell? _=_;rw[zv _ _ _ (by simp;omega)];exact a7
        refine rt (fun W':World=>W'.cell? ⟨w.heap.size,7,none⟩=some (.string ⟨#[48,49,50,51,52,53,54,55,56,57]⟩)) [0,1,2,3,4,5] 2 jO ?_;(iterate 6 ((first|refine ty ?_|refine tn ?_);try simp only[pl]))
        refine xq ?_;refine jx 6 (fun K hK=>?_);go_simp;refine hK.out _ _ ?_ (fun _=>?_)
        .show((W7.iter ⟨#[48,49,50,51,52,53,54,55,56,57]⟩ pos).alloc _).cell? _=_;rw[dB (by show _<(W7.alloc _).heap.size;simp;omega)];exact jO
        clear hK K;refine jx 7 (fun K hK=>?_);go_simp;have Oc:(((W7.iter ⟨#[48,49,50,51,52,53,54,55,56,57]⟩ pos).alloc (.cells ((rs.map (zy .i32)).toArray++zu (grownCap (W7.iter ⟨#[48,49,50,51,52,53,54,55,56,57]⟩ pos).drew 10 0 21 - 10) (.int .i32 0)) 21)).drew.drew).heap[w.heap.size+1]? = W7.heap[w.heap.size+1]? := by
         show((W7.alloc _).alloc _).heap[w.heap.size+1]? = _;rw[zx _ _ _ (by simp;omega),zx _ _ _ (by omega)]
        have Hd:=Oc.trans Oa.hB;have FI:=QC (W7.iter ⟨#[48,49,50,51,52,53,54,55,56,57]⟩ pos) rs (zu (grownCap (W7.iter ⟨#[48,49,50,51,52,53,54,55,56,57]⟩ pos).drew 10 0 21 - 10) (.int .i32 0)) (grownCap (W7.iter ⟨#[48,49,50,51,52,53,54,55,56,57]⟩ pos).drew 10 0 21) (w.heap.size+1) JS Hd (by simp);rw[FI];simp only[zJ];refine hK.out _ _ ?_ (fun _=>?_)
        .rw[zY _ _ _ _ _ (fun h=>absurd h (by simp))];show((W7.iter ⟨#[48,49,50,51,52,53,54,55,56,57]⟩ pos).alloc _).cell? _=_;rw[dB (by show _<(W7.alloc _).heap.size;simp;omega)];exact jO
        clear hK K;refine b7 ?_ _;go_wp2;refine bodyPost_ret (v := .pointer (some ⟨w.heap.size+1,0,none⟩)) ?_ rfl ?_
        .simp[results,results43,go_sem]
        .have HD:(⟨#[48,49,50,51,52,53,54,55,56,57]⟩:ByteArray).data.toList=VR dg.data.toList:=by rw[d0];rfl
         have HK:=Gj (fi:=fi) (ne:=ne) HD r3 r4 r5 (p1 (by omega)) (p2 (by omega)) (p3 (by omega)) BB.out UJ.out;rw[show ra=true from r1,show rb=true from r2];exact QB (nx:=ne) Oa Kc hz7 JS (by rw[if_neg n0]) cG.out HD HK (s13.trans eS) eS HZW.out Qw Qv Ms HQ1.out TK.out
       .exact absurd (UJ.out.symm.trans Bn) du
     .have d0':dg.toList.isEmpty=false:=by rw[toList_eq];simpa using d0
      obtain⟨g0,g1,g2,g3,g4,g5,g6⟩:=I5.b;obtain⟨a0,OA,a2,a3,a4,a5,a6,a7,a8⟩:=I5.a;go_wp2_with fail;refine vB ?_;intro W6 GL;have hR6:RW w.heap.size (.slice ca cn ck) (.slice oa on ok) (.slice a1 n1 k1) (.slice a9 n9 k9) mi po gr fi ne ((ne:Nat):Int) dg W6:=by rw[GL];exact I5
      have FH:Below w.heap.size wr W6:=by rw[GL];(repeat(first|(with_reducible exact zk _ _)|(with_reducible refine zF ?_ ?_ _;rotate_left;focus(first|(simp;done)|(simp;omega)))))
      have s46:ZL w.heap.size wr W6:=by rw[GL];exact(ZL.refl _ _)
      have hz6:w.heap.size+2<=W6.heap.size:=by have:=FH.size;omega
      clear a0 OA a2 a3 a4 a5 a6 a7 a8 g0 g1 g2 g3 g4 g5 g6 GL;have Yo:=dO.trans FH;have hT6:=Z9 hT Yo;refine(Tryz.utf8_ValidString dg W6 (by first|omega|decide) hT6).mono ?_;rintro e W7 ⟨rfl,jP⟩
      cases hv:zE (dg:ByteArray).data.toList
      .have HF:=z7 (Bm (ra:=ra) (rb:=rb) (fi:=fi) (ne:=ne) (mi:=mi) (po:=po) (gr:=gr) hv);clear hv;go_wp2;go_ret;refine⟨Yo.trans (jP.mono (by omega)),?_⟩;rw[HF.out];exact rfl
      .have Cr:=z7 hv;clear hv;have Oa:=hR6.below jP (by omega);have Kc:Below w.heap.size w W7:=Yo.trans (jP.mono (by omega));have eS:ZL w.heap.size W3 W7:=(s34.trans s46).trans (ZL.below jP);have hz7:w.heap.size+2<=W7.heap.size:=by have:=jP.size;omega
       obtain⟨a0,OA,a2,a3,a4,a5,a6,a7,a8⟩:=Oa.a;go_wp2_with fail;refine(Tryz.utf8_RuneCountInString dg W7 (by first|omega|decide)).mono ?_;rintro e W8 ⟨rfl,pos,rfl⟩;have Uv:(uI (dg:ByteArray).data.toList).2=(dg:ByteArray).data.toList.length:=(bF _).1 Cr.out;have U5:=gF dg (dg:ByteArray).size 0 (by omega) (by omega) (by rw[zg,Uv,xc];simp);rw[zg] at U5;rw[show zD dg=(uI (dg:ByteArray).data.toList).1.length from U5.1];have BP:=z7 U5;have BB:=z7 Uv;clear U5 Uv;obtain⟨cnt,ZV⟩:∃ n,(uI (dg:ByteArray).data.toList).1.length=n:=⟨_,rfl⟩;rw[ZV];have UJ:=z7 ZV;clear ZV;by_cases du:cnt=10
       .subst du;have UT:zG dg (dg:ByteArray).size 0 #[]=((xm (dg:ByteArray).data.toList).map (zy .i32)).toArray:=by have:=BP.out.2 #[];simpa using this
        have JS:(xm (dg:ByteArray).data.toList).length=10:=by
         have:=congrArg zI (Y6 _ (dg:ByteArray).data.toList (zj _));rw[zU,UJ.out] at this;exact this
        obtain⟨rs,ZA⟩:∃ r:List Int,r=xm (dg:ByteArray).data.toList:=⟨_,rfl⟩;rw[<-ZA] at UT JS;have hcv:∀ W:World,(convert 9 147 (.string dg)).run Tryz.prog W = .ok (.slice (some ⟨W.heap.size,0,none⟩) 10 (grownCap W 10 0 21)) (W.drew.alloc (.cells ((rs.map (zy .i32)).toArray++zu (grownCap W 10 0 21 - 10) (.int .i32 0)) 21)):=by
         intro W;have:=run_runes_of_string (P:=Tryz.prog) W 9 147 21 dg underlying9 underlying147 underlying21 (by rw[UT];simp;omega);rw[UT] at this;simpa[JS] using this
        have HRF:=z7 UT;have cG:=z7 ZA;clear UT ZA;go_wp2_with fail;have jO:(W7.iter dg pos).drew.cell? ⟨w.heap.size,7,none⟩=some (.string dg):=by
         show(W7.alloc _).cell? _=_;rw[zv _ _ _ (by simp;omega)];exact a7
        refine rt (fun W':World=>W'.cell? ⟨w.heap.size,7,none⟩=some (.string dg)) [0,1,2,3,4,5] 2 jO ?_;(iterate 6 ((first|refine ty ?_|refine tn ?_);try simp only[pl]))
        refine xq ?_;refine jx 6 (fun K hK=>?_);go_simp;refine hK.out _ _ ?_ (fun _=>?_)
        .show((W7.iter dg pos).alloc _).cell? _=_;rw[dB (by show _<(W7.alloc _).heap.size;simp;omega)];exact jO
        clear hK K;refine jx 7 (fun K hK=>?_);go_simp;have Oc:(((W7.iter dg pos).alloc (.cells ((rs.map (zy .i32)).toArray++zu (grownCap (W7.iter dg pos).drew 10 0 21 - 10) (.int .i32 0)) 21)).drew.drew).heap[w.heap.size+1]? = W7.heap[w.heap.size+1]? := by
         show((W7.alloc _).alloc _).heap[w.heap.size+1]? = _;rw[zx _ _ _ (by simp;omega),zx _ _ _ (by omega)]
        have Hd:=Oc.trans Oa.hB;have FI:=QC (W7.iter dg pos) rs (zu (grownCap (W7.iter dg pos).drew 10 0 21 - 10) (.int .i32 0)) (grownCap (W7.iter dg pos).drew 10 0 21) (w.heap.size+1) JS Hd (by simp);rw[FI];simp only[zJ];refine hK.out _ _ ?_ (fun _=>?_)
        .rw[zY _ _ _ _ _ (fun h=>absurd h (by simp))];show((W7.iter dg pos).alloc _).cell? _=_;rw[dB (by show _<(W7.alloc _).heap.size;simp;omega)];exact jO
        clear hK K;refine b7 ?_ _;go_wp2;refine bodyPost_ret (v := .pointer (some ⟨w.heap.size+1,0,none⟩)) ?_ rfl ?_
        .simp[results,results43,go_sem]
        .have HD:(dg:ByteArray).data.toList=VR dg.data.toList:=by unfold VR;rw[if_neg d0]
         have HK:=Gj (fi:=fi) (ne:=ne) HD r3 r4 r5 (p1 (by omega)) (p2 (by omega)) (p3 (by omega)) BB.out UJ.out;rw[show ra=true from r1,show rb=true from r2];exact QB (nx:=ne) Oa Kc hz7 JS (by rw[if_neg n0]) cG.out HD HK (s13.trans eS) eS HZW.out Qw Qv Ms HQ1.out TK.out
       .have ya7:((cnt:Int) !=10)=true:=by simp;omega
        have HF:=z7 (Bo (ra:=ra) (rb:=rb) (fi:=fi) (ne:=ne) (mi:=mi) (po:=po) (gr:=gr) d0 (fun h=>du (UJ.out.symm.trans h)));go_wp2;go_ret;refine⟨Kc.trans (UK _ _ _ _ (by omega)),?_⟩;rw[HF.out];exact rfl
 .have HF:=z7 (eO (gr:=gr) (dg:=dg.data.toList) di);go_wp2;all_goals first
   |(exfalso;refine di ⟨by assumption,by assumption,by assumption,by assumption,?_⟩;rename_i hh;simp_all;done)
   |(refine bodyPost_ret (v := .pointer none) ?_ rfl ?_
     focus(simp[results,results43,go_sem, *])
     refine⟨ZQ.trans ((zk _ _).setCell (p:=⟨w.heap.size+1,1,none⟩) (by simp) _),?_⟩;first
      | rw[HF.out]
      |(have hf:=HF.out;rw[‹ra=true›,‹rb=true›] at hf;rw[hf])
     exact rfl)
theorem rY(l:List UInt8):(ZX l).1<=1114111:=by
 have hb:=(l.getD 0 0).toNat_lt;unfold ZX Lib.decodeN;repeat' split
 all_goals (simp only[];omega)
theorem UG:∀ (n:Nat) (l:List UInt8),l.length<=n->∀ x∈xm l,Av x
 | 0,l,h,x,hx=>by
  have:l=[]:=zL (by omega);subst this;rw[gq] at hx;cases hx
 | n+1,l,h,x,hx=>by
  by_cases hl:l=[]\/xw l=0
  .rw[xm,dif_pos hl] at hx;cases hx
  .simp only[not_or] at hl;rw[dG hl.1 hl.2] at hx;have hp:=zR.2 hl.1;rcases List.mem_cons.1 hx with rfl|hx
   .have:=rY l;exact⟨by omega,by omega⟩
   .exact UG n _ (by simp;omega) x hx
theorem TR(c:UInt8)(h:xF c=true):48<=c.toNat/\c.toNat<=57:=by
 have:=(vW c).1 h;omega
theorem jf.later{w w1:World}{c:Value}{r:Bool}{Q:World->Value->Prop}(h:jf w c r Q)(hb:Below w.heap.size w w1):jf w1 c r Q:=by
 intro W hW;refine(h W (hb.trans (hW.mono hb.size))).mono ?_;rintro e W2 ⟨⟨a,n,k,he,hQ⟩,xJ⟩;exact⟨⟨a,n,k,he,fun W3 h3=>hQ W3 ⟨h3.1,fun j hj=>h3.2 j (hj.imp (fun q=>zZ q hb.size) id)⟩⟩,xJ⟩
def wrX(l:List UInt8)(mi po gr:Int)(fi ne:Nat)(dg:List UInt8):List UInt8:=Zn (YA l) (xl (vN l++u9 l)) (u9 l).length mi po gr fi (if ne=0 then fi else ne) (xm (VR dg))
def U0(kn:Bool)(l:List UInt8)(mi po gr:Int)(fi ne:Nat)(dg:List UInt8):List UInt8 :=
 if kn && uB l then wrX l mi po gr fi ne dg else []
def U1(kn:Bool)(l:List UInt8):Int:=if kn then if uB l then 0 else 10 else 8
theorem Ra{w:World}{base size n:Nat}{e:TypeId}{v:Value}{xs:List Value}(h:w.ownsRow base e size v n xs)(hn:0<n) :
  ∃ g cap,v = .slice (some ⟨g,0,none⟩) n cap/\base<=g/\g<w.heap.size/\n<=cap/\∀ j,j<n*size->w.cell? ⟨g,j,none⟩=xs[j]? := by
 have xB:=h.lt;rcases h.2 with⟨_,h0⟩|⟨g,cap,cur,hv,hg,hh,h1,_,_,ht⟩
 .omega
 .subst hv;exact⟨g,cap,rfl,hg,(xB g rfl).2,h1,fun j hj=>h.cellAt j hj⟩
theorem eT(l:List UInt8)(h:l.all xF=true):∀ x∈xl l,0<=x/\x<=9:=by
 intro x hx;obtain⟨c,hc,rfl⟩:=List.mem_map.1 hx;have:=TR c (List.all_eq_true.1 h c hc);omega
theorem Ke{l:List UInt8}(h:uB l=true):(vN l).all xF=true/\(u9 l).all xF=true/\0<(vN l).length/\(vN l).length+(u9 l).length<=30:=by
 simp only[uB,QZ,zf,zM,decide_eq_true_eq] at h;have hw:=h.1.1.1.1;have hf:=h.1.1.1.2;simp only[vA,zf] at hw;refine⟨hw.1,?_,?_,h.1.1.2⟩
 .rcases hf with hf|hf
  .have hp:¬(VM l).idxOf 46<(VM l).length:=by simpa[Ya] using hf
   have:u9 l=[]:=by unfold u9;exact List.drop_of_length_le (by omega)
   rw[this];rfl
  .simp only[vA,zf] at hf;exact hf.1
 .have:=hw.2
  cases hl:vN l with
  | nil=>rw[hl] at this;cases this
  | cons a b=>simp
theorem LI{ra rb:Bool}{mi po gr:Int}{fi ne:Nat}{dg:List UInt8}(h:vS ra rb mi po gr fi ne dg=true) :
  fX mi=true/\fX po=true/\fX gr=true/\(dg=[]\/(uI dg).1.length=10)/\fi<=9/\ne<=9:=by
 simp only[vS,zf,zM,decide_eq_true_eq] at h;refine⟨h.2.2.1,h.2.2.2.1,h.2.2.2.2.1,?_,by omega,by omega⟩;rcases h.2.2.2.2.2.2.2.2.1 with h1|h1
 .exact .inl (zL (by omega))
 .refine .inr ?_;simp at h1;omega
theorem Oe{r:Int}(h:fX r=true):Av r:=by
 have h1:(0<=r/\r<=1114111)/\(r<55296\/57343<r):=by unfold fX at h;simp at h;omega
 exact⟨by omega,by omega⟩
theorem Oi(g:Nat)(v:Value)(l:List UInt8)(mi po gr:Int)(fi ne:Nat)(dg:List UInt8)(w:World)(B:Nat)(ra rb:Bool)
  (hk:vS ra rb mi po gr fi ne dg=true) (hn:uB l=true) (hX:Eb w g mi po gr fi ((if ne=0 then fi else ne:Nat):Int) (xm (VR dg))) (hg:g<w.heap.size)
  (ho:w.ownsRow B 5 1 v ((vN l).length+(u9 l).length) (vz (vN l++u9 l))) :
  Calls Tryz.prog 45 #[.pointer (some ⟨g,0,none⟩),.agg #[.bool (YA l),v,.int .i64 ((u9 l).length:Int)]] w fun e w' =>
   e = .returned (xg (wrX l mi po gr fi ne dg))/\Below w.heap.size w w':=by
 obtain⟨p1,p2,p3,hd,f1,f2⟩:=LI hk;obtain⟨d1,d2,hw,h30⟩:=Ke hn;obtain⟨gd,cap,rfl,_,GV,Zm,hc⟩:=Ra ho (by omega);unfold wrX;have qQ:(vN l++u9 l).all xF=true:=by rw[List.all_append,d1,d2];rfl
 refine Bl g gd 0 cap (u9 l).length _ (YA l) (xl (vN l++u9 l)) mi po gr fi (if ne=0 then fi else ne) (xm (VR dg)) w hX hg ?_ GV (by simp[xl]) (by omega) Zm (by omega)
  (eT _ qQ) ⟨Oe p1,Oe p2,Oe p3,fun x hx=>UG _ _ (zj _) x hx⟩ (by omega) (by intro h;split<;>omega) (by split<;>omega)
 intro j hj;refine⟨_,rfl,?_⟩;have Iu:j<(vN l++u9 l).length:=by simpa[xl] using hj
 rw[uR,hc j (by simp at Iu;omega)];have hj3:j<(xl (vN l++u9 l)).length:=hj;simp only[vz,xl,List.getElem?_map,zS];rw[List.getElem?_eq_getElem Iu];rfl
def FL(t:List UInt8)(v:Value)(w:World)(e:Ending)(w':World):Prop:=e = .returned (.tuple #[xg t,v])/\Below w.heap.size w w'
structure Ol(w:World):Prop where
 eW:zH 3 4 w
 err:QG w
theorem Ol.below{w w':World}(h:Ol w)(hb:Below w.heap.size w w'):Ol w':=⟨Z9 h.eW hb,h.err.below hb⟩
theorem LM(s:ByteArray)(c o:Value)(ra rb:Bool)(mi po gr:Int)(fi ne:Nat)(dg:ByteArray)(Qc Qo:World->Value->Prop)(w:World)(hs:s.size<=1000000)(hd:dg.size<=1000000)(TM:fi<=255)(vy:ne<=255)
  (hc:jf w c ra Qc) (ho:jf w o rb Qo) (RA:(∃ a n k,c = .slice a n k)/\∃ a n k,o = .slice a n k) (hT:Ol w) :
  Calls Tryz.prog 29 #[.string s,LD c o mi po gr fi ne dg] w
   (FL (U0 (vS ra rb mi po gr fi ne dg.data.toList) s.data.toList mi po gr fi ne dg.data.toList) (TE (U1 (vS ra rb mi po gr fi ne dg.data.toList) s.data.toList)) w):=by
 have HC:=z7 hc;have HO:=z7 ho;have HCO:=z7 RA;have HT:=z7 hT;clear hc ho RA hT;go_enter func29,ntmps29;go_wp2_with fail;refine vB ?_;intro W hW;have hb:Below w.heap.size w W:=by rw[hW];exact(zk _ _).alloc (zj _) _
 clear hW;refine(LC c o ra rb mi po gr fi ne dg Qc Qo W hd TM vy (HC.out.later hb) (HO.out.later hb) HCO.out (HT.out.below hb).eW).mono ?_;rintro e w1 ⟨xG,vE⟩;have uv:Below w.heap.size w w1:=hb.trans (xG.mono hb.size)
 cases hk:vS ra rb mi po gr fi ne dg.data.toList
 .rw[hk,if_neg (by simp)] at vE;subst vE;have ht:U0 (vS ra rb mi po gr fi ne dg.data.toList) s.data.toList mi po gr fi ne dg.data.toList=[]:=by rw[hk];rfl
  have eA:U1 (vS ra rb mi po gr fi ne dg.data.toList) s.data.toList=8:=by rw[hk];rfl
  have BF:=z7 ht;have HCD:=z7 eA;clear ht eA hk hb xG;go_wp2;go_ret2
  refine⟨?_,uv⟩;rw[BF.out,HCD.out];rfl
 .rw[hk,if_pos rfl] at vE;obtain⟨g,cv,ov,rfl,Au,Zw,hX,-⟩:=vE;have HX:=z7 hX;have HK:=z7 hk;clear hX hk;go_wp2_with fail;refine(Yq s _ hs).mono ?_;rintro e w2 ⟨b,v,k,rfl,⟨va,vn,vk,rfl⟩,xJ,vE⟩;have uG:=uv.trans (xJ.mono uv.size);have hX2:=HX.out.below xJ Zw;have je:g<w2.heap.size:=zZ Zw xJ.size
  cases hn:uB s.data.toList
  .have ht:U0 (vS ra rb mi po gr fi ne dg.data.toList) s.data.toList mi po gr fi ne dg.data.toList=[]:=by unfold U0;rw[HK.out,hn];rfl
   have eA:U1 (vS ra rb mi po gr fi ne dg.data.toList) s.data.toList=10:=by unfold U1;rw[HK.out,hn];rfl
   have BF:=z7 ht;have HCD:=z7 eA;clear ht eA hn vE xJ hb xG hX2;go_wp2;go_ret2
   refine⟨?_,uG.alloc (uG.size) _⟩;rw[BF.out,HCD.out];rfl
  .have ht:U0 (vS ra rb mi po gr fi ne dg.data.toList) s.data.toList mi po gr fi ne dg.data.toList=wrX s.data.toList mi po gr fi ne dg.data.toList:=by unfold U0;rw[HK.out,hn];rfl
   have eA:U1 (vS ra rb mi po gr fi ne dg.data.toList) s.data.toList=0:=by unfold U1;rw[HK.out,hn];rfl
   have BF:=z7 ht;have HCD:=z7 eA;obtain⟨rfl,rfl,xV⟩:=vE hn;have HN:=z7 hn;have ee:=z7 xV;have TS:=z7 hX2;clear ht eA hn vE hb xG hX2 xV;go_wp2_with fail;refine vB ?_;intro W3 kg;have EX:Below w2.heap.size w2 W3:=by rw[kg];exact(zk _ _).alloc (zj _) _
   clear kg;refine(Oi g (.slice va vn vk) s.data.toList mi po gr fi ne dg.data.toList W3 _ ra rb HK.out HN.out (TS.out.below EX je) (zZ je EX.size) (fR ee.out EX)).mono ?_;rintro e w4 ⟨rfl,zkg⟩;have dO:=(uG.trans (EX.mono uG.size)).trans (zkg.mono (zO uG.size EX.size));clear EX zkg uG xJ;go_wp2;go_ret2
   refine⟨?_,dO⟩;rw[BF.out,HCD.out];rfl
theorem LN(s:ByteArray)(c o:Value)(ra rb:Bool)(mi po gr:Int)(fi ne:Nat)(dg:ByteArray)(Qc Qo:World->Value->Prop)(w:World)(hs:s.size<=1000000)(hd:dg.size<=1000000)(TM:fi<=255)(vy:ne<=255)
  (hc:jf w c ra Qc) (ho:jf w o rb Qo) (RA:(∃ a n k,c = .slice a n k)/\∃ a n k,o = .slice a n k) (hT:Ol w) :
  Calls Tryz.prog 16 #[.string s,LD c o mi po gr fi ne dg] w
   (FL (U0 (vS ra rb mi po gr fi ne dg.data.toList) s.data.toList mi po gr fi ne dg.data.toList) (.int .i64 (U1 (vS ra rb mi po gr fi ne dg.data.toList) s.data.toList)) w):=by
 have vu:=fun W h1 h2 h3=>LM s c o ra rb mi po gr fi ne dg Qc Qo W hs hd TM vy h1 h2 RA h3
 generalize U0 (vS ra rb mi po gr fi ne dg.data.toList) s.data.toList mi po gr fi ne dg.data.toList=tx at *;generalize U1 (vS ra rb mi po gr fi ne dg.data.toList) s.data.toList=cd at *;have uw:=z7 vu;clear vu;have HC:=z7 hc;have HO:=z7 ho;have HCO:=z7 RA;have HT:=z7 hT;clear hc ho RA hT;go_enter func16,ntmps16;go_wp2_with fail;refine vB ?_;intro W hW;have hb:Below w.heap.size w W:=by rw[hW];exact(zk _ _).alloc (zj _) _
 clear hW;refine(uw.out W (HC.out.later hb) (HO.out.later hb) (HT.out.below hb)).mono ?_;rintro e w1 ⟨rfl,xG⟩;have uv:Below w.heap.size w w1:=hb.trans (xG.mono hb.size);clear hb xG;go_wp2_with fail;refine(OM cd _ (HT.out.below uv).err).mono ?_;rintro e w2 ⟨rfl,xJ⟩;have uG:=uv.trans (xJ.mono uv.size);clear xJ uv;go_wp2;go_ret2
 exact⟨rfl,uG⟩
theorem ZM{l:List UInt8}{f:Fo}(h:ke l = .ok f):uF l = .ok f/\Z7 f=none:=by
 unfold ke at h
 cases hp:uF l with
 | error e=>rw[hp] at h;cases h
 | ok g =>
  rw[hp] at h;dsimp only at h
  cases hc:Z7 g with
  | some e=>rw[hc] at h;cases h
  | none=>rw[hc] at h;cases h;exact⟨rfl,hc⟩
theorem gy.below{w w':World}(h:gy w)(hb:Below w.heap.size w w'):gy w' :=
 h.fr (F:=xI) (F':=xI) (B:=2+1) (Fr.of hb) (fun _ q=>q.elim) (Nat.lt_succ_self _)
structure Yp(w:World):Prop where
 tabs:Ol w
 names:uS w
 zz5:gy w
theorem Yp.below{w w':World}(h:Yp w)(hb:Below w.heap.size w w'):Yp w':=⟨h.tabs.below hb,h.names.below hb,h.zz5.below hb⟩
structure Br(P q g mb:Nat)(f:Fo)(vC vI:Value)(rs:List (Value×Value))(mi po gr:Int)(fi ne:Nat)(dg:List UInt8)(cv ov:Value)(w:World):Prop where
 p0:w.cell? ⟨P,0,none⟩=some (.pointer (some ⟨q,0,none⟩))
 p1:w.cell? ⟨P,1,none⟩=some (.pointer (some ⟨g,0,none⟩))
 prog:jX q (MkS.all f) vC vI rs mb w
 gl:g<w.heap.size
 loc:Eb w g mi po gr fi ((if ne=0 then fi else ne:Nat):Int) (xm (VR dg))
 g0:w.cell? ⟨g,0,none⟩=some cv
 g1:w.cell? ⟨g,1,none⟩=some ov
theorem Br.below{P q g mb:Nat}{f:Fo}{vC vI:Value}{rs:List (Value×Value)}{mi po gr:Int}{fi ne:Nat}{dg:List UInt8}{cv ov:Value}{w w':World}(h:Br P q g mb f vC vI rs mi po gr fi ne dg cv ov w)(hb:Below w.heap.size w w'):Br P q g mb f vC vI rs mi po gr fi ne dg cv ov w':=by
 have hf:Fr xI xI w w':=Fr.of hb;exact⟨hf.cell h.p0 id,hf.cell h.p1 id,h.prog.below hb,zZ h.gl hb.size,h.loc.below hb h.gl,hf.cell h.g0 id,hf.cell h.g1 id⟩
def zo9(kn:Bool)(r:Except (Nat×Nat) Fo)(mi po gr:Int)(fi ne:Nat)(dg:List UInt8)(Qc Qo:World->Value->Prop)(w:World)(e:Ending)(w':World):Prop :=
 Below w.heap.size w w' /\
 if kn=false then e = .returned (.tuple #[.pointer none,TE 8])
 else match r with
  | .error (n,a)=>∃ b,e = .returned (.tuple #[.pointer none,.iface 101 (.pointer (some ⟨b,0,none⟩))])/\w'.cell? ⟨b,0,none⟩=some (.int .i64 n)/\w'.cell? ⟨b,1,none⟩=some (.int .i64 a)
  | .ok f=>∃ P q g mb vC vI rs cv ov,e = .returned (.tuple #[.pointer (some ⟨P,0,none⟩),.nilIface])/\Br P q g mb f vC vI rs mi po gr fi ne dg cv ov w'/\(∀ W,Below w'.heap.size w' W->Qc W cv)/\∀ W,Below w'.heap.size w' W->Qo W ov
theorem EV(s:ByteArray)(c o:Value)(ra rb:Bool)(mi po gr:Int)(fi ne:Nat)(dg:ByteArray)(Qc Qo:World->Value->Prop)(w:World)(hs:s.size<=1000000)(hd:dg.size<=1000000)(TM:fi<=255)(vy:ne<=255)
  (hc:jf w c ra Qc) (ho:jf w o rb Qo) (RA:(∃ a n k,c = .slice a n k)/\∃ a n k,o = .slice a n k) (hE:Yp w) :
  Calls Tryz.prog 33 #[.string s,LD c o mi po gr fi ne dg] w (zo9 (vS ra rb mi po gr fi ne dg.data.toList) (ke s.data.toList) mi po gr fi ne dg.data.toList Qc Qo w):=by
 have HC:=z7 hc;have HO:=z7 ho;have HCO:=z7 RA;have HE:=z7 hE;clear hc ho RA hE;go_enter func33,ntmps33;go_wp2_with fail;refine vB ?_;intro W hW;have hb:Below w.heap.size w W:=by rw[hW];exact(zk _ _).alloc (zj _) _
 clear hW;refine(LC c o ra rb mi po gr fi ne dg Qc Qo W hd TM vy (HC.out.later hb) (HO.out.later hb) HCO.out (HE.out.below hb).tabs.eW).mono ?_;rintro e w1 ⟨xG,vE⟩;have uv:Below w.heap.size w w1:=hb.trans (xG.mono hb.size);obtain⟨kn,Jt⟩:=xX (vS ra rb mi po gr fi ne dg.data.toList);rw[Jt] at vE;have Sd:=z7 Jt;clear Jt
 cases kn
 .rw[if_neg (by simp)] at vE;subst vE;clear hb xG;go_wp2;go_ret2
  refine⟨uv,?_⟩;rw[if_pos Sd.out];rfl
 .rw[if_pos rfl] at vE;obtain⟨g,cv,ov,rfl,Au,Zw,hX,c0,c1,hqc,hqo⟩:=vE;have HX:=z7 hX;have HQC:=z7 hqc;have HQO:=z7 hqo;have HC0:=z7 c0;have HC1:=z7 c1;clear hX hqc hqo hb xG c0 c1;obtain⟨r,hr⟩:=xX (ke s.data.toList);have HRM:=z7 (Lg s w1 (by omega) (HE.out.below uv).tabs.eW (HE.out.below uv).names);rw[hr] at HRM |-
  have HR:=z7 hr;clear hr;go_wp2_with fail;refine HRM.out.mono ?_;rintro e w2 ⟨hq,xJ⟩;have uG:=uv.trans (xJ.mono uv.size);clear HRM
  cases r with
  | error en =>
   obtain⟨n,a⟩:=en;obtain⟨v,b,rfl,⟨va,vn,vk,rfl⟩,f0,f1⟩:=hq;clear xJ;go_wp2;go_ret2
   refine⟨uG,?_⟩;rw[if_neg (by rw[Sd.out];simp),HR.out];exact⟨b,rfl,f0,f1⟩
  | ok f =>
   obtain⟨⟨a,k,vs,rfl,xi,XQ⟩,GV⟩:=hq;obtain⟨Un,VY⟩:=ZM HR.out;obtain⟨k1,k2⟩:=LV Un VY;have Uu:=HE.out.below uG;have HP:=z7 (cy f w2 a k vs xi XQ (zj _) GV.msg GV.wf k1 (by have:=GV.len;omega) (by omega) Uu.zz5 Uu.names);obtain⟨L,hL⟩:=xX f.len;rw[hL] at HP |-
   clear xi XQ GV Un VY k1 k2 Uu hL;go_wp2_with fail;refine HP.out.mono ?_;rintro e w3 ⟨q,vC,vI,rs,mb,rfl,Hb,hq0,ub⟩;have EX:=xJ.trans (ub.mono xJ.size);have ZQ:=uG.trans (ub.mono uG.size);have HPA:=z7 Hb;clear Hb HP;go_wp2;go_ret2
   obtain⟨z,hz⟩:=xX w3.heap.size;have jS:=fun i=>xu w3 #[.pointer (some ⟨q,0,none⟩),.pointer (some ⟨g,0,none⟩)] 90 (0,0) i
   have uN:Below w3.heap.size w3 (w3.alloc (.cells #[.pointer (some ⟨q,0,none⟩),.pointer (some ⟨g,0,none⟩)] 90)):=(zk _ _).alloc (zj _) _;have Om:=EX.trans (uN.mono EX.size);have zox:Fr xI xI w1 _:=Fr.of Om;refine⟨ZQ.trans (uN.mono ZQ.size),?_⟩;rw[if_neg (by rw[Sd.out];simp),HR.out];refine⟨_,q,g,mb,vC,vI,rs,cv,ov,rfl,⟨jS 0,jS 1,HPA.out.below uN,zZ Zw Om.size,HX.out.below Om Zw,zox.cell HC0.out id,zox.cell HC1.out id⟩,fun W hW=>HQC.out W (Om.trans (hW.mono Om.size)),fun W hW=>HQO.out W (Om.trans (hW.mono Om.size))⟩
theorem ep(b:Nat)(n a:Int)(w:World)(hE:QG w)(h0:w.cell? ⟨b,0,none⟩=some (.int .i64 n))(h1:w.cell? ⟨b,1,none⟩=some (.int .i64 a)) :
  Calls Tryz.prog 30 #[.iface 101 (.pointer (some ⟨b,0,none⟩))] w (Xi n a w):=by
 have HE:=z7 hE;have H0:=z7 h0;have H1:=z7 h1;have xB:b<w.heap.size:=zN w _ h0;clear hE h0 h1;go_enter func30,ntmps30;go_wp2_with fail;refine vB ?_;intro W hW;have hb:Below w.heap.size w W:=by rw[hW];exact((zk _ _).alloc (zj _) _).alloc (by simp) _
 have hz:w.heap.size+2<=W.heap.size:=by rw[hW];simp
 have hA:W.cell? ⟨w.heap.size,0,none⟩=some (.pointer none)/\W.frozen? ⟨w.heap.size,0,none⟩=false:=by rw[hW];constructor<;>go_simp
 clear hW;refine(eQ ⟨b,0,none⟩ ⟨w.heap.size,0,none⟩ _ W (HE.out.below hb) hA.1 hA.2).mono ?_;rintro e w2 ⟨rfl,p1,p2,p3,p4,K7⟩;have xJ:Below w.heap.size W w2:=by rw[K7];exact(((((zk _ _).alloc (by omega) _).alloc (by simp;omega) _).alloc (by simp;omega) _).alloc (by simp;omega) _).setCell (by simp) _
 have uG:=hb.trans xJ;have hC:w2.cell? ⟨w.heap.size,0,none⟩=some (.pointer (some ⟨b,0,none⟩)):=by
  rw[K7,xk,if_pos rfl];rw[zv _ _ _ (by simp;omega),zv _ _ _ (by simp;omega),zv _ _ _ (by simp;omega),zv _ _ _ (by show w.heap.size<_;omega),hA.1];rfl
 have d0:=(uG.cell (p:=⟨b,0,none⟩) xB).trans H0.out;have d1:=(uG.cell (p:=⟨b,1,none⟩) xB).trans H1.out;clear K7 xJ hA;have jO:w2.drew.cell? ⟨w.heap.size,0,none⟩=some (.pointer (some ⟨b,0,none⟩))/\w2.drew.cell? ⟨b,0,none⟩=some (.int .i64 n)/\w2.drew.cell? ⟨b,1,none⟩=some (.int .i64 a):=⟨hC,d0,d1⟩;go_wp2_with fail;refine rt (fun W':World=>W'.cell? ⟨w.heap.size,0,none⟩=some (.pointer (some ⟨b,0,none⟩))/\W'.cell? ⟨b,0,none⟩=some (.int .i64 n)/\W'.cell? ⟨b,1,none⟩=some (.int .i64 a)) [0,1,2,3,4,5,6,7,8,9] 0 jO ?_;(iterate 10 ((first|refine ty ?_|refine tn ?_);try simp only[pl]))
 refine xq ?_;refine b7 ?_ _;go_wp2;go_ret2
 exact⟨rfl,uG.drew⟩
def zj3(kn:Bool)(r:Except (Nat×Nat) Fo)(mi po gr:Int)(fi ne:Nat)(dg:List UInt8)(Qc Qo:World->Value->Prop)(w:World)(e:Ending)(w':World):Prop :=
 Below w.heap.size w w' /\
 if kn=false then e = .returned (.tuple #[.pointer none,.int .i64 8,.int .i64 0])
 else match r with
  | .error (n,a)=>e = .returned (.tuple #[.pointer none,.int .i64 (n:Nat),.int .i64 (a:Nat)])
  | .ok f=>∃ P q g mb vC vI rs cv ov,e = .returned (.tuple #[.pointer (some ⟨P,0,none⟩),.int .i64 0,.int .i64 0])/\Br P q g mb f vC vI rs mi po gr fi ne dg cv ov w'/\(∀ W,Below w'.heap.size w' W->Qc W cv)/\∀ W,Below w'.heap.size w' W->Qo W ov
theorem EU(s:ByteArray)(c o:Value)(ra rb:Bool)(mi po gr:Int)(fi ne:Nat)(dg:ByteArray)(Qc Qo:World->Value->Prop)(w:World)(hs:s.size<=1000000)(hd:dg.size<=1000000)(TM:fi<=255)(vy:ne<=255)
  (hc:jf w c ra Qc) (ho:jf w o rb Qo) (RA:(∃ a n k,c = .slice a n k)/\∃ a n k,o = .slice a n k) (hE:Yp w) :
  Calls Tryz.prog 20 #[.string s,LD c o mi po gr fi ne dg] w (zj3 (vS ra rb mi po gr fi ne dg.data.toList) (ke s.data.toList) mi po gr fi ne dg.data.toList Qc Qo w):=by
 have HC:=z7 hc;have HO:=z7 ho;have HCO:=z7 RA;have HE:=z7 hE;clear hc ho RA hE;go_enter func20,ntmps20;go_wp2_with fail;refine vB ?_;intro W hW;have hb:Below w.heap.size w W:=by rw[hW];exact(zk _ _).alloc (zj _) _
 clear hW;refine(EV s c o ra rb mi po gr fi ne dg Qc Qo W hs hd TM vy (HC.out.later hb) (HO.out.later hb) HCO.out (HE.out.below hb)).mono ?_;rintro e w1 ⟨xG,vE⟩;have uv:Below w.heap.size w w1:=hb.trans (xG.mono hb.size);have Uu:=HE.out.below uv;obtain⟨kn,Jt⟩:=xX (vS ra rb mi po gr fi ne dg.data.toList);rw[Jt] at vE;have Sd:=z7 Jt;clear Jt
 cases kn
 .rw[if_pos rfl] at vE;subst vE;have HT:=z7 (OM 8 w1 Uu.tabs.err);clear hb xG Uu;go_wp2_with fail;refine HT.out.mono ?_;rintro e w2 ⟨rfl,xJ⟩;have uG:=uv.trans (xJ.mono uv.size);clear HT xJ;go_wp2;go_ret3
  refine⟨uG,?_⟩;rw[if_pos Sd.out];rfl
 .rw[if_neg (by simp)] at vE;obtain⟨r,hr⟩:=xX (ke s.data.toList);rw[hr] at vE;have HR:=z7 hr;clear hr
  cases r with
  | error en =>
   obtain⟨n,a⟩:=en;obtain⟨b,rfl,f0,f1⟩:=vE;have HT:=z7 (ep b n a w1 Uu.tabs.err f0 f1);clear hb xG Uu f0 f1;go_wp2_with fail;refine HT.out.mono ?_;rintro e w2 ⟨rfl,xJ⟩;have uG:=uv.trans (xJ.mono uv.size);clear HT xJ;go_wp2;go_ret3
   refine⟨uG,?_⟩;rw[if_neg (by rw[Sd.out];simp),HR.out];rfl
  | ok f =>
   obtain⟨P,q,g,mb,vC,vI,rs,cv,ov,rfl,hph,hqc,hqo⟩:=vE;have HT:=z7 (QF w1);have HP:=z7 hph;have HQ:=z7 (And.intro hqc hqo);clear hb xG Uu hph hqc hqo;go_wp2_with fail;refine HT.out.mono ?_;rintro e w2 ⟨rfl,xJ⟩;have uG:=uv.trans (xJ.mono uv.size);have FM:=z7 (HP.out.below xJ);clear HT;go_wp2;go_ret3
   refine⟨uG,?_⟩;rw[if_neg (by rw[Sd.out];simp),HR.out];exact⟨P,q,g,mb,vC,vI,rs,cv,ov,rfl,FM.out,fun W hW=>HQ.out.1 W (xJ.trans (hW.mono xJ.size)),fun W hW=>HQ.out.2 W (xJ.trans (hW.mono xJ.size))⟩
end Go.Proofs.YthpldolmpinnhaaGreatDoor
