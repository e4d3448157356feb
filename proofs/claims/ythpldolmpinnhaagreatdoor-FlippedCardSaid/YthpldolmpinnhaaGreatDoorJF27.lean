import Derived.Test.YthpldolmpinnhaaGreatDoorJF26
import Derived.Test.YthpldolmpinnhaaGreatDoorShelfV
import Derived.Laws.IdiomCopy
set_option maxHeartbeats 64000000
open Go.Lib renaming hid→z7,cell_of_heap→z8,frozen_of_heap→zV,runeCount→zD,validD→zE,Utf8Tabs→zH
open Go.Value renaming int→zy
open Go.RowKit.Below renaming heap_alloc→zx,refl→zk,heap_setCell→zX,setCell→zF
open Go.World renaming cell?_alloc_lt→zv,cell?_setCells_out→zY,block_lt_of_cell?→zN,setCells→zW
open Array renaming replicate→zu
open Nat renaming le_refl→zj,lt_of_lt_of_le→zZ,le_trans→zO
open List renaming drop_zero→zg,length_map→zU,length→zI,eq_nil_of_length_eq_zero→zL,length_pos_iff→zR,getElem_map→zS
open Bool renaming and_eq_true→zf,not_eq_true→zQ,or_eq_true→zM
open Go.Result renaming andThen→zJ
open Go.Conv renaming runesFrom→zG
open Go.Instr renaming index→zP
open Go.Proofs.Tryz
namespace Go.Proofs.YthpldolmpinnhaaGreatDoor
open Go Go.RowKit
set_option maxRecDepth 10000
def ya6:List UInt8:=[48,49,50,51,52,53,54,55,56,57]
def VP(dg:List UInt8):List UInt8:=if dg=[] then ya6 else dg
def LQ(ra rb:Bool)(mi po gr:Int)(fi ne:Nat)(dg:List UInt8)(Qc Qo:World->Value->Prop)(w:World)(e:Ending)(w':World):Prop :=
 Below w.heap.size w w' /\
 if vM ra rb mi po gr fi ne dg then ∃ (g:Nat) (cv ov:Value),e = .returned (.pointer (some ⟨g,0,none⟩))/\w.heap.size<=g/\g<w'.heap.size /\
   Ek w' g mi po gr fi ((if ne=0 then fi else ne:Nat):Int) (xm (VP dg))/\w'.cell? ⟨g,0,none⟩=some cv/\w'.cell? ⟨g,1,none⟩=some ov /\
   (∀ W,Below w'.heap.size w' W->Qc W cv)/\(∀ W,Below w'.heap.size w' W->Qo W ov)
 else e = .returned (.pointer none)
def ZE(b:Nat)(A B:World):Prop:=A.heap.size<=B.heap.size/\∀ j,j≠b->j≠b+1->j<A.heap.size->B.heap[j]? = A.heap[j]?
theorem ZE.refl(b:Nat)(A:World):ZE b A A:=⟨zj _,fun _ _ _ _=>rfl⟩
theorem ZE.trans{b:Nat}{A B C:World}(h:ZE b A B)(k:ZE b B C):ZE b A C :=
 ⟨zO h.1 k.1,fun j h1 h2 h3=>(k.2 j h1 h2 (zZ h3 h.1)).trans (h.2 j h1 h2 h3)⟩
theorem ZE.below{b:Nat}{A B:World}(h:Below A.heap.size A B):ZE b A B:=⟨h.size,fun j _ _ h3=>h.block j h3⟩
theorem ZE.set{b:Nat}{A B:World}(h:ZE b A B)(p:Addr)(v:Value)(hp:p.block=b\/p.block=b+1):ZE b A (B.setCell p v) :=
 h.trans ⟨by simp,fun j h1 h2 _=>zX _ _ _ _ (by omega)⟩
theorem ZE.agree{b hi:Nat}{A B C:World}(h:ZE b A B)(hh:b+2<=hi)(hb:b+2<=A.heap.size)(k:Below B.heap.size B C):RJ b hi A C :=
 ⟨zO h.1 k.size,fun j hj=>by
  have xD:j<A.heap.size:=by omega
  rw[k.block j (zZ xD h.1)];exact h.2 j (by omega) (by omega) xD⟩
theorem TU(h:Array Obj)(a b:Obj):((h.push a).push b)[h.size+1]? = some b:=by
 have e:h.size+1=(h.push a).size:=by simp
 rw[e];exact Array.getElem?_push_size
theorem UQ(r:Int):Lib.validRune r=fu r:=by
 unfold Lib.validRune fu;rw[decide_eq_decide];omega
theorem eK{ra rb:Bool}{mi po gr:Int}{fi ne:Nat}{dg:List UInt8}(h:¬(ra=true/\rb=true/\max (fi:Int) (ne:Int)<=9/\¬mi=0/\¬po=0)):vM ra rb mi po gr fi ne dg=false:=by
 rw[←zQ];intro hk;simp only[vM,zf,Bool.not_eq_true',beq_eq_false_iff_ne,decide_eq_true_eq] at hk;exact h ⟨hk.1,hk.2.1,by omega,hk.2.2.2.2.2.1,hk.2.2.2.2.2.2.1⟩
theorem KE{ra rb:Bool}{mi po gr:Int}{fi ne:Nat}{dg:List UInt8}(h:fu mi=false\/fu po=false\/fu gr=false):vM ra rb mi po gr fi ne dg=false:=by
 rw[←zQ];intro hk;simp only[vM,zf] at hk;rcases h with h|h|h
 ·rw[hk.2.2.1] at h;cases h
 ·rw[hk.2.2.2.1] at h;cases h
 ·rw[hk.2.2.2.2.1] at h;cases h
theorem Z0{w W:World}(h:zH 3 4 w)(hb:Below w.heap.size w W):zH 3 4 W:=by
 have lt:∀ (a:Addr) (v:Value),w.cell? a=some v->a.block<w.heap.size:=fun a v h=>zN w a h
 refine⟨fun c hc=>?_,fun i hi=>⟨?_,?_⟩⟩
 ·rw[hb.cell (lt _ _ (h.1 c hc))];exact h.1 c hc
 ·rw[hb.cell (lt _ _ (h.2 i hi).1)];exact(h.2 i hi).1
 ·rw[hb.cell (lt _ _ (h.2 i hi).2)];exact(h.2 i hi).2
theorem BM{ra rb:Bool}{mi po gr:Int}{fi ne:Nat}{dg:List UInt8}(h:zE dg=false):vM ra rb mi po gr fi ne dg=false:=by
 rw[←zQ];intro hk;simp only[vM,zf,decide_eq_true_eq] at hk;have h1:(uH dg).2=dg.length:=by have:=hk.2.2.2.2.2.2.2.1;omega
 rw[(bK dg).2 h1] at h
 cases h
theorem dK{w:World}{o:Obj}{a:Addr}(h:a.block<w.heap.size):(w.alloc o).cell? a=w.cell? a:=zv w o a h
theorem BN:(uH (⟨#[48,49,50,51,52,53,54,55,56,57]⟩:ByteArray).data.toList).1.length=10:=by
 have h:=(gg ⟨#[48,49,50,51,52,53,54,55,56,57]⟩ 10 0 (by decide) (by decide) (by rw[zg,(bK _).1 (by decide)];decide)).1;rw[zg] at h;rw[←h];decide
theorem BO{ra rb:Bool}{mi po gr:Int}{fi ne:Nat}{dg:List UInt8}(hd:¬dg=[])(h:¬(uH dg).1.length=10):vM ra rb mi po gr fi ne dg=false:=by
 rw[←zQ];intro hk;simp only[vM,zf,zM,decide_eq_true_eq] at hk;rcases hk.2.2.2.2.2.2.2.2.1 with h1|h1
 ·exact h1 (zR.2 hd)
 ·refine h ?_;simp at h1;omega
theorem UK(B:Nat)(w:World)(s:ByteArray)(pos:Nat):B<=w.heap.size->Below B w (w.iter s pos):=fun hB=>(zk _ _).alloc hB _
theorem heap_set{w:World}{b j:Nat}{cs:Array Value}{T:TypeId}{fr:Nat×Nat}(h:w.heap[b]? = some (.cells cs T fr))(v:Value):(w.setCell ⟨b,j,none⟩ v).heap[b]? = some (.cells (cs.setIfInBounds j v) T fr):=by
 simp[World.setCell,Array.getElem?_modify,h]
structure RW(b:Nat)(c o cv ov:Value)(mi po gr fi ne nx:Int)(dg:ByteArray)(W:World):Prop where
 hA:W.heap[b]? = some (.cells #[c,o,.int .i32 mi,.int .i32 po,.int .i32 gr,.int .u8 fi,.int .u8 ne,.string dg] 25 (0,0))
 hB:W.heap[b+1]? = some (.cells #[cv,ov,.int .i32 mi,.int .i32 po,.int .i32 gr,.int .i64 fi,.int .i64 nx,.int .i32 0,.int .i32 0,.int .i32 0,.int .i32 0,.int .i32 0,.int .i32 0,.int .i32 0,.int .i32 0,.int .i32 0,.int .i32 0] 143 (0,0))
theorem RW.below{b B:Nat}{c o cv ov:Value}{mi po gr fi ne nx:Int}{dg:ByteArray}{W W':World}(h:RW b c o cv ov mi po gr fi ne nx dg W)(hb:Below B W W')(xD:b+1<B):RW b c o cv ov mi po gr fi ne nx dg W' :=
 ⟨by rw[hb.block b (by omega)];exact h.hA,by rw[hb.block (b+1) xD];exact h.hB⟩
theorem RW.a{b:Nat}{c o cv ov:Value}{mi po gr fi ne nx:Int}{dg:ByteArray}{W:World}(h:RW b c o cv ov mi po gr fi ne nx dg W) :
  W.cell? ⟨b,0,none⟩=some c/\W.cell? ⟨b,1,none⟩=some o/\W.cell? ⟨b,2,none⟩=some (.int .i32 mi)/\W.cell? ⟨b,3,none⟩=some (.int .i32 po)/\W.cell? ⟨b,4,none⟩=some (.int .i32 gr) /\
  W.cell? ⟨b,5,none⟩=some (.int .u8 fi)/\W.cell? ⟨b,6,none⟩=some (.int .u8 ne)/\W.cell? ⟨b,7,none⟩=some (.string dg)/\W.frozen? ⟨b,7,none⟩=false :=
 ⟨z8 h.hA 0,z8 h.hA 1,z8 h.hA 2,z8 h.hA 3,z8 h.hA 4,z8 h.hA 5,z8 h.hA 6,z8 h.hA 7,zV h.hA 7⟩
theorem RW.b{b:Nat}{c o cv ov:Value}{mi po gr fi ne nx:Int}{dg:ByteArray}{W:World}(h:RW b c o cv ov mi po gr fi ne nx dg W) :
  W.cell? ⟨b+1,0,none⟩=some cv/\W.cell? ⟨b+1,1,none⟩=some ov/\W.cell? ⟨b+1,5,none⟩=some (.int .i64 fi)/\W.cell? ⟨b+1,6,none⟩=some (.int .i64 nx) /\
  W.frozen? ⟨b+1,0,none⟩=false/\W.frozen? ⟨b+1,1,none⟩=false/\W.frozen? ⟨b+1,6,none⟩=false :=
 ⟨z8 h.hB 0,z8 h.hB 1,z8 h.hB 5,z8 h.hB 6,zV h.hB 0,zV h.hB 1,zV h.hB 6⟩
theorem RW.X3{b:Nat}{c o cv ov:Value}{mi po gr fi ne nx:Int}{dg:ByteArray}{W:World}(h:RW b c o cv ov mi po gr fi ne nx dg W)(v:Value):RW b c o v ov mi po gr fi ne nx dg (W.setCell ⟨b+1,0,none⟩ v) :=
 ⟨by rw[zX _ _ _ _ (by simp)];exact h.hA,by rw[heap_set h.hB];rfl⟩
theorem RW.CR{b:Nat}{c o cv ov:Value}{mi po gr fi ne nx:Int}{dg:ByteArray}{W:World}(h:RW b c o cv ov mi po gr fi ne nx dg W)(v:Value):RW b c o cv v mi po gr fi ne nx dg (W.setCell ⟨b+1,1,none⟩ v) :=
 ⟨by rw[zX _ _ _ _ (by simp)];exact h.hA,by rw[heap_set h.hB];rfl⟩
theorem RW.zo6{b:Nat}{c o cv ov:Value}{mi po gr fi ne nx:Int}{dg:ByteArray}{W:World}(h:RW b c o cv ov mi po gr fi ne nx dg W)(v:Int):RW b c o cv ov mi po gr fi ne v dg (W.setCell ⟨b+1,6,none⟩ (.int .i64 v)) :=
 ⟨by rw[zX _ _ _ _ (by simp)];exact h.hA,by rw[heap_set h.hB];rfl⟩
theorem RW.zo7{b:Nat}{c o cv ov:Value}{mi po gr fi ne nx:Int}{dg:ByteArray}{W:World}(h:RW b c o cv ov mi po gr fi ne nx dg W)(d:ByteArray):RW b c o cv ov mi po gr fi ne nx d (W.setCell ⟨b,7,none⟩ (.string d)) :=
 ⟨by rw[heap_set h.hA];rfl,by rw[zX _ _ _ _ (by simp)];exact h.hB⟩
theorem TQ(V:World)(cs:List Value)(r:Array Value)(T:TypeId)(j:Nat)(v:Value)(h:cs[j]? = some v) :
  (V.alloc (.cells (cs.toArray++r) T)).drew.drew.cell? ((⟨V.heap.size,0,none⟩:Addr).add j)=some v:=by
 have h1:(V.alloc (.cells (cs.toArray++r) T)).drew.drew.heap[V.heap.size]? = some (.cells (cs.toArray++r) T):=by
  show(V.heap.push _)[V.heap.size]? = _;simp
 have xD:j<cs.length:=by
  rcases Nat.lt_or_ge j cs.length with hh|hh
  ·exact hh
  ·rw[List.getElem?_eq_none hh] at h;cases h
 rw[vS,z8 h1 j,Array.getElem?_append_left (by simpa using xD)];simpa using h
theorem BP{V:World}{g:Nat}{cs:Array Value}{T:TypeId}(h:V.heap[g]? = some (.cells cs T (0,0)))(hs:cs.size=17)(n:Nat)(hn:n=10) :
  (∀ j,j<n->(V.cell? ⟨g,7+j,none⟩).isSome=true)/\∀ j,j<n->V.frozen? ⟨g,7+j,none⟩=false:=by
 subst hn;refine⟨fun j hj=>?_,fun j hj=>zV h _⟩;rw[z8 h (7+j)];have:7+j<cs.size:=by omega
 simp[this]
theorem ZE.setCells{b:Nat}{A:World}:∀ (vs:List Value) (B:World) (o:Nat),ZE b A B->ZE b A (B.setCells (b+1) o vs)
 | [],_,_,h=>h
 | v::vs,B,o,h=>by
  unfold zW;exact ZE.setCells vs _ _ (h.set _ _ (.inr rfl))
theorem Xa{b:Nat}{A:World}:∀ (vs:List Value) (B:World) (o:Nat),Below b A B->Below b A (B.setCells (b+1) o vs)
 | [],_,_,h=>h
 | v::vs,B,o,h=>by
  unfold zW;exact Xa vs _ _ (h.setCell (Nat.le_succ b) _)
theorem Jt{mi po gr:Int}{fi ne:Nat}{dg D:List UInt8}(hD:D=VP dg)(h3:max (fi:Int) (ne:Int)<=9)(h4:¬mi=0)(h5:¬po=0)(p1:fu mi=true)(p2:fu po=true)(p3:fu gr=true)
  (hp:(uH D).2=D.length) (hc:(uH D).1.length=10):vM true true mi po gr fi ne dg=true:=by
 unfold VP at hD;by_cases h:dg=[]
 ·subst h;have e:(uH []).2=0:=by rw[kH]
  simp[vM,p1,p2,p3,h4,h5,e];omega
 ·rw[if_neg h] at hD;subst hD;simp[vM,p1,p2,p3,h4,h5,hp,hc];omega
theorem QV{w W1 W3 W7:World}{D:ByteArray}{pos:Nat}{ob:Obj}{c oo cv ov:Value}{mi po gr:Int}{fi ne nx UN hi3:Nat}{rs:List Int}{dg:List UInt8}{Qc Qo:World->Value->Prop}
  (h:RW w.heap.size c oo cv ov mi po gr fi ne (nx:Int) D W7) (hb:Below w.heap.size w W7) (hz:w.heap.size+2<=W7.heap.size) (hl:rs.length=10) (Eg:nx=if ne=0 then fi else ne)
  (ZM:rs=xm D.data.toList) (hD:D.data.toList=VP dg) (hk:vM true true mi po gr fi ne dg=true)
  (s1:ZE w.heap.size W1 W7) (s3:ZE w.heap.size W3 W7) (h1:w.heap.size+2<=UN) (h3:w.heap.size+2<=hi3) (z1:w.heap.size+2<=W1.heap.size) (z3:w.heap.size+2<=W3.heap.size)
  (q1:∀ W,RJ w.heap.size UN W1 W->Qc W cv) (q3:∀ W,RJ w.heap.size hi3 W3 W->Qo W ov) :
  LQ true true mi po gr fi ne dg Qc Qo w (.returned (.pointer (some ⟨w.heap.size+1,0,none⟩))) (((W7.iter D pos).alloc ob).drew.drew.setCells (w.heap.size+1) 7 (rs.map (zy .i32))):=by
 have hV:((W7.iter D pos).alloc ob).drew.drew.heap[w.heap.size+1]? = W7.heap[w.heap.size+1]? := by
  show((W7.alloc _).alloc _).heap[w.heap.size+1]? = _;rw[zx _ _ _ (by simp;omega),zx _ _ _ (by omega)]
 have Hv:=hV.trans h.hB;have sV:∀ {A:World},ZE w.heap.size A W7->ZE w.heap.size A (((W7.iter D pos).alloc ob).drew.drew.setCells (w.heap.size+1) 7 (rs.map (zy .i32))):=by
  intro A hA;refine ZE.setCells _ _ _ (hA.trans ⟨?_,fun j _ _ hj=>?_⟩)
  ·show W7.heap.size<=((W7.alloc _).alloc _).heap.size;simp;omega
  ·show((W7.alloc _).alloc _).heap[j]? = _;rw[zx _ _ _ (by simp;omega),zx _ _ _ hj]
 have hbV:Below w.heap.size w (((W7.iter D pos).alloc ob).drew.drew.setCells (w.heap.size+1) 7 (rs.map (zy .i32))):=by
  refine Xa _ _ _ ?_;have h1:Below w.heap.size w ((W7.iter D pos).alloc ob):=(hb.trans (UK _ _ _ _ (by omega))).alloc (by show _<=(W7.alloc _).heap.size;simp;omega) _;exact⟨h1.os,h1.tape,h1.output,h1.size,h1.block⟩
 have hz9:=(sV (ZE.refl _ W7)).1;generalize hVV:((W7.iter D pos).alloc ob).drew.drew=V at *;have out:∀ j,j<7->(V.setCells (w.heap.size+1) 7 (rs.map (zy .i32))).cell? ⟨w.heap.size+1,j,none⟩=V.cell? ⟨w.heap.size+1,j,none⟩:=fun j hj=>zY _ _ _ _ _ (fun _ _ => .inl hj)
 refine⟨hbV,?_⟩;rw[if_pos hk];refine⟨w.heap.size+1,cv,ov,rfl,Nat.le_succ _,by omega,⟨?_,?_,?_,?_,?_,?_,?_⟩,?_,?_,fun W hW=>q1 W ((sV s1).agree h1 z1 hW),fun W hW=>q3 W ((sV s3).agree h3 z3 hW)⟩
 ·rw[out 2 (by decide)];exact z8 Hv 2
 ·rw[out 3 (by decide)];exact z8 Hv 3
 ·rw[out 4 (by decide)];exact z8 Hv 4
 ·rw[out 5 (by decide)];exact z8 Hv 5
 ·rw[out 6 (by decide),←Eg];exact z8 Hv 6
 ·rw[←hD,←ZM];exact hl
 ·rw[←hD,←ZM];intro j hj;have dp:=World.cell?_setCells_in (w.heap.size+1) (rs.map (zy .i32)) 7 V (by rw[zU];exact(BP Hv rfl _ hl).1) j (by simpa using hj);rw[dp,zS]
 ·rw[out 0 (by decide)];exact z8 Hv 0
 ·rw[out 1 (by decide)];exact z8 Hv 1
theorem QU(V:World)(rs:List Int)(r:Array Value)(cap b:Nat){cs:Array Value}{T:TypeId}(hl:rs.length=10)
  (Hv:(V.alloc (.cells ((rs.map (zy .i32)).toArray++r) 21)).drew.drew.heap[b]? = some (.cells cs T (0,0))) (hs:cs.size=17) :
  (Builtin.copy_ #[147,147] 3 #[.slice (some ⟨b,7,none⟩) 10 10,.slice (some ⟨V.heap.size,0,none⟩) 10 cap]).run Tryz.prog (V.alloc (.cells ((rs.map (zy .i32)).toArray++r) 21)).drew.drew =
   .ok (goInt (rs.map (zy .i32)).length) ((V.alloc (.cells ((rs.map (zy .i32)).toArray++r) 21)).drew.drew.setCells b 7 (rs.map (zy .i32))):=by
 have hd:=BP Hv hs (rs.map (zy .i32)).length (by simp[hl]);have ya7:=TQ V (rs.map (zy .i32)) r 21;generalize (V.alloc (.cells ((rs.map (zy .i32)).toArray++r) 21)).drew.drew=W at *;exact run_copy_cells W 147 147 3 21 b 7 10 10 ⟨V.heap.size,0,none⟩ 10 cap (rs.map (zy .i32)) underlying147 (by kernel_rfl) (by simp[hl]) ya7 hd.1 hd.2 (by intro v hv;simp at hv;obtain⟨x,_,rfl⟩:=hv;rfl)
theorem Fq(c o:Value)(ra rb:Bool)(mi po gr:Int)(fi ne:Nat)(dg:ByteArray)(Qc Qo:World->Value->Prop)(w:World)(hd:dg.size<=1000000)(LV:fi<=255)(xc:ne<=255)
  (hc:qZ w c ra Qc) (ho:qZ w o rb Qo) (BR:(∃ a n k,c = .slice a n k)/\∃ a n k,o = .slice a n k) (hT:zH 3 4 w) :
  Calls Tryz.prog 43 #[Dh c o mi po gr fi ne dg] w (LQ ra rb mi po gr fi ne dg.data.toList Qc Qo w):=by
 obtain⟨⟨ca,cn,ck,rfl⟩,oa,on,ok,rfl⟩:=BR;have zo8:∀ W:World,(zP 144 (.agg #[.int .i32 mi,.int .i32 po,.int .i32 gr]) (.int .i64 0)).run Tryz.prog W = .ok (.int .i32 mi) W:=fun W=>by kernel_rfl
 have zo9:∀ W:World,(zP 144 (.agg #[.int .i32 mi,.int .i32 po,.int .i32 gr]) (.int .i64 1)).run Tryz.prog W = .ok (.int .i32 po) W:=fun W=>by kernel_rfl
 have zoz:∀ W:World,(zP 144 (.agg #[.int .i32 mi,.int .i32 po,.int .i32 gr]) (.int .i64 2)).run Tryz.prog W = .ok (.int .i32 gr) W:=fun W=>by kernel_rfl
 have HC:=z7 hc;have HO:=z7 ho;clear hc ho;go_enter func43,ntmps43;go_wp2_with fail;refine vZ ?_;intro W hW;have hR:RW w.heap.size (.slice ca cn ck) (.slice oa on ok) (.slice none 0 0) (.slice none 0 0) mi po gr fi ne ne dg W:=by
  rw[hW];refine⟨?_,?_⟩
  ·rw[zx _ _ _ (by simp)];show(w.heap.push _)[w.heap.size]? = _;simp
  ·show((w.heap.push _).push _)[w.heap.size+1]? = _;exact TU _ _ _
 have jC:Below w.heap.size w W:=by rw[hW];exact((zk _ _).alloc (zj _) _).alloc (by simp) _
 have hzW:w.heap.size+2<=W.heap.size:=by rw[hW];simp
 clear hW;have HZW:=z7 hzW;refine(HC.out W jC).mono ?_;rintro e W1 ⟨⟨a1,n1,k1,rfl,hQ1⟩,xB⟩;have LK:=hR.below xB (by omega);have vO:Below w.heap.size w W1:=jC.trans (xB.mono (by omega));have Uu:w.heap.size+2<=W1.heap.size:=by have:=xB.size;omega
 clear hR jC hzW xB;obtain⟨g0,g1,g2,g3,g4,g5,g6⟩:=LK.b;obtain⟨a0,OL,a2,a3,a4,a5,a6,a7,a8⟩:=LK.a;have HQ1:=z7 hQ1;clear hQ1;go_wp2_with fail;refine vZ ?_;intro W2 Nx;have Mh:RW w.heap.size (.slice ca cn ck) (.slice oa on ok) (.slice a1 n1 k1) (.slice none 0 0) mi po gr fi ne ne dg W2:=by rw[Nx];exact LK.X3 _
 have uK:Below w.heap.size w W2:=by rw[Nx];exact vO.setCell (p:=⟨w.heap.size+1,0,none⟩) (by simp) _
 have TV:Below w.heap.size W1 W2:=by rw[Nx];exact(zk _ _).setCell (p:=⟨w.heap.size+1,0,none⟩) (by simp) _
 have Uf:w.heap.size+2<=W2.heap.size:=by rw[Nx];simpa using Uu
 have s12:ZE w.heap.size W1 W2:=by rw[Nx];exact(ZE.refl _ _).set _ _ (.inr rfl)
 clear Nx;refine(HO.out W2 uK).mono ?_;rintro e W3 ⟨⟨a9,n9,k9,rfl,hQ3⟩,uP⟩;have hR3:=Mh.below uP (by omega);have ZV:Below w.heap.size w W3:=uK.trans (uP.mono (by omega));have Mr:w.heap.size+2<=W3.heap.size:=by have:=uP.size;omega
 have s13:=s12.trans (ZE.below (b:=w.heap.size) uP);clear a0 OL a2 a3 a4 a5 a6 a7 a8 g0 g1 g2 g3 g4 g5 g6;obtain⟨g0,g1,g2,g3,g4,g5,g6⟩:=hR3.b;obtain⟨a0,OL,a2,a3,a4,a5,a6,a7,a8⟩:=hR3.a;have Tq:=z7 hQ3;clear hQ3;by_cases Q6:ra=true/\rb=true/\max (fi:Int) (ne:Int)<=9/\¬mi=0/\¬po=0
 ·obtain⟨r1,r2,r3,r4,r5⟩:=Q6;have hmi:(mi==0)=false:=by simpa using r4
  have hpo:(po==0)=false:=by simpa using r5
  go_wp2_with fail;refine Gz ?_;intro W4 Dq;have Hs:RW w.heap.size (.slice ca cn ck) (.slice oa on ok) (.slice a1 n1 k1) (.slice a9 n9 k9) mi po gr fi ne ne dg W4:=by rw[Dq];exact hR3.CR _
  have dM:Below w.heap.size w W4:=by rw[Dq];exact ZV.setCell (p:=⟨w.heap.size+1,1,none⟩) (by simp) _
  have zj2:Below (w.heap.size+1) W3 W4:=by rw[Dq];exact(zk _ _).setCell (p:=⟨w.heap.size+1,1,none⟩) (by simp) _
  have hz4:w.heap.size+2<=W4.heap.size:=by rw[Dq];simpa using Mr
  have s34:ZE w.heap.size W3 W4:=by rw[Dq];exact(ZE.refl _ _).set _ _ (.inr rfl)
  have HW4:=z7 Dq;clear Dq;clear a0 OL a2 a3 a4 a5 a6 a7 a8 g0 g1 g2 g3 g4 g5 g6;go_loopw [71] (fun i wr=>∃ k:Nat,k<=3/\i = .int .i64 k/\wr=W4/\(0<k->fu mi=true)/\(1<k->fu po=true)/\(2<k->fu gr=true)) (fun i _=>3 - (intOf i).toNat)
  case atStart=>exact⟨0,by omega,rfl,rfl,fun h=>by omega,fun h=>by omega,fun h=>by omega⟩
  case round =>
   obtain⟨k,hk,rfl,Cl,p1,p2,p3⟩:=hrel;subst Cl;have fw:k=0\/k=1\/k=2\/k=3:=by omega
   rcases fw with Cs|rf|CX|hk3
   ·subst Cs;go_wp2_with fail;refine(Tryz.utf8_ValidRune mi _).mono ?_;rintro e w' ⟨rfl,rfl⟩;rw[UQ]
    cases hp:fu mi
    ·have HF:=z7 (KE (ra:=ra) (rb:=rb) (fi:=fi) (ne:=ne) (dg:=dg.data.toList) (mi:=mi) (po:=po) (gr:=gr) (.inl hp));clear hp;go_wp2;go_ret;refine⟨dM,?_⟩;rw[HF.out];exact rfl
    ·have HP:=z7 hp;clear hp;go_wp2;go_roundw
     case rel=>exact⟨1,by omega,by go_num,by first|rfl|trivial,fun _=>HP.out,fun h=>by omega,fun h=>by omega⟩
     case measure=>simp[intOf]
   ·subst rf;go_wp2_with fail;refine(Tryz.utf8_ValidRune po _).mono ?_;rintro e w' ⟨rfl,rfl⟩;rw[UQ]
    cases hp:fu po
    ·have HF:=z7 (KE (ra:=ra) (rb:=rb) (fi:=fi) (ne:=ne) (dg:=dg.data.toList) (mi:=mi) (po:=po) (gr:=gr) (.inr (.inl hp)));clear hp;go_wp2;go_ret;refine⟨dM,?_⟩;rw[HF.out];exact rfl
    ·have HP:=z7 hp;clear hp;go_wp2;go_roundw
     case rel=>exact⟨2,by omega,by go_num,by first|rfl|trivial,fun _=>p1 (by omega),fun _=>HP.out,fun h=>by omega⟩
     case measure=>simp[intOf]
   ·subst CX;go_wp2_with fail;refine(Tryz.utf8_ValidRune gr _).mono ?_;rintro e w' ⟨rfl,rfl⟩;rw[UQ]
    cases hp:fu gr
    ·have HF:=z7 (KE (ra:=ra) (rb:=rb) (fi:=fi) (ne:=ne) (dg:=dg.data.toList) (mi:=mi) (po:=po) (gr:=gr) (.inr (.inr hp)));clear hp;go_wp2;go_ret;refine⟨dM,?_⟩;rw[HF.out];exact rfl
    ·have HP:=z7 hp;clear hp;go_wp2;go_roundw
     case rel=>exact⟨3,by omega,by go_num,by first|rfl|trivial,fun _=>p1 (by omega),fun _=>p2 (by omega),fun _=>HP.out⟩
     case measure=>simp[intOf]
   ·subst hk3;by_cases n0:ne=0
    ·have n0':((ne:Int)==0)=true:=by simp[n0]
     by_cases d0:dg.data.toList=[]
     ·have d0':dg.toList.isEmpty=true:=by rw[toList_eq,d0];rfl
      obtain⟨g0,g1,g2,g3,g4,g5,g6⟩:=Hs.b;obtain⟨a0,OL,a2,a3,a4,a5,a6,a7,a8⟩:=Hs.a;go_wp2_with fail;refine vZ ?_;intro W6 GY;have hR6:RW w.heap.size (.slice ca cn ck) (.slice oa on ok) (.slice a1 n1 k1) (.slice a9 n9 k9) mi po gr fi ne ((fi:Nat):Int) ⟨#[48,49,50,51,52,53,54,55,56,57]⟩ W6:=by rw[GY];exact((Hs.zo6 _).zo7 _)
      have Fk:Below w.heap.size wr W6:=by rw[GY];(repeat(first|(with_reducible exact zk _ _)|(with_reducible refine zF ?_ ?_ _;rotate_left;focus(first|(simp;done)|(simp;omega)))))
      have s46:ZE w.heap.size wr W6:=by rw[GY];exact(((ZE.refl _ _).set _ _ (.inr rfl)).set _ _ (.inl rfl))
      have hz6:w.heap.size+2<=W6.heap.size:=by have:=Fk.size;omega
      clear a0 OL a2 a3 a4 a5 a6 a7 a8 g0 g1 g2 g3 g4 g5 g6 GY;have YA:=dM.trans Fk;have hT6:=Z0 hT YA;refine(Tryz.utf8_ValidString ⟨#[48,49,50,51,52,53,54,55,56,57]⟩ W6 (by first|omega|decide) hT6).mono ?_;rintro e W7 ⟨rfl,jD⟩
      cases hv:zE (⟨#[48,49,50,51,52,53,54,55,56,57]⟩:ByteArray).data.toList
      ·exact absurd hv (by decide)
      ·have Ci:=z7 hv;clear hv;have OM:=hR6.below jD (by omega);have KH:Below w.heap.size w W7:=YA.trans (jD.mono (by omega));have eJ:ZE w.heap.size W3 W7:=(s34.trans s46).trans (ZE.below jD);have hz7:w.heap.size+2<=W7.heap.size:=by have:=jD.size;omega
       obtain⟨a0,OL,a2,a3,a4,a5,a6,a7,a8⟩:=OM.a;go_wp2_with fail;refine(Tryz.utf8_RuneCountInString ⟨#[48,49,50,51,52,53,54,55,56,57]⟩ W7 (by first|omega|decide)).mono ?_;rintro e W8 ⟨rfl,pos,rfl⟩;have Uv:(uH (⟨#[48,49,50,51,52,53,54,55,56,57]⟩:ByteArray).data.toList).2=(⟨#[48,49,50,51,52,53,54,55,56,57]⟩:ByteArray).data.toList.length:=(bK _).1 Ci.out;have U4:=gg ⟨#[48,49,50,51,52,53,54,55,56,57]⟩ (⟨#[48,49,50,51,52,53,54,55,56,57]⟩:ByteArray).size 0 (by omega) (by omega) (by rw[zg,Uv,xA];simp);rw[zg] at U4;rw[show zD ⟨#[48,49,50,51,52,53,54,55,56,57]⟩=(uH (⟨#[48,49,50,51,52,53,54,55,56,57]⟩:ByteArray).data.toList).1.length from U4.1];have BK:=z7 U4;have Bf:=z7 Uv;clear U4 Uv;obtain⟨cnt,ZY⟩:∃ n,(uH (⟨#[48,49,50,51,52,53,54,55,56,57]⟩:ByteArray).data.toList).1.length=n:=⟨_,rfl⟩;rw[ZY];have UJ:=z7 ZY;clear ZY;by_cases dw:cnt=10
       ·subst dw;have US:zG ⟨#[48,49,50,51,52,53,54,55,56,57]⟩ (⟨#[48,49,50,51,52,53,54,55,56,57]⟩:ByteArray).size 0 #[]=((xm (⟨#[48,49,50,51,52,53,54,55,56,57]⟩:ByteArray).data.toList).map (zy .i32)).toArray:=by have:=BK.out.2 #[];simpa using this
        have JB:(xm (⟨#[48,49,50,51,52,53,54,55,56,57]⟩:ByteArray).data.toList).length=10:=by
         have:=congrArg zI (Zr _ (⟨#[48,49,50,51,52,53,54,55,56,57]⟩:ByteArray).data.toList (zj _));rw[zU,UJ.out] at this;exact this
        obtain⟨rs,ZM⟩:∃ r:List Int,r=xm (⟨#[48,49,50,51,52,53,54,55,56,57]⟩:ByteArray).data.toList:=⟨_,rfl⟩;rw[←ZM] at US JB;have hcv:∀ W:World,(convert 9 147 (.string ⟨#[48,49,50,51,52,53,54,55,56,57]⟩)).run Tryz.prog W = .ok (.slice (some ⟨W.heap.size,0,none⟩) 10 (grownCap W 10 0 21)) (W.drew.alloc (.cells ((rs.map (zy .i32)).toArray++zu (grownCap W 10 0 21 - 10) (.int .i32 0)) 21)):=by
         intro W;have:=run_runes_of_string (P:=Tryz.prog) W 9 147 21 ⟨#[48,49,50,51,52,53,54,55,56,57]⟩ underlying9 underlying147 underlying21 (by rw[US];simp;omega);rw[US] at this;simpa[JB] using this
        have HRF:=z7 US;have aa:=z7 ZM;clear US ZM;go_wp2_with fail;have jo:(W7.iter ⟨#[48,49,50,51,52,53,54,55,56,57]⟩ pos).drew.cell? ⟨w.heap.size,7,none⟩=some (.string ⟨#[48,49,50,51,52,53,54,55,56,57]⟩):=by
         show(W7.alloc _).cell? _=_;rw[zv _ _ _ (by simp;omega)];exact a7
        refine rt (fun W':World=>W'.cell? ⟨w.heap.size,7,none⟩=some (.string ⟨#[48,49,50,51,52,53,54,55,56,57]⟩)) [0,1,2,3,4,5] 2 jo ?_;(iterate 6 ((first|refine ty ?_|refine tn ?_);try simp only[pl]))
        refine xq ?_;refine kR 6 (fun K hK=>?_);go_simp;refine hK.out _ _ ?_ (fun _=>?_)
        ·show((W7.iter ⟨#[48,49,50,51,52,53,54,55,56,57]⟩ pos).alloc _).cell? _=_;rw[dK (by show _<(W7.alloc _).heap.size;simp;omega)];exact jo
        clear hK K;refine kR 7 (fun K hK=>?_);go_simp;have ON:(((W7.iter ⟨#[48,49,50,51,52,53,54,55,56,57]⟩ pos).alloc (.cells ((rs.map (zy .i32)).toArray++zu (grownCap (W7.iter ⟨#[48,49,50,51,52,53,54,55,56,57]⟩ pos).drew 10 0 21 - 10) (.int .i32 0)) 21)).drew.drew).heap[w.heap.size+1]? = W7.heap[w.heap.size+1]? := by
         show((W7.alloc _).alloc _).heap[w.heap.size+1]? = _;rw[zx _ _ _ (by simp;omega),zx _ _ _ (by omega)]
        have Hv:=ON.trans OM.hB;have Fj:=QU (W7.iter ⟨#[48,49,50,51,52,53,54,55,56,57]⟩ pos) rs (zu (grownCap (W7.iter ⟨#[48,49,50,51,52,53,54,55,56,57]⟩ pos).drew 10 0 21 - 10) (.int .i32 0)) (grownCap (W7.iter ⟨#[48,49,50,51,52,53,54,55,56,57]⟩ pos).drew 10 0 21) (w.heap.size+1) JB Hv (by simp);rw[Fj];simp only[zJ];refine hK.out _ _ ?_ (fun _=>?_)
        ·rw[zY _ _ _ _ _ (fun h=>absurd h (by simp))];show((W7.iter ⟨#[48,49,50,51,52,53,54,55,56,57]⟩ pos).alloc _).cell? _=_;rw[dK (by show _<(W7.alloc _).heap.size;simp;omega)];exact jo
        clear hK K;refine bX ?_ _;go_wp2;refine bodyPost_ret (v := .pointer (some ⟨w.heap.size+1,0,none⟩)) ?_ rfl ?_
        ·simp[results,results43,go_sem]
        ·have HD:(⟨#[48,49,50,51,52,53,54,55,56,57]⟩:ByteArray).data.toList=VP dg.data.toList:=by rw[d0];rfl
         have HK:=Jt (fi:=fi) (ne:=ne) HD r3 r4 r5 (p1 (by omega)) (p2 (by omega)) (p3 (by omega)) Bf.out UJ.out;rw[show ra=true from r1,show rb=true from r2];exact QV (nx:=fi) OM KH hz7 JB (by rw[if_pos n0]) aa.out HD HK (s13.trans eJ) eJ HZW.out Uf Uu Mr HQ1.out Tq.out
       ·exact absurd (UJ.out.symm.trans BN) dw
     ·have d0':dg.toList.isEmpty=false:=by rw[toList_eq];simpa using d0
      obtain⟨g0,g1,g2,g3,g4,g5,g6⟩:=Hs.b;obtain⟨a0,OL,a2,a3,a4,a5,a6,a7,a8⟩:=Hs.a;go_wp2_with fail;refine vZ ?_;intro W6 GY;have hR6:RW w.heap.size (.slice ca cn ck) (.slice oa on ok) (.slice a1 n1 k1) (.slice a9 n9 k9) mi po gr fi ne ((fi:Nat):Int) dg W6:=by rw[GY];exact(Hs.zo6 _)
      have Fk:Below w.heap.size wr W6:=by rw[GY];(repeat(first|(with_reducible exact zk _ _)|(with_reducible refine zF ?_ ?_ _;rotate_left;focus(first|(simp;done)|(simp;omega)))))
      have s46:ZE w.heap.size wr W6:=by rw[GY];exact((ZE.refl _ _).set _ _ (.inr rfl))
      have hz6:w.heap.size+2<=W6.heap.size:=by have:=Fk.size;omega
      clear a0 OL a2 a3 a4 a5 a6 a7 a8 g0 g1 g2 g3 g4 g5 g6 GY;have YA:=dM.trans Fk;have hT6:=Z0 hT YA;refine(Tryz.utf8_ValidString dg W6 (by first|omega|decide) hT6).mono ?_;rintro e W7 ⟨rfl,jD⟩
      cases hv:zE (dg:ByteArray).data.toList
      ·have HF:=z7 (BM (ra:=ra) (rb:=rb) (fi:=fi) (ne:=ne) (mi:=mi) (po:=po) (gr:=gr) hv);clear hv;go_wp2;go_ret;refine⟨YA.trans (jD.mono (by omega)),?_⟩;rw[HF.out];exact rfl
      ·have Ci:=z7 hv;clear hv;have OM:=hR6.below jD (by omega);have KH:Below w.heap.size w W7:=YA.trans (jD.mono (by omega));have eJ:ZE w.heap.size W3 W7:=(s34.trans s46).trans (ZE.below jD);have hz7:w.heap.size+2<=W7.heap.size:=by have:=jD.size;omega
       obtain⟨a0,OL,a2,a3,a4,a5,a6,a7,a8⟩:=OM.a;go_wp2_with fail;refine(Tryz.utf8_RuneCountInString dg W7 (by first|omega|decide)).mono ?_;rintro e W8 ⟨rfl,pos,rfl⟩;have Uv:(uH (dg:ByteArray).data.toList).2=(dg:ByteArray).data.toList.length:=(bK _).1 Ci.out;have U4:=gg dg (dg:ByteArray).size 0 (by omega) (by omega) (by rw[zg,Uv,xA];simp);rw[zg] at U4;rw[show zD dg=(uH (dg:ByteArray).data.toList).1.length from U4.1];have BK:=z7 U4;have Bf:=z7 Uv;clear U4 Uv;obtain⟨cnt,ZY⟩:∃ n,(uH (dg:ByteArray).data.toList).1.length=n:=⟨_,rfl⟩;rw[ZY];have UJ:=z7 ZY;clear ZY;by_cases dw:cnt=10
       ·subst dw;have US:zG dg (dg:ByteArray).size 0 #[]=((xm (dg:ByteArray).data.toList).map (zy .i32)).toArray:=by have:=BK.out.2 #[];simpa using this
        have JB:(xm (dg:ByteArray).data.toList).length=10:=by
         have:=congrArg zI (Zr _ (dg:ByteArray).data.toList (zj _));rw[zU,UJ.out] at this;exact this
        obtain⟨rs,ZM⟩:∃ r:List Int,r=xm (dg:ByteArray).data.toList:=⟨_,rfl⟩;rw[←ZM] at US JB;have hcv:∀ W:World,(convert 9 147 (.string dg)).run Tryz.prog W = .ok (.slice (some ⟨W.heap.size,0,none⟩) 10 (grownCap W 10 0 21)) (W.drew.alloc (.cells ((rs.map (zy .i32)).toArray++zu (grownCap W 10 0 21 - 10) (.int .i32 0)) 21)):=by
         intro W;have:=run_runes_of_string (P:=Tryz.prog) W 9 147 21 dg underlying9 underlying147 underlying21 (by rw[US];simp;omega);rw[US] at this;simpa[JB] using this
        have HRF:=z7 US;have aa:=z7 ZM;clear US ZM;go_wp2_with fail;have jo:(W7.iter dg pos).drew.cell? ⟨w.heap.size,7,none⟩=some (.string dg):=by
         show(W7.alloc _).cell? _=_;rw[zv _ _ _ (by simp;omega)];exact a7
        refine rt (fun W':World=>W'.cell? ⟨w.heap.size,7,none⟩=some (.string dg)) [0,1,2,3,4,5] 2 jo ?_;(iterate 6 ((first|refine ty ?_|refine tn ?_);try simp only[pl]))
        refine xq ?_;refine kR 6 (fun K hK=>?_);go_simp;refine hK.out _ _ ?_ (fun _=>?_)
        ·show((W7.iter dg pos).alloc _).cell? _=_;rw[dK (by show _<(W7.alloc _).heap.size;simp;omega)];exact jo
        clear hK K;refine kR 7 (fun K hK=>?_);go_simp;have ON:(((W7.iter dg pos).alloc (.cells ((rs.map (zy .i32)).toArray++zu (grownCap (W7.iter dg pos).drew 10 0 21 - 10) (.int .i32 0)) 21)).drew.drew).heap[w.heap.size+1]? = W7.heap[w.heap.size+1]? := by
         show((W7.alloc _).alloc _).heap[w.heap.size+1]? = _;rw[zx _ _ _ (by simp;omega),zx _ _ _ (by omega)]
        have Hv:=ON.trans OM.hB;have Fj:=QU (W7.iter dg pos) rs (zu (grownCap (W7.iter dg pos).drew 10 0 21 - 10) (.int .i32 0)) (grownCap (W7.iter dg pos).drew 10 0 21) (w.heap.size+1) JB Hv (by simp);rw[Fj];simp only[zJ];refine hK.out _ _ ?_ (fun _=>?_)
        ·rw[zY _ _ _ _ _ (fun h=>absurd h (by simp))];show((W7.iter dg pos).alloc _).cell? _=_;rw[dK (by show _<(W7.alloc _).heap.size;simp;omega)];exact jo
        clear hK K;refine bX ?_ _;go_wp2;refine bodyPost_ret (v := .pointer (some ⟨w.heap.size+1,0,none⟩)) ?_ rfl ?_
        ·simp[results,results43,go_sem]
        ·have HD:(dg:ByteArray).data.toList=VP dg.data.toList:=by unfold VP;rw[if_neg d0]
         have HK:=Jt (fi:=fi) (ne:=ne) HD r3 r4 r5 (p1 (by omega)) (p2 (by omega)) (p3 (by omega)) Bf.out UJ.out;rw[show ra=true from r1,show rb=true from r2];exact QV (nx:=fi) OM KH hz7 JB (by rw[if_pos n0]) aa.out HD HK (s13.trans eJ) eJ HZW.out Uf Uu Mr HQ1.out Tq.out
       ·have yax:((cnt:Int) !=10)=true:=by simp;omega
        have HF:=z7 (BO (ra:=ra) (rb:=rb) (fi:=fi) (ne:=ne) (mi:=mi) (po:=po) (gr:=gr) d0 (fun h=>dw (UJ.out.symm.trans h)));go_wp2;go_ret;refine⟨KH.trans (UK _ _ _ _ (by omega)),?_⟩;rw[HF.out];exact rfl
    ·have n0':((ne:Int)==0)=false:=by simpa using n0
     by_cases d0:dg.data.toList=[]
     ·have d0':dg.toList.isEmpty=true:=by rw[toList_eq,d0];rfl
      obtain⟨g0,g1,g2,g3,g4,g5,g6⟩:=Hs.b;obtain⟨a0,OL,a2,a3,a4,a5,a6,a7,a8⟩:=Hs.a;go_wp2_with fail;refine vZ ?_;intro W6 GY;have hR6:RW w.heap.size (.slice ca cn ck) (.slice oa on ok) (.slice a1 n1 k1) (.slice a9 n9 k9) mi po gr fi ne ((ne:Nat):Int) ⟨#[48,49,50,51,52,53,54,55,56,57]⟩ W6:=by rw[GY];exact(Hs.zo7 _)
      have Fk:Below w.heap.size wr W6:=by rw[GY];(repeat(first|(with_reducible exact zk _ _)|(with_reducible refine zF ?_ ?_ _;rotate_left;focus(first|(simp;done)|(simp;omega)))))
      have s46:ZE w.heap.size wr W6:=by rw[GY];exact((ZE.refl _ _).set _ _ (.inl rfl))
      have hz6:w.heap.size+2<=W6.heap.size:=by have:=Fk.size;omega
      clear a0 OL a2 a3 a4 a5 a6 a7 a8 g0 g1 g2 g3 g4 g5 g6 GY;have YA:=dM.trans Fk;have hT6:=Z0 hT YA;refine(Tryz.utf8_ValidString ⟨#[48,49,50,51,52,53,54,55,56,57]⟩ W6 (by first|omega|decide) hT6).mono ?_;rintro e W7 ⟨rfl,jD⟩
      cases hv:zE (⟨#[48,49,50,51,52,53,54,55,56,57]⟩:ByteArray).data.toList
      ·exact absurd hv (by decide)
      ·have Ci:=z7 hv;clear hv;have OM:=hR6.below jD (by omega);have KH:Below w.heap.size w W7:=YA.trans (jD.mono (by omega));have eJ:ZE w.heap.size W3 W7:=(s34.trans s46).trans (ZE.below jD);have hz7:w.heap.size+2<=W7.heap.size:=by have:=jD.size;omega
       obtain⟨a0,OL,a2,a3,a4,a5,a6,a7,a8⟩:=OM.a;go_wp2_with fail;refine(Tryz.utf8_RuneCountInString ⟨#[48,49,50,51,52,53,54,55,56,57]⟩ W7 (by first|omega|decide)).mono ?_;rintro e W8 ⟨rfl,pos,rfl⟩;have Uv:(uH (⟨#[48,49,50,51,52,53,54,55,56,57]⟩:ByteArray).data.toList).2=(⟨#[48,49,50,51,52,53,54,55,56,57]⟩:ByteArray).data.toList.length:=(bK _).1 Ci.out;have U4:=gg ⟨#[48,49,50,51,52,53,54,55,56,57]⟩ (⟨#[48,49,50,51,52,53,54,55,56,57]⟩:ByteArray).size 0 (by omega) (by omega) (by rw[zg,Uv,xA];simp);rw[zg] at U4;rw[show zD ⟨#[48,49,50,51,52,53,54,55,56,57]⟩=(uH (⟨#[48,49,50,51,52,53,54,55,56,57]⟩:ByteArray).data.toList).1.length from U4.1];have BK:=z7 U4;have Bf:=z7 Uv;clear U4 Uv;obtain⟨cnt,ZY⟩:∃ n,(uH (⟨#[48,49,50,51,52,53,54,55,56,57]⟩:ByteArray).data.toList).1.length=n:=⟨_,rfl⟩;rw[ZY];have UJ:=z7 ZY;clear ZY;by_cases dw:cnt=10
       ·subst dw;have US:zG ⟨#[48,49,50,51,52,53,54,55,56,57]⟩ (⟨#[48,49,50,51,52,53,54,55,56,57]⟩:ByteArray).size 0 #[]=((xm (⟨#[48,49,50,51,52,53,54,55,56,57]⟩:ByteArray).data.toList).map (zy .i32)).toArray:=by have:=BK.out.2 #[];simpa using this
        have JB:(xm (⟨#[48,49,50,51,52,53,54,55,56,57]⟩:ByteArray).data.toList).length=10:=by
         have:=congrArg zI (Zr _ (⟨#[48,49,50,51,52,53,54,55,56,57]⟩:ByteArray).data.toList (zj _));rw[zU,UJ.out] at this;exact this
        obtain⟨rs,ZM⟩:∃ r:List Int,r=xm (⟨#[48,49,50,51,52,53,54,55,56,57]⟩:ByteArray).data.toList:=⟨_,rfl⟩;rw[←ZM] at US JB;have hcv:∀ W:World,(convert 9 147 (.string ⟨#[48,49,50,51,52,53,54,55,56,57]⟩)).run Tryz.prog W = .ok (.slice (some ⟨W.heap.size,0,none⟩) 10 (grownCap W 10 0 21)) (W.drew.alloc (.cells ((rs.map (zy .i32)).toArray++zu (grownCap W 10 0 21 - 10) (.int .i32 0)) 21)):=by
         intro W;have:=run_runes_of_string (P:=Tryz.prog) W 9 147 21 ⟨#[48,49,50,51,52,53,54,55,56,57]⟩ underlying9 underlying147 underlying21 (by rw[US];simp;omega);rw[US] at this;simpa[JB] using this
        have HRF:=z7 US;have aa:=z7 ZM;clear US ZM;go_wp2_with fail;have jo:(W7.iter ⟨#[48,49,50,51,52,53,54,55,56,57]⟩ pos).drew.cell? ⟨w.heap.size,7,none⟩=some (.string ⟨#[48,49,50,51,52,53,54,55,56,57]⟩):=by
         show(W7.alloc _).cell? _=_;rw[zv _ _ _ (by simp;omega)];exact a7
        refine rt (fun W':World=>W'.cell? ⟨w.heap.size,7,none⟩=some (.string ⟨#[48,49,50,51,52,53,54,55,56,57]⟩)) [0,1,2,3,4,5] 2 jo ?_;(iterate 6 ((first|refine ty ?_|refine tn ?_);try simp only[pl]))
        refine xq ?_;refine kR 6 (fun K hK=>?_);go_simp;refine hK.out _ _ ?_ (fun _=>?_)
        ·show((W7.iter ⟨#[48,49,50,51,52,53,54,55,56,57]⟩ pos).alloc _).cell? _=_;rw[dK (by show _<(W7.alloc _).heap.size;simp;omega)];exact jo
        clear hK K;refine kR 7 (fun K hK=>?_);go_simp;have ON:(((W7.iter ⟨#[48,49,50,51,52,53,54,55,56,57]⟩ pos).alloc (.cells ((rs.map (zy .i32)).toArray++zu (grownCap (W7.iter ⟨#[48,49,50,51,52,53,54,55,56,57]⟩ pos).drew 10 0 21 - 10) (.int .i32 0)) 21)).drew.drew).heap[w.heap.size+1]? = W7.heap[w.heap.size+1]? := by
         show((W7.alloc _).alloc _).heap[w.heap.size+1]? = _;rw[zx _ _ _ (by simp;omega),zx _ _ _ (by omega)]
        have Hv:=ON.trans OM.hB;have Fj:=QU (W7.iter ⟨#[48,49,50,51,52,53,54,55,56,57]⟩ pos) rs (zu (grownCap (W7.iter ⟨#[48,49,50,51,52,53,54,55,56,57]⟩ pos).drew 10 0 21 - 10) (.int .i32 0)) (grownCap (W7.iter ⟨#[48,49,50,51,52,53,54,55,56,57]⟩ pos).drew 10 0 21) (w.heap.size+1) JB Hv (by simp);rw[Fj];simp only[zJ];refine hK.out _ _ ?_ (fun _=>?_)
        ·rw[zY _ _ _ _ _ (fun h=>absurd h (by simp))];show((W7.iter ⟨#[48,49,50,51,52,53,54,55,56,57]⟩ pos).alloc _).cell? _=_;rw[dK (by show _<(W7.alloc _).heap.size;simp;omega)];exact jo
        clear hK K;refine bX ?_ _;go_wp2;refine bodyPost_ret (v := .pointer (some ⟨w.heap.size+1,0,none⟩)) ?_ rfl ?_
        ·simp[results,results43,go_sem]
        ·have HD:(⟨#[48,49,50,51,52,53,54,55,56,57]⟩:ByteArray).data.toList=VP dg.data.toList:=by rw[d0];rfl
         have HK:=Jt (fi:=fi) (ne:=ne) HD r3 r4 r5 (p1 (by omega)) (p2 (by omega)) (p3 (by omega)) Bf.out UJ.out;rw[show ra=true from r1,show rb=true from r2];exact QV (nx:=ne) OM KH hz7 JB (by rw[if_neg n0]) aa.out HD HK (s13.trans eJ) eJ HZW.out Uf Uu Mr HQ1.out Tq.out
       ·exact absurd (UJ.out.symm.trans BN) dw
     ·have d0':dg.toList.isEmpty=false:=by rw[toList_eq];simpa using d0
      obtain⟨g0,g1,g2,g3,g4,g5,g6⟩:=Hs.b;obtain⟨a0,OL,a2,a3,a4,a5,a6,a7,a8⟩:=Hs.a;go_wp2_with fail;refine vZ ?_;intro W6 GY;have hR6:RW w.heap.size (.slice ca cn ck) (.slice oa on ok) (.slice a1 n1 k1) (.slice a9 n9 k9) mi po gr fi ne ((ne:Nat):Int) dg W6:=by rw[GY];exact Hs
      have Fk:Below w.heap.size wr W6:=by rw[GY];(repeat(first|(with_reducible exact zk _ _)|(with_reducible refine zF ?_ ?_ _;rotate_left;focus(first|(simp;done)|(simp;omega)))))
      have s46:ZE w.heap.size wr W6:=by rw[GY];exact(ZE.refl _ _)
      have hz6:w.heap.size+2<=W6.heap.size:=by have:=Fk.size;omega
      clear a0 OL a2 a3 a4 a5 a6 a7 a8 g0 g1 g2 g3 g4 g5 g6 GY;have YA:=dM.trans Fk;have hT6:=Z0 hT YA;refine(Tryz.utf8_ValidString dg W6 (by first|omega|decide) hT6).mono ?_;rintro e W7 ⟨rfl,jD⟩
      cases hv:zE (dg:ByteArray).data.toList
      ·have HF:=z7 (BM (ra:=ra) (rb:=rb) (fi:=fi) (ne:=ne) (mi:=mi) (po:=po) (gr:=gr) hv);clear hv;go_wp2;go_ret;refine⟨YA.trans (jD.mono (by omega)),?_⟩;rw[HF.out];exact rfl
      ·have Ci:=z7 hv;clear hv;have OM:=hR6.below jD (by omega);have KH:Below w.heap.size w W7:=YA.trans (jD.mono (by omega));have eJ:ZE w.heap.size W3 W7:=(s34.trans s46).trans (ZE.below jD);have hz7:w.heap.size+2<=W7.heap.size:=by have:=jD.size;omega
       obtain⟨a0,OL,a2,a3,a4,a5,a6,a7,a8⟩:=OM.a;go_wp2_with fail;refine(Tryz.utf8_RuneCountInString dg W7 (by first|omega|decide)).mono ?_;rintro e W8 ⟨rfl,pos,rfl⟩;have Uv:(uH (dg:ByteArray).data.toList).2=(dg:ByteArray).data.toList.length:=(bK _).1 Ci.out;have U4:=gg dg (dg:ByteArray).size 0 (by omega) (by omega) (by rw[zg,Uv,xA];simp);rw[zg] at U4;rw[show zD dg=(uH (dg:ByteArray).data.toList).1.length from U4.1];have BK:=z7 U4;have Bf:=z7 Uv;clear U4 Uv;obtain⟨cnt,ZY⟩:∃ n,(uH (dg:ByteArray).data.toList).1.length=n:=⟨_,rfl⟩;rw[ZY];have UJ:=z7 ZY;clear ZY;by_cases dw:cnt=10
       ·subst dw;have US:zG dg (dg:ByteArray).size 0 #[]=((xm (dg:ByteArray).data.toList).map (zy .i32)).toArray:=by have:=BK.out.2 #[];simpa using this
        have JB:(xm (dg:ByteArray).data.toList).length=10:=by
         have:=congrArg zI (Zr _ (dg:ByteArray).data.toList (zj _));rw[zU,UJ.out] at this;exact this
        obtain⟨rs,ZM⟩:∃ r:List Int,r=xm (dg:ByteArray).data.toList:=⟨_,rfl⟩;rw[←ZM] at US JB;have hcv:∀ W:World,(convert 9 147 (.string dg)).run Tryz.prog W = .ok (.slice (some ⟨W.heap.size,0,none⟩) 10 (grownCap W 10 0 21)) (W.drew.alloc (.cells ((rs.map (zy .i32)).toArray++zu (grownCap W 10 0 21 - 10) (.int .i32 0)) 21)):=by
         intro W;have:=run_runes_of_string (P:=Tryz.prog) W 9 147 21 dg underlying9 underlying147 underlying21 (by rw[US];simp;omega);rw[US] at this;simpa[JB] using this
        have HRF:=z7 US;have aa:=z7 ZM;clear US ZM;go_wp2_with fail;have jo:(W7.iter dg pos).drew.cell? ⟨w.heap.size,7,none⟩=some (.string dg):=by
         show(W7.alloc _).cell? _=_;rw[zv _ _ _ (by simp;omega)];exact a7
        refine rt (fun W':World=>W'.cell? ⟨w.heap.size,7,none⟩=some (.string dg)) [0,1,2,3,4,5] 2 jo ?_;(iterate 6 ((first|refine ty ?_|refine tn ?_);try simp only[pl]))
        refine xq ?_;refine kR 6 (fun K hK=>?_);go_simp;refine hK.out _ _ ?_ (fun _=>?_)
        ·show((W7.iter dg pos).alloc _).cell? _=_;rw[dK (by show _<(W7.alloc _).heap.size;simp;omega)];exact jo
        clear hK K;refine kR 7 (fun K hK=>?_);go_simp;have ON:(((W7.iter dg pos).alloc (.cells ((rs.map (zy .i32)).toArray++zu (grownCap (W7.iter dg pos).drew 10 0 21 - 10) (.int .i32 0)) 21)).drew.drew).heap[w.heap.size+1]? = W7.heap[w.heap.size+1]? := by
         show((W7.alloc _).alloc _).heap[w.heap.size+1]? = _;rw[zx _ _ _ (by simp;omega),zx _ _ _ (by omega)]
        have Hv:=ON.trans OM.hB;have Fj:=QU (W7.iter dg pos) rs (zu (grownCap (W7.iter dg pos).drew 10 0 21 - 10) (.int .i32 0)) (grownCap (W7.iter dg pos).drew 10 0 21) (w.heap.size+1) JB Hv (by simp);rw[Fj];simp only[zJ];refine hK.out _ _ ?_ (fun _=>?_)
        ·rw[zY _ _ _ _ _ (fun h=>absurd h (by simp))];show((W7.iter dg pos).alloc _).cell? _=_;rw[dK (by show _<(W7.alloc _).heap.size;simp;omega)];exact jo
        clear hK K;refine bX ?_ _;go_wp2;refine bodyPost_ret (v := .pointer (some ⟨w.heap.size+1,0,none⟩)) ?_ rfl ?_
        ·simp[results,results43,go_sem]
        ·have HD:(dg:ByteArray).data.toList=VP dg.data.toList:=by unfold VP;rw[if_neg d0]
         have HK:=Jt (fi:=fi) (ne:=ne) HD r3 r4 r5 (p1 (by omega)) (p2 (by omega)) (p3 (by omega)) Bf.out UJ.out;rw[show ra=true from r1,show rb=true from r2];exact QV (nx:=ne) OM KH hz7 JB (by rw[if_neg n0]) aa.out HD HK (s13.trans eJ) eJ HZW.out Uf Uu Mr HQ1.out Tq.out
       ·have yax:((cnt:Int) !=10)=true:=by simp;omega
        have HF:=z7 (BO (ra:=ra) (rb:=rb) (fi:=fi) (ne:=ne) (mi:=mi) (po:=po) (gr:=gr) d0 (fun h=>dw (UJ.out.symm.trans h)));go_wp2;go_ret;refine⟨KH.trans (UK _ _ _ _ (by omega)),?_⟩;rw[HF.out];exact rfl
 ·have HF:=z7 (eK (gr:=gr) (dg:=dg.data.toList) Q6);go_wp2;all_goals first
   |(exfalso;refine Q6 ⟨by assumption,by assumption,by assumption,by assumption,?_⟩;rename_i hh;simp_all;done)
   |(refine bodyPost_ret (v := .pointer none) ?_ rfl ?_
     focus(simp[results,results43,go_sem, *])
     refine⟨ZV.trans ((zk _ _).setCell (p:=⟨w.heap.size+1,1,none⟩) (by simp) _),?_⟩;first
      | rw[HF.out]
      |(have hf:=HF.out;rw[‹ra=true›,‹rb=true›] at hf;rw[hf])
     exact rfl)
theorem rZ(l:List UInt8):(Zb l).1<=1114111:=by
 have hb:=(l.getD 0 0).toNat_lt;unfold Zb Lib.decodeN;repeat' split
 all_goals (simp only[];omega)
theorem UG:∀ (n:Nat) (l:List UInt8),l.length<=n->∀ x∈xm l,Ww x
 | 0,l,h,x,hx=>by
  have:l=[]:=zL (by omega);subst this;rw[jr] at hx;cases hx
 | n+1,l,h,x,hx=>by
  by_cases hl:l=[]\/xh l=0
  ·rw[xm,dif_pos hl] at hx;cases hx
  ·simp only[not_or] at hl;rw[dY hl.1 hl.2] at hx;have hp:=zR.2 hl.1;rcases List.mem_cons.1 hx with rfl|hx
   ·have:=rZ l;exact⟨by omega,by omega⟩
   ·exact UG n _ (by simp;omega) x hx
theorem TK(c:UInt8)(h:xJ c=true):48<=c.toNat/\c.toNat<=57:=by
 have:=(vR c).1 h;omega
theorem qZ.later{w w1:World}{c:Value}{r:Bool}{Q:World->Value->Prop}(h:qZ w c r Q)(hb:Below w.heap.size w w1):qZ w1 c r Q:=by
 intro W hW;refine(h W (hb.trans (hW.mono hb.size))).mono ?_;rintro e W2 ⟨⟨a,n,k,he,hQ⟩,xF⟩;exact⟨⟨a,n,k,he,fun W3 h3=>hQ W3 ⟨h3.1,fun j hj=>h3.2 j (hj.imp (fun q=>zZ q hb.size) id)⟩⟩,xF⟩
def wrX(l:List UInt8)(mi po gr:Int)(fi ne:Nat)(dg:List UInt8):List UInt8:=ZR (YH l) (xW (vL l++u9 l)) (u9 l).length mi po gr fi (if ne=0 then fi else ne) (xm (VP dg))
def U0(kn:Bool)(l:List UInt8)(mi po gr:Int)(fi ne:Nat)(dg:List UInt8):List UInt8 :=
 if kn && uD l then wrX l mi po gr fi ne dg else []
def U1(kn:Bool)(l:List UInt8):Int:=if kn then if uD l then 0 else 10 else 8
theorem RF{w:World}{base size n:Nat}{e:TypeId}{v:Value}{xs:List Value}(h:w.ownsRow base e size v n xs)(hn:0<n) :
  ∃ g cap,v = .slice (some ⟨g,0,none⟩) n cap/\base<=g/\g<w.heap.size/\n<=cap/\∀ j,j<n*size->w.cell? ⟨g,j,none⟩=xs[j]? := by
 have xD:=h.lt;rcases h.2 with⟨_,h0⟩|⟨g,cap,cur,hv,hg,hh,h1,_,_,ht⟩
 ·omega
 ·subst hv;exact⟨g,cap,rfl,hg,(xD g rfl).2,h1,fun j hj=>h.cellAt j hj⟩
theorem eG(l:List UInt8)(h:l.all xJ=true):∀ x∈xW l,0<=x/\x<=9:=by
 intro x hx;obtain⟨c,hc,rfl⟩:=List.mem_map.1 hx;have:=TK c (List.all_eq_true.1 h c hc);omega
theorem KI{l:List UInt8}(h:uD l=true):(vL l).all xJ=true/\(u9 l).all xJ=true/\0<(vL l).length/\(vL l).length+(u9 l).length<=30:=by
 simp only[uD,Qj,zf,zM,decide_eq_true_eq] at h;have hw:=h.1.1.1.1;have hf:=h.1.1.1.2;simp only[vW,zf] at hw;refine⟨hw.1,?_,?_,h.1.1.2⟩
 ·rcases hf with hf|hf
  ·have hp:¬(VL l).idxOf 46<(VL l).length:=by simpa[YI] using hf
   have:u9 l=[]:=by unfold u9;exact List.drop_of_length_le (by omega)
   rw[this];rfl
  ·simp only[vW,zf] at hf;exact hf.1
 ·have:=hw.2
  cases hl:vL l with
  | nil=>rw[hl] at this;cases this
  | cons a b=>simp
theorem LJ{ra rb:Bool}{mi po gr:Int}{fi ne:Nat}{dg:List UInt8}(h:vM ra rb mi po gr fi ne dg=true) :
  fu mi=true/\fu po=true/\fu gr=true/\(dg=[]\/(uH dg).1.length=10)/\fi<=9/\ne<=9:=by
 simp only[vM,zf,zM,decide_eq_true_eq] at h;refine⟨h.2.2.1,h.2.2.2.1,h.2.2.2.2.1,?_,by omega,by omega⟩;rcases h.2.2.2.2.2.2.2.2.1 with h1|h1
 ·exact .inl (zL (by omega))
 ·refine .inr ?_;simp at h1;omega
theorem OO{r:Int}(h:fu r=true):Ww r:=by
 have h1:(0<=r/\r<=1114111)/\(r<55296\/57343<r):=by unfold fu at h;simp at h;omega
 exact⟨by omega,by omega⟩
theorem OP(g:Nat)(v:Value)(l:List UInt8)(mi po gr:Int)(fi ne:Nat)(dg:List UInt8)(w:World)(B:Nat)(ra rb:Bool)
  (hk:vM ra rb mi po gr fi ne dg=true) (hn:uD l=true) (hX:Ek w g mi po gr fi ((if ne=0 then fi else ne:Nat):Int) (xm (VP dg))) (hg:g<w.heap.size)
  (ho:w.ownsRow B 5 1 v ((vL l).length+(u9 l).length) (xw (vL l++u9 l))) :
  Calls Tryz.prog 45 #[.pointer (some ⟨g,0,none⟩),.agg #[.bool (YH l),v,.int .i64 ((u9 l).length:Int)]] w fun e w' =>
   e = .returned (xk (wrX l mi po gr fi ne dg))/\Below w.heap.size w w':=by
 obtain⟨p1,p2,p3,hd,f1,f2⟩:=LJ hk;obtain⟨d1,d2,hw,h30⟩:=KI hn;obtain⟨gd,cap,rfl,_,JY,dQ,hc⟩:=RF ho (by omega);unfold wrX;have qY:(vL l++u9 l).all xJ=true:=by rw[List.all_append,d1,d2];rfl
 refine BL g gd 0 cap (u9 l).length _ (YH l) (xW (vL l++u9 l)) mi po gr fi (if ne=0 then fi else ne) (xm (VP dg)) w hX hg ?_ JY (by simp[xW]) (by omega) dQ (by omega)
  (eG _ qY) ⟨OO p1,OO p2,OO p3,fun x hx=>UG _ _ (zj _) x hx⟩ (by omega) (by intro h;split<;>omega) (by split<;>omega)
 intro j hj;refine⟨_,rfl,?_⟩;have H8:j<(vL l++u9 l).length:=by simpa[xW] using hj
 rw[vS,hc j (by simp at H8;omega)];have hj3:j<(xW (vL l++u9 l)).length:=hj;simp only[xw,xW,List.getElem?_map,zS];rw[List.getElem?_eq_getElem H8];rfl
def Fg(t:List UInt8)(v:Value)(w:World)(e:Ending)(w':World):Prop:=e = .returned (.tuple #[xk t,v])/\Below w.heap.size w w'
structure Ef(w:World):Prop where
 eF:zH 3 4 w
 err:KQ w
theorem Ef.below{w w':World}(h:Ef w)(hb:Below w.heap.size w w'):Ef w':=⟨Z0 h.eF hb,h.err.below hb⟩
theorem LG(s:ByteArray)(c o:Value)(ra rb:Bool)(mi po gr:Int)(fi ne:Nat)(dg:ByteArray)(Qc Qo:World->Value->Prop)(w:World)(hs:s.size<=1000000)(hd:dg.size<=1000000)(LV:fi<=255)(xc:ne<=255)
  (hc:qZ w c ra Qc) (ho:qZ w o rb Qo) (BR:(∃ a n k,c = .slice a n k)/\∃ a n k,o = .slice a n k) (hT:Ef w) :
  Calls Tryz.prog 29 #[.string s,Dh c o mi po gr fi ne dg] w
   (Fg (U0 (vM ra rb mi po gr fi ne dg.data.toList) s.data.toList mi po gr fi ne dg.data.toList) (OJ (U1 (vM ra rb mi po gr fi ne dg.data.toList) s.data.toList)) w):=by
 have HC:=z7 hc;have HO:=z7 ho;have eD:=z7 BR;have HT:=z7 hT;clear hc ho BR hT;go_enter func29,ntmps29;go_wp2_with fail;refine vZ ?_;intro W hW;have hb:Below w.heap.size w W:=by rw[hW];exact(zk _ _).alloc (zj _) _
 clear hW;refine(Fq c o ra rb mi po gr fi ne dg Qc Qo W hd LV xc (HC.out.later hb) (HO.out.later hb) eD.out (HT.out.below hb).eF).mono ?_;rintro e w1 ⟨xB,vV⟩;have vO:Below w.heap.size w w1:=hb.trans (xB.mono hb.size)
 cases hk:vM ra rb mi po gr fi ne dg.data.toList
 ·rw[hk,if_neg (by simp)] at vV;subst vV;have ht:U0 (vM ra rb mi po gr fi ne dg.data.toList) s.data.toList mi po gr fi ne dg.data.toList=[]:=by rw[hk];rfl
  have eB:U1 (vM ra rb mi po gr fi ne dg.data.toList) s.data.toList=8:=by rw[hk];rfl
  have Bk:=z7 ht;have HCD:=z7 eB;clear ht eB hk hb xB;go_wp2;go_ret2
  refine⟨?_,vO⟩;rw[Bk.out,HCD.out];rfl
 ·rw[hk,if_pos rfl] at vV;obtain⟨g,cv,ov,rfl,A1,Ze,hX,-⟩:=vV;have HX:=z7 hX;have HK:=z7 hk;clear hX hk;go_wp2_with fail;refine(Y4 s _ hs).mono ?_;rintro e w2 ⟨b,v,k,rfl,⟨va,vn,vk,rfl⟩,xF,vV⟩;have uK:=vO.trans (xF.mono vO.size);have hX2:=HX.out.below xF Ze;have ft:g<w2.heap.size:=zZ Ze xF.size
  cases hn:uD s.data.toList
  ·have ht:U0 (vM ra rb mi po gr fi ne dg.data.toList) s.data.toList mi po gr fi ne dg.data.toList=[]:=by unfold U0;rw[HK.out,hn];rfl
   have eB:U1 (vM ra rb mi po gr fi ne dg.data.toList) s.data.toList=10:=by unfold U1;rw[HK.out,hn];rfl
   have Bk:=z7 ht;have HCD:=z7 eB;clear ht eB hn vV xF hb xB hX2;go_wp2;go_ret2
   refine⟨?_,uK.alloc (uK.size) _⟩;rw[Bk.out,HCD.out];rfl
  ·have ht:U0 (vM ra rb mi po gr fi ne dg.data.toList) s.data.toList mi po gr fi ne dg.data.toList=wrX s.data.toList mi po gr fi ne dg.data.toList:=by unfold U0;rw[HK.out,hn];rfl
   have eB:U1 (vM ra rb mi po gr fi ne dg.data.toList) s.data.toList=0:=by unfold U1;rw[HK.out,hn];rfl
   have Bk:=z7 ht;have HCD:=z7 eB;obtain⟨rfl,rfl,xV⟩:=vV hn;have HN:=z7 hn;have HO2:=z7 xV;have TJ:=z7 hX2;clear ht eB hn vV hb xB hX2 xV;go_wp2_with fail;refine vZ ?_;intro W3 kT;have Ed:Below w2.heap.size w2 W3:=by rw[kT];exact(zk _ _).alloc (zj _) _
   clear kT;refine(OP g (.slice va vn vk) s.data.toList mi po gr fi ne dg.data.toList W3 _ ra rb HK.out HN.out (TJ.out.below Ed ft) (zZ ft Ed.size) (fH HO2.out Ed)).mono ?_;rintro e w4 ⟨rfl,zj2⟩;have dM:=(uK.trans (Ed.mono uK.size)).trans (zj2.mono (zO uK.size Ed.size));clear Ed zj2 uK xF;go_wp2;go_ret2
   refine⟨?_,dM⟩;rw[Bk.out,HCD.out];rfl
theorem LF(s:ByteArray)(c o:Value)(ra rb:Bool)(mi po gr:Int)(fi ne:Nat)(dg:ByteArray)(Qc Qo:World->Value->Prop)(w:World)(hs:s.size<=1000000)(hd:dg.size<=1000000)(LV:fi<=255)(xc:ne<=255)
  (hc:qZ w c ra Qc) (ho:qZ w o rb Qo) (BR:(∃ a n k,c = .slice a n k)/\∃ a n k,o = .slice a n k) (hT:Ef w) :
  Calls Tryz.prog 16 #[.string s,Dh c o mi po gr fi ne dg] w
   (Fg (U0 (vM ra rb mi po gr fi ne dg.data.toList) s.data.toList mi po gr fi ne dg.data.toList) (.int .i64 (U1 (vM ra rb mi po gr fi ne dg.data.toList) s.data.toList)) w):=by
 have vY:=fun W h1 h2 h3=>LG s c o ra rb mi po gr fi ne dg Qc Qo W hs hd LV xc h1 h2 BR h3
 generalize U0 (vM ra rb mi po gr fi ne dg.data.toList) s.data.toList mi po gr fi ne dg.data.toList=tx at *;generalize U1 (vM ra rb mi po gr fi ne dg.data.toList) s.data.toList=cd at *;have ur:=z7 vY;clear vY;have HC:=z7 hc;have HO:=z7 ho;have eD:=z7 BR;have HT:=z7 hT;clear hc ho BR hT;go_enter func16,ntmps16;go_wp2_with fail;refine vZ ?_;intro W hW;have hb:Below w.heap.size w W:=by rw[hW];exact(zk _ _).alloc (zj _) _
 clear hW;refine(ur.out W (HC.out.later hb) (HO.out.later hb) (HT.out.below hb)).mono ?_;rintro e w1 ⟨rfl,xB⟩;have vO:Below w.heap.size w w1:=hb.trans (xB.mono hb.size);clear hb xB;go_wp2_with fail;refine(Ev cd _ (HT.out.below vO).err).mono ?_;rintro e w2 ⟨rfl,xF⟩;have uK:=vO.trans (xF.mono vO.size);clear xF vO;go_wp2;go_ret2
 exact⟨rfl,uK⟩
theorem Jz{l:List UInt8}{f:Fo}(h:jF l = .ok f):uJ l = .ok f/\ZP f=none:=by
 unfold jF at h
 cases hp:uJ l with
 | error e=>rw[hp] at h;cases h
 | ok g =>
  rw[hp] at h;dsimp only at h
  cases hc:ZP g with
  | some e=>rw[hc] at h;cases h
  | none=>rw[hc] at h;cases h;exact⟨rfl,hc⟩
theorem jk.below{w w':World}(h:jk w)(hb:Below w.heap.size w w'):jk w' :=
 h.fr (F:=xH) (F':=xH) (B:=2+1) (Fr.of hb) (fun _ q=>q.elim) (Nat.lt_succ_self _)
structure Ya(w:World):Prop where
 tabs:Ef w
 names:qd w
 RD:jk w
theorem Ya.below{w w':World}(h:Ya w)(hb:Below w.heap.size w w'):Ya w':=⟨h.tabs.below hb,h.names.below hb,h.RD.below hb⟩
structure BS(P q g mb:Nat)(f:Fo)(vC vI:Value)(rs:List (Value×Value))(mi po gr:Int)(fi ne:Nat)(dg:List UInt8)(cv ov:Value)(w:World):Prop where
 p0:w.cell? ⟨P,0,none⟩=some (.pointer (some ⟨q,0,none⟩))
 p1:w.cell? ⟨P,1,none⟩=some (.pointer (some ⟨g,0,none⟩))
 prog:qT q (MkS.all f) vC vI rs mb w
 gl:g<w.heap.size
 loc:Ek w g mi po gr fi ((if ne=0 then fi else ne:Nat):Int) (xm (VP dg))
 g0:w.cell? ⟨g,0,none⟩=some cv
 g1:w.cell? ⟨g,1,none⟩=some ov
theorem BS.below{P q g mb:Nat}{f:Fo}{vC vI:Value}{rs:List (Value×Value)}{mi po gr:Int}{fi ne:Nat}{dg:List UInt8}{cv ov:Value}{w w':World}(h:BS P q g mb f vC vI rs mi po gr fi ne dg cv ov w)(hb:Below w.heap.size w w'):BS P q g mb f vC vI rs mi po gr fi ne dg cv ov w':=by
 have hf:Fr xH xH w w':=Fr.of hb;exact⟨hf.cell h.p0 id,hf.cell h.p1 id,h.prog.below hb,zZ h.gl hb.size,h.loc.below hb h.gl,hf.cell h.g0 id,hf.cell h.g1 id⟩
def zov(kn:Bool)(r:Except (Nat×Nat) Fo)(mi po gr:Int)(fi ne:Nat)(dg:List UInt8)(Qc Qo:World->Value->Prop)(w:World)(e:Ending)(w':World):Prop :=
 Below w.heap.size w w' /\
 if kn=false then e = .returned (.tuple #[.pointer none,OJ 8])
 else match r with
  | .error (n,a)=>∃ b,e = .returned (.tuple #[.pointer none,.iface 101 (.pointer (some ⟨b,0,none⟩))])/\w'.cell? ⟨b,0,none⟩=some (.int .i64 n)/\w'.cell? ⟨b,1,none⟩=some (.int .i64 a)
  | .ok f=>∃ P q g mb vC vI rs cv ov,e = .returned (.tuple #[.pointer (some ⟨P,0,none⟩),.nilIface])/\BS P q g mb f vC vI rs mi po gr fi ne dg cv ov w'/\(∀ W,Below w'.heap.size w' W->Qc W cv)/\∀ W,Below w'.heap.size w' W->Qo W ov
theorem Eb(s:ByteArray)(c o:Value)(ra rb:Bool)(mi po gr:Int)(fi ne:Nat)(dg:ByteArray)(Qc Qo:World->Value->Prop)(w:World)(hs:s.size<=1000000)(hd:dg.size<=1000000)(LV:fi<=255)(xc:ne<=255)
  (hc:qZ w c ra Qc) (ho:qZ w o rb Qo) (BR:(∃ a n k,c = .slice a n k)/\∃ a n k,o = .slice a n k) (hE:Ya w) :
  Calls Tryz.prog 33 #[.string s,Dh c o mi po gr fi ne dg] w (zov (vM ra rb mi po gr fi ne dg.data.toList) (jF s.data.toList) mi po gr fi ne dg.data.toList Qc Qo w):=by
 have HC:=z7 hc;have HO:=z7 ho;have eD:=z7 BR;have HE:=z7 hE;clear hc ho BR hE;go_enter func33,ntmps33;go_wp2_with fail;refine vZ ?_;intro W hW;have hb:Below w.heap.size w W:=by rw[hW];exact(zk _ _).alloc (zj _) _
 clear hW;refine(Fq c o ra rb mi po gr fi ne dg Qc Qo W hd LV xc (HC.out.later hb) (HO.out.later hb) eD.out (HE.out.below hb).tabs.eF).mono ?_;rintro e w1 ⟨xB,vV⟩;have vO:Below w.heap.size w w1:=hb.trans (xB.mono hb.size);obtain⟨kn,UA⟩:=xX (vM ra rb mi po gr fi ne dg.data.toList);rw[UA] at vV;have A9:=z7 UA;clear UA
 cases kn
 ·rw[if_neg (by simp)] at vV;subst vV;clear hb xB;go_wp2;go_ret2
  refine⟨vO,?_⟩;rw[if_pos A9.out];rfl
 ·rw[if_pos rfl] at vV;obtain⟨g,cv,ov,rfl,A1,Ze,hX,c0,c1,hqc,hqo⟩:=vV;have HX:=z7 hX;have HQC:=z7 hqc;have HQO:=z7 hqo;have HC0:=z7 c0;have HC1:=z7 c1;clear hX hqc hqo hb xB c0 c1;obtain⟨r,hr⟩:=xX (jF s.data.toList);have HRM:=z7 (cZ s w1 (by omega) (HE.out.below vO).tabs.eF (HE.out.below vO).names);rw[hr] at HRM ⊢;have HR:=z7 hr;clear hr;go_wp2_with fail;refine HRM.out.mono ?_;rintro e w2 ⟨hq,xF⟩;have uK:=vO.trans (xF.mono vO.size);clear HRM
  cases r with
  | error en =>
   obtain⟨n,a⟩:=en;obtain⟨v,b,rfl,⟨va,vn,vk,rfl⟩,f0,f1⟩:=hq;clear xF;go_wp2;go_ret2
   refine⟨uK,?_⟩;rw[if_neg (by rw[A9.out];simp),HR.out];exact⟨b,rfl,f0,f1⟩
  | ok f =>
   obtain⟨⟨a,k,vs,rfl,vD,XI⟩,JY⟩:=hq;obtain⟨Va,Vb⟩:=Jz HR.out;obtain⟨k1,k2⟩:=Lg Va Vb;have Uq:=HE.out.below uK;have HP:=z7 (aI f w2 a k vs vD XI (zj _) JY.msg JY.wf k1 (by have:=JY.len;omega) (by omega) Uq.RD Uq.names);obtain⟨L,hL⟩:=xX f.len;rw[hL] at HP ⊢;clear vD XI JY Va Vb k1 k2 Uq hL;go_wp2_with fail;refine HP.out.mono ?_;rintro e w3 ⟨q,vC,vI,rs,mb,rfl,Hu,hq0,uP⟩;have Ed:=xF.trans (uP.mono xF.size);have ZV:=uK.trans (uP.mono uK.size);have HPA:=z7 Hu;clear Hu HP;go_wp2;go_ret2
   obtain⟨z,hz⟩:=xX w3.heap.size;have jy:=fun i=>xu w3 #[.pointer (some ⟨q,0,none⟩),.pointer (some ⟨g,0,none⟩)] 90 (0,0) i
   have um:Below w3.heap.size w3 (w3.alloc (.cells #[.pointer (some ⟨q,0,none⟩),.pointer (some ⟨g,0,none⟩)] 90)):=(zk _ _).alloc (zj _) _;have OR:=Ed.trans (um.mono Ed.size);have zok:Fr xH xH w1 _:=Fr.of OR;refine⟨ZV.trans (um.mono ZV.size),?_⟩;rw[if_neg (by rw[A9.out];simp),HR.out];refine⟨_,q,g,mb,vC,vI,rs,cv,ov,rfl,⟨jy 0,jy 1,HPA.out.below um,zZ Ze OR.size,HX.out.below OR Ze,zok.cell HC0.out id,zok.cell HC1.out id⟩,fun W hW=>HQC.out W (OR.trans (hW.mono OR.size)),fun W hW=>HQO.out W (OR.trans (hW.mono OR.size))⟩
theorem zj8(b:Nat)(n a:Int)(w:World)(hE:KQ w)(h0:w.cell? ⟨b,0,none⟩=some (.int .i64 n))(h1:w.cell? ⟨b,1,none⟩=some (.int .i64 a)) :
  Calls Tryz.prog 30 #[.iface 101 (.pointer (some ⟨b,0,none⟩))] w (XT n a w):=by
 have HE:=z7 hE;have H0:=z7 h0;have H1:=z7 h1;have xD:b<w.heap.size:=zN w _ h0;clear hE h0 h1;go_enter func30,ntmps30;go_wp2_with fail;refine vZ ?_;intro W hW;have hb:Below w.heap.size w W:=by rw[hW];exact((zk _ _).alloc (zj _) _).alloc (by simp) _
 have hz:w.heap.size+2<=W.heap.size:=by rw[hW];simp
 have hA:W.cell? ⟨w.heap.size,0,none⟩=some (.pointer none)/\W.frozen? ⟨w.heap.size,0,none⟩=false:=by rw[hW];constructor<;>go_simp
 clear hW;refine(cT ⟨b,0,none⟩ ⟨w.heap.size,0,none⟩ _ W (HE.out.below hb) hA.1 hA.2).mono ?_;rintro e w2 ⟨rfl,p1,p2,p3,p4,DU⟩;have xF:Below w.heap.size W w2:=by rw[DU];exact(((((zk _ _).alloc (by omega) _).alloc (by simp;omega) _).alloc (by simp;omega) _).alloc (by simp;omega) _).setCell (by simp) _
 have uK:=hb.trans xF;have hC:w2.cell? ⟨w.heap.size,0,none⟩=some (.pointer (some ⟨b,0,none⟩)):=by
  rw[DU,xg,if_pos rfl];rw[zv _ _ _ (by simp;omega),zv _ _ _ (by simp;omega),zv _ _ _ (by simp;omega),zv _ _ _ (by show w.heap.size<_;omega),hA.1];rfl
 have d0:=(uK.cell (p:=⟨b,0,none⟩) xD).trans H0.out;have d1:=(uK.cell (p:=⟨b,1,none⟩) xD).trans H1.out;clear DU xF hA;have jo:w2.drew.cell? ⟨w.heap.size,0,none⟩=some (.pointer (some ⟨b,0,none⟩))/\w2.drew.cell? ⟨b,0,none⟩=some (.int .i64 n)/\w2.drew.cell? ⟨b,1,none⟩=some (.int .i64 a):=⟨hC,d0,d1⟩;go_wp2_with fail;refine rt (fun W':World=>W'.cell? ⟨w.heap.size,0,none⟩=some (.pointer (some ⟨b,0,none⟩))/\W'.cell? ⟨b,0,none⟩=some (.int .i64 n)/\W'.cell? ⟨b,1,none⟩=some (.int .i64 a)) [0,1,2,3,4,5,6,7,8,9] 0 jo ?_;(iterate 10 ((first|refine ty ?_|refine tn ?_);try simp only[pl]))
 refine xq ?_;refine bX ?_ _;go_wp2;go_ret2
 exact⟨rfl,uK.drew⟩
def zj9(kn:Bool)(r:Except (Nat×Nat) Fo)(mi po gr:Int)(fi ne:Nat)(dg:List UInt8)(Qc Qo:World->Value->Prop)(w:World)(e:Ending)(w':World):Prop :=
 Below w.heap.size w w' /\
 if kn=false then e = .returned (.tuple #[.pointer none,.int .i64 8,.int .i64 0])
 else match r with
  | .error (n,a)=>e = .returned (.tuple #[.pointer none,.int .i64 (n:Nat),.int .i64 (a:Nat)])
  | .ok f=>∃ P q g mb vC vI rs cv ov,e = .returned (.tuple #[.pointer (some ⟨P,0,none⟩),.int .i64 0,.int .i64 0])/\BS P q g mb f vC vI rs mi po gr fi ne dg cv ov w'/\(∀ W,Below w'.heap.size w' W->Qc W cv)/\∀ W,Below w'.heap.size w' W->Qo W ov
theorem EZ(s:ByteArray)(c o:Value)(ra rb:Bool)(mi po gr:Int)(fi ne:Nat)(dg:ByteArray)(Qc Qo:World->Value->Prop)(w:World)(hs:s.size<=1000000)(hd:dg.size<=1000000)(LV:fi<=255)(xc:ne<=255)
  (hc:qZ w c ra Qc) (ho:qZ w o rb Qo) (BR:(∃ a n k,c = .slice a n k)/\∃ a n k,o = .slice a n k) (hE:Ya w) :
  Calls Tryz.prog 20 #[.string s,Dh c o mi po gr fi ne dg] w (zj9 (vM ra rb mi po gr fi ne dg.data.toList) (jF s.data.toList) mi po gr fi ne dg.data.toList Qc Qo w):=by
 have HC:=z7 hc;have HO:=z7 ho;have eD:=z7 BR;have HE:=z7 hE;clear hc ho BR hE;go_enter func20,ntmps20;go_wp2_with fail;refine vZ ?_;intro W hW;have hb:Below w.heap.size w W:=by rw[hW];exact(zk _ _).alloc (zj _) _
 clear hW;refine(Eb s c o ra rb mi po gr fi ne dg Qc Qo W hs hd LV xc (HC.out.later hb) (HO.out.later hb) eD.out (HE.out.below hb)).mono ?_;rintro e w1 ⟨xB,vV⟩;have vO:Below w.heap.size w w1:=hb.trans (xB.mono hb.size);have Uq:=HE.out.below vO;obtain⟨kn,UA⟩:=xX (vM ra rb mi po gr fi ne dg.data.toList);rw[UA] at vV;have A9:=z7 UA;clear UA
 cases kn
 ·rw[if_pos rfl] at vV;subst vV;have HT:=z7 (Ev 8 w1 Uq.tabs.err);clear hb xB Uq;go_wp2_with fail;refine HT.out.mono ?_;rintro e w2 ⟨rfl,xF⟩;have uK:=vO.trans (xF.mono vO.size);clear HT xF;go_wp2;go_ret3
  refine⟨uK,?_⟩;rw[if_pos A9.out];rfl
 ·rw[if_neg (by simp)] at vV;obtain⟨r,hr⟩:=xX (jF s.data.toList);rw[hr] at vV;have HR:=z7 hr;clear hr
  cases r with
  | error en =>
   obtain⟨n,a⟩:=en;obtain⟨b,rfl,f0,f1⟩:=vV;have HT:=z7 (zj8 b n a w1 Uq.tabs.err f0 f1);clear hb xB Uq f0 f1;go_wp2_with fail;refine HT.out.mono ?_;rintro e w2 ⟨rfl,xF⟩;have uK:=vO.trans (xF.mono vO.size);clear HT xF;go_wp2;go_ret3
   refine⟨uK,?_⟩;rw[if_neg (by rw[A9.out];simp),HR.out];rfl
  | ok f =>
   obtain⟨P,q,g,mb,vC,vI,rs,cv,ov,rfl,hph,hqc,hqo⟩:=vV;have HT:=z7 (F9 w1);have HP:=z7 hph;have HQ:=z7 (And.intro hqc hqo);clear hb xB Uq hph hqc hqo;go_wp2_with fail;refine HT.out.mono ?_;rintro e w2 ⟨rfl,xF⟩;have uK:=vO.trans (xF.mono vO.size);have Ff:=z7 (HP.out.below xF);clear HT;go_wp2;go_ret3
   refine⟨uK,?_⟩;rw[if_neg (by rw[A9.out];simp),HR.out];exact⟨P,q,g,mb,vC,vI,rs,cv,ov,rfl,Ff.out,fun W hW=>HQ.out.1 W (xF.trans (hW.mono xF.size)),fun W hW=>HQ.out.2 W (xF.trans (hW.mono xF.size))⟩
end Go.Proofs.YthpldolmpinnhaaGreatDoor
