import Derived.Test.YthpldolmpinnhaaGreatDoorJP24
import Derived.Test.YthpldolmpinnhaaGreatDoorShelfV
import Derived.Laws.IdiomCopy
set_option maxHeartbeats 64000000
open Go.Lib renaming hid→z7,cell_of_heap→z8,encodeRune→zV,frozen_of_heap→zQ,runeCount→zW,validD→za,Utf8Tabs→ze
open Go.Value renaming int→zy
open Go.RowKit.Below renaming heap_alloc→zx,refl→zg,heap_setCell→zU,setCell→zR
open Bool renaming and_eq_true→zv,not_eq_true→zM,or_eq_true→zl
open Go.World renaming cell?_alloc_lt→zu,cell?_setCells_out→zX,block_lt_of_cell?→zm,setCells→zh
open Array renaming replicate→zk
open Nat renaming le_refl→zj,lt_of_lt_of_le→zY,le_trans→zo
open List renaming flatMap_cons→zf,drop_zero→zZ,mem_range→zJ,range→zG,eq_nil_of_length_eq_zero→zF,length_map→zD,getD_eq_getElem?_getD→zE,length→zH,flatMap_map→zL,length_pos_iff→zP,map_cons→zS,map_nil→zc,all_append→zi,range_succ_eq_map→zn,getElem_map→zt
open Go.Result renaming andThen→zN
open Go.Conv renaming runesFrom→zO
open Go.Instr renaming index→zr
open Go.Proofs.Tryz
namespace Go.Proofs.YthpldolmpinnhaaGreatDoor
open Go Go.RowKit
set_option maxRecDepth 10000
def DM:List UInt8:=[48,49,50,51,52,53,54,55,56,57]
def Za(dg:List UInt8):List UInt8:=if dg=[] then DM else dg
def IM(ra rb:Bool)(mi po gr:Int)(fi ne:Nat)(dg:List UInt8)(Qc Qo:World->Value->Prop)(w:World)(e:Ending)(w':World):Prop :=
 Below w.heap.size w w' /\
 if vA ra rb mi po gr fi ne dg then ∃ (g:Nat) (cv ov:Value),e = .returned (.pointer (some ⟨g,0,none⟩))/\w.heap.size<=g/\g<w'.heap.size /\
   CW w' g mi po gr fi ((if ne=0 then fi else ne:Nat):Int) (xO (Za dg))/\w'.cell? ⟨g,0,none⟩=some cv/\w'.cell? ⟨g,1,none⟩=some ov /\
   (∀ W,Below w'.heap.size w' W->Qc W cv)/\(∀ W,Below w'.heap.size w' W->Qo W ov)
 else e = .returned (.pointer none)
def ZH(b:Nat)(A B:World):Prop:=A.heap.size<=B.heap.size/\∀ j,j≠b->j≠b+1->j<A.heap.size->B.heap[j]? = A.heap[j]?
theorem ZH.refl(b:Nat)(A:World):ZH b A A:=⟨zj _,fun _ _ _ _=>rfl⟩
theorem ZH.trans{b:Nat}{A B C:World}(h:ZH b A B)(k:ZH b B C):ZH b A C :=
 ⟨zo h.1 k.1,fun j h1 h2 h3=>(k.2 j h1 h2 (zY h3 h.1)).trans (h.2 j h1 h2 h3)⟩
theorem ZH.below{b:Nat}{A B:World}(h:Below A.heap.size A B):ZH b A B:=⟨h.size,fun j _ _ h3=>h.block j h3⟩
theorem ZH.set{b:Nat}{A B:World}(h:ZH b A B)(p:Addr)(v:Value)(hp:p.block=b\/p.block=b+1):ZH b A (B.setCell p v) :=
 h.trans ⟨by simp,fun j h1 h2 _=>zU _ _ _ _ (by omega)⟩
theorem ZH.agree{b hi:Nat}{A B C:World}(h:ZH b A B)(hh:b+2<=hi)(hb:b+2<=A.heap.size)(k:Below B.heap.size B C):Ph b hi A C :=
 ⟨zo h.1 k.size,fun j hj=>by
  have xC:j<A.heap.size:=by omega
  rw[k.block j (zY xC h.1)];exact h.2 j (by omega) (by omega) xC⟩
theorem Si(h:Array Obj)(a b:Obj):((h.push a).push b)[h.size+1]? = some b:=by
 have e:h.size+1=(h.push a).size:=by simp
 rw[e];exact Array.getElem?_push_size
theorem Ux(r:Int):Lib.validRune r=jd r:=by
 unfold Lib.validRune jd;rw[decide_eq_decide];omega
theorem cE{ra rb:Bool}{mi po gr:Int}{fi ne:Nat}{dg:List UInt8}(h:¬(ra=true/\rb=true/\max (fi:Int) (ne:Int)<=9/\¬mi=0/\¬po=0)):vA ra rb mi po gr fi ne dg=false:=by
 rw[←zM];intro hk;simp only[vA,zv,Bool.not_eq_true',beq_eq_false_iff_ne,decide_eq_true_eq] at hk;exact h ⟨hk.1,hk.2.1,by omega,hk.2.2.2.2.2.1,hk.2.2.2.2.2.2.1⟩
theorem KV{ra rb:Bool}{mi po gr:Int}{fi ne:Nat}{dg:List UInt8}(h:jd mi=false\/jd po=false\/jd gr=false):vA ra rb mi po gr fi ne dg=false:=by
 rw[←zM];intro hk;simp only[vA,zv] at hk;rcases h with h|h|h
 ·rw[hk.2.2.1] at h;cases h
 ·rw[hk.2.2.2.1] at h;cases h
 ·rw[hk.2.2.2.2.1] at h;cases h
theorem Z6{w W:World}(h:ze 3 4 w)(hb:Below w.heap.size w W):ze 3 4 W:=by
 have lt:∀ (a:Addr) (v:Value),w.cell? a=some v->a.block<w.heap.size:=fun a v h=>zm w a h
 refine⟨fun c hc=>?_,fun i hi=>⟨?_,?_⟩⟩
 ·rw[hb.cell (lt _ _ (h.1 c hc))];exact h.1 c hc
 ·rw[hb.cell (lt _ _ (h.2 i hi).1)];exact(h.2 i hi).1
 ·rw[hb.cell (lt _ _ (h.2 i hi).2)];exact(h.2 i hi).2
theorem Bf{ra rb:Bool}{mi po gr:Int}{fi ne:Nat}{dg:List UInt8}(h:za dg=false):vA ra rb mi po gr fi ne dg=false:=by
 rw[←zM];intro hk;simp only[vA,zv,decide_eq_true_eq] at hk;have h1:(vo dg).2=dg.length:=by have:=hk.2.2.2.2.2.2.2.1;omega
 rw[(bG dg).2 h1] at h
 cases h
theorem dJ{w:World}{o:Obj}{a:Addr}(h:a.block<w.heap.size):(w.alloc o).cell? a=w.cell? a:=zu w o a h
theorem Bd:(vo (⟨#[48,49,50,51,52,53,54,55,56,57]⟩:ByteArray).data.toList).1.length=10:=by
 have h:=(gU ⟨#[48,49,50,51,52,53,54,55,56,57]⟩ 10 0 (by decide) (by decide) (by rw[zZ,(bG _).1 (by decide)];decide)).1;rw[zZ] at h;rw[←h];decide
theorem Bb{ra rb:Bool}{mi po gr:Int}{fi ne:Nat}{dg:List UInt8}(hd:¬dg=[])(h:¬(vo dg).1.length=10):vA ra rb mi po gr fi ne dg=false:=by
 rw[←zM];intro hk;simp only[vA,zv,zl,decide_eq_true_eq] at hk;rcases hk.2.2.2.2.2.2.2.2.1 with h1|h1
 ·exact h1 (zP.2 hd)
 ·refine h ?_;simp at h1;omega
theorem Uv(B:Nat)(w:World)(s:ByteArray)(pos:Nat):B<=w.heap.size->Below B w (w.iter s pos):=fun hB=>(zg _ _).alloc hB _
theorem heap_set{w:World}{b j:Nat}{cs:Array Value}{T:TypeId}{fr:Nat×Nat}(h:w.heap[b]? = some (.cells cs T fr))(v:Value):(w.setCell ⟨b,j,none⟩ v).heap[b]? = some (.cells (cs.setIfInBounds j v) T fr):=by
 simp[World.setCell,Array.getElem?_modify,h]
structure RW(b:Nat)(c o cv ov:Value)(mi po gr fi ne nx:Int)(dg:ByteArray)(W:World):Prop where
 hA:W.heap[b]? = some (.cells #[c,o,.int .i32 mi,.int .i32 po,.int .i32 gr,.int .u8 fi,.int .u8 ne,.string dg] 25 (0,0))
 hB:W.heap[b+1]? = some (.cells #[cv,ov,.int .i32 mi,.int .i32 po,.int .i32 gr,.int .i64 fi,.int .i64 nx,.int .i32 0,.int .i32 0,.int .i32 0,.int .i32 0,.int .i32 0,.int .i32 0,.int .i32 0,.int .i32 0,.int .i32 0,.int .i32 0] 143 (0,0))
theorem RW.below{b B:Nat}{c o cv ov:Value}{mi po gr fi ne nx:Int}{dg:ByteArray}{W W':World}(h:RW b c o cv ov mi po gr fi ne nx dg W)(hb:Below B W W')(xC:b+1<B):RW b c o cv ov mi po gr fi ne nx dg W' :=
 ⟨by rw[hb.block b (by omega)];exact h.hA,by rw[hb.block (b+1) xC];exact h.hB⟩
theorem RW.a{b:Nat}{c o cv ov:Value}{mi po gr fi ne nx:Int}{dg:ByteArray}{W:World}(h:RW b c o cv ov mi po gr fi ne nx dg W) :
  W.cell? ⟨b,0,none⟩=some c/\W.cell? ⟨b,1,none⟩=some o/\W.cell? ⟨b,2,none⟩=some (.int .i32 mi)/\W.cell? ⟨b,3,none⟩=some (.int .i32 po)/\W.cell? ⟨b,4,none⟩=some (.int .i32 gr) /\
  W.cell? ⟨b,5,none⟩=some (.int .u8 fi)/\W.cell? ⟨b,6,none⟩=some (.int .u8 ne)/\W.cell? ⟨b,7,none⟩=some (.string dg)/\W.frozen? ⟨b,7,none⟩=false :=
 ⟨z8 h.hA 0,z8 h.hA 1,z8 h.hA 2,z8 h.hA 3,z8 h.hA 4,z8 h.hA 5,z8 h.hA 6,z8 h.hA 7,zQ h.hA 7⟩
theorem RW.b{b:Nat}{c o cv ov:Value}{mi po gr fi ne nx:Int}{dg:ByteArray}{W:World}(h:RW b c o cv ov mi po gr fi ne nx dg W) :
  W.cell? ⟨b+1,0,none⟩=some cv/\W.cell? ⟨b+1,1,none⟩=some ov/\W.cell? ⟨b+1,5,none⟩=some (.int .i64 fi)/\W.cell? ⟨b+1,6,none⟩=some (.int .i64 nx) /\
  W.frozen? ⟨b+1,0,none⟩=false/\W.frozen? ⟨b+1,1,none⟩=false/\W.frozen? ⟨b+1,6,none⟩=false :=
 ⟨z8 h.hB 0,z8 h.hB 1,z8 h.hB 5,z8 h.hB 6,zQ h.hB 0,zQ h.hB 1,zQ h.hB 6⟩
theorem RW.Yw{b:Nat}{c o cv ov:Value}{mi po gr fi ne nx:Int}{dg:ByteArray}{W:World}(h:RW b c o cv ov mi po gr fi ne nx dg W)(v:Value):RW b c o v ov mi po gr fi ne nx dg (W.setCell ⟨b+1,0,none⟩ v) :=
 ⟨by rw[zU _ _ _ _ (by simp)];exact h.hA,by rw[heap_set h.hB];rfl⟩
theorem RW.Cg{b:Nat}{c o cv ov:Value}{mi po gr fi ne nx:Int}{dg:ByteArray}{W:World}(h:RW b c o cv ov mi po gr fi ne nx dg W)(v:Value):RW b c o cv v mi po gr fi ne nx dg (W.setCell ⟨b+1,1,none⟩ v) :=
 ⟨by rw[zU _ _ _ _ (by simp)];exact h.hA,by rw[heap_set h.hB];rfl⟩
theorem RW.zmu{b:Nat}{c o cv ov:Value}{mi po gr fi ne nx:Int}{dg:ByteArray}{W:World}(h:RW b c o cv ov mi po gr fi ne nx dg W)(v:Int):RW b c o cv ov mi po gr fi ne v dg (W.setCell ⟨b+1,6,none⟩ (.int .i64 v)) :=
 ⟨by rw[zU _ _ _ _ (by simp)];exact h.hA,by rw[heap_set h.hB];rfl⟩
theorem RW.zmq{b:Nat}{c o cv ov:Value}{mi po gr fi ne nx:Int}{dg:ByteArray}{W:World}(h:RW b c o cv ov mi po gr fi ne nx dg W)(d:ByteArray):RW b c o cv ov mi po gr fi ne nx d (W.setCell ⟨b,7,none⟩ (.string d)) :=
 ⟨by rw[heap_set h.hA];rfl,by rw[zU _ _ _ _ (by simp)];exact h.hB⟩
theorem Sl(V:World)(cs:List Value)(r:Array Value)(T:TypeId)(j:Nat)(v:Value)(h:cs[j]? = some v) :
  (V.alloc (.cells (cs.toArray++r) T)).drew.drew.cell? ((⟨V.heap.size,0,none⟩:Addr).add j)=some v:=by
 have h1:(V.alloc (.cells (cs.toArray++r) T)).drew.drew.heap[V.heap.size]? = some (.cells (cs.toArray++r) T):=by
  show(V.heap.push _)[V.heap.size]? = _;simp
 have xC:j<cs.length:=by
  rcases Nat.lt_or_ge j cs.length with hh|hh
  ·exact hh
  ·rw[List.getElem?_eq_none hh] at h;cases h
 rw[ua,z8 h1 j,Array.getElem?_append_left (by simpa using xC)];simpa using h
theorem BZ{V:World}{g:Nat}{cs:Array Value}{T:TypeId}(h:V.heap[g]? = some (.cells cs T (0,0)))(hs:cs.size=17)(n:Nat)(hn:n=10) :
  (∀ j,j<n->(V.cell? ⟨g,7+j,none⟩).isSome=true)/\∀ j,j<n->V.frozen? ⟨g,7+j,none⟩=false:=by
 subst hn;refine⟨fun j hj=>?_,fun j hj=>zQ h _⟩;rw[z8 h (7+j)];have:7+j<cs.size:=by omega
 simp[this]
theorem ZH.setCells{b:Nat}{A:World}:∀ (vs:List Value) (B:World) (o:Nat),ZH b A B->ZH b A (B.setCells (b+1) o vs)
 | [],_,_,h=>h
 | v::vs,B,o,h=>by
  unfold zh;exact ZH.setCells vs _ _ (h.set _ _ (.inr rfl))
theorem XO{b:Nat}{A:World}:∀ (vs:List Value) (B:World) (o:Nat),Below b A B->Below b A (B.setCells (b+1) o vs)
 | [],_,_,h=>h
 | v::vs,B,o,h=>by
  unfold zh;exact XO vs _ _ (h.setCell (Nat.le_succ b) _)
theorem JS{mi po gr:Int}{fi ne:Nat}{dg D:List UInt8}(hD:D=Za dg)(h3:max (fi:Int) (ne:Int)<=9)(h4:¬mi=0)(h5:¬po=0)(p1:jd mi=true)(p2:jd po=true)(p3:jd gr=true)
  (hp:(vo D).2=D.length) (hc:(vo D).1.length=10):vA true true mi po gr fi ne dg=true:=by
 unfold Za at hD;by_cases h:dg=[]
 ·subst h;have e:(vo []).2=0:=by rw[qT]
  simp[vA,p1,p2,p3,h4,h5,e];omega
 ·rw[if_neg h] at hD;subst hD;simp[vA,p1,p2,p3,h4,h5,hp,hc];omega
theorem Qk{w W1 W3 W7:World}{D:ByteArray}{pos:Nat}{ob:Obj}{c oo cv ov:Value}{mi po gr:Int}{fi ne nx Vc hi3:Nat}{rs:List Int}{dg:List UInt8}{Qc Qo:World->Value->Prop}
  (h:RW w.heap.size c oo cv ov mi po gr fi ne (nx:Int) D W7) (hb:Below w.heap.size w W7) (hz:w.heap.size+2<=W7.heap.size) (hl:rs.length=10) (Kn:nx=if ne=0 then fi else ne)
  (bF:rs=xO D.data.toList) (hD:D.data.toList=Za dg) (hk:vA true true mi po gr fi ne dg=true)
  (s1:ZH w.heap.size W1 W7) (s3:ZH w.heap.size W3 W7) (h1:w.heap.size+2<=Vc) (h3:w.heap.size+2<=hi3) (z1:w.heap.size+2<=W1.heap.size) (z3:w.heap.size+2<=W3.heap.size)
  (q1:∀ W,Ph w.heap.size Vc W1 W->Qc W cv) (q3:∀ W,Ph w.heap.size hi3 W3 W->Qo W ov) :
  IM true true mi po gr fi ne dg Qc Qo w (.returned (.pointer (some ⟨w.heap.size+1,0,none⟩))) (((W7.iter D pos).alloc ob).drew.drew.setCells (w.heap.size+1) 7 (rs.map (zy .i32))):=by
 have hV:((W7.iter D pos).alloc ob).drew.drew.heap[w.heap.size+1]? = W7.heap[w.heap.size+1]? := by
  show((W7.alloc _).alloc _).heap[w.heap.size+1]? = _;rw[zx _ _ _ (by simp;omega),zx _ _ _ (by omega)]
 have EO:=hV.trans h.hB;have sV:∀ {A:World},ZH w.heap.size A W7->ZH w.heap.size A (((W7.iter D pos).alloc ob).drew.drew.setCells (w.heap.size+1) 7 (rs.map (zy .i32))):=by
  intro A hA;refine ZH.setCells _ _ _ (hA.trans ⟨?_,fun j _ _ hj=>?_⟩)
  ·show W7.heap.size<=((W7.alloc _).alloc _).heap.size;simp;omega
  ·show((W7.alloc _).alloc _).heap[j]? = _;rw[zx _ _ _ (by simp;omega),zx _ _ _ hj]
 have hbV:Below w.heap.size w (((W7.iter D pos).alloc ob).drew.drew.setCells (w.heap.size+1) 7 (rs.map (zy .i32))):=by
  refine XO _ _ _ ?_;have h1:Below w.heap.size w ((W7.iter D pos).alloc ob):=(hb.trans (Uv _ _ _ _ (by omega))).alloc (by show _<=(W7.alloc _).heap.size;simp;omega) _;exact⟨h1.os,h1.tape,h1.output,h1.size,h1.block⟩
 have hz9:=(sV (ZH.refl _ W7)).1;generalize hVV:((W7.iter D pos).alloc ob).drew.drew=V at *;have out:∀ j,j<7->(V.setCells (w.heap.size+1) 7 (rs.map (zy .i32))).cell? ⟨w.heap.size+1,j,none⟩=V.cell? ⟨w.heap.size+1,j,none⟩:=fun j hj=>zX _ _ _ _ _ (fun _ _ => .inl hj)
 refine⟨hbV,?_⟩;rw[if_pos hk];refine⟨w.heap.size+1,cv,ov,rfl,Nat.le_succ _,by omega,⟨?_,?_,?_,?_,?_,?_,?_⟩,?_,?_,fun W hW=>q1 W ((sV s1).agree h1 z1 hW),fun W hW=>q3 W ((sV s3).agree h3 z3 hW)⟩
 ·rw[out 2 (by decide)];exact z8 EO 2
 ·rw[out 3 (by decide)];exact z8 EO 3
 ·rw[out 4 (by decide)];exact z8 EO 4
 ·rw[out 5 (by decide)];exact z8 EO 5
 ·rw[out 6 (by decide),←Kn];exact z8 EO 6
 ·rw[←hD,←bF];exact hl
 ·rw[←hD,←bF];intro j hj;have b7:=World.cell?_setCells_in (w.heap.size+1) (rs.map (zy .i32)) 7 V (by rw[zD];exact(BZ EO rfl _ hl).1) j (by simpa using hj);rw[b7,zt]
 ·rw[out 0 (by decide)];exact z8 EO 0
 ·rw[out 1 (by decide)];exact z8 EO 1
theorem Qj(V:World)(rs:List Int)(r:Array Value)(cap b:Nat){cs:Array Value}{T:TypeId}(hl:rs.length=10)
  (EO:(V.alloc (.cells ((rs.map (zy .i32)).toArray++r) 21)).drew.drew.heap[b]? = some (.cells cs T (0,0))) (hs:cs.size=17) :
  (Builtin.copy_ #[147,147] 3 #[.slice (some ⟨b,7,none⟩) 10 10,.slice (some ⟨V.heap.size,0,none⟩) 10 cap]).run Tryz.prog (V.alloc (.cells ((rs.map (zy .i32)).toArray++r) 21)).drew.drew =
   .ok (goInt (rs.map (zy .i32)).length) ((V.alloc (.cells ((rs.map (zy .i32)).toArray++r) 21)).drew.drew.setCells b 7 (rs.map (zy .i32))):=by
 have hd:=BZ EO hs (rs.map (zy .i32)).length (by simp[hl]);have yd9:=Sl V (rs.map (zy .i32)) r 21;generalize (V.alloc (.cells ((rs.map (zy .i32)).toArray++r) 21)).drew.drew=W at *;exact run_copy_cells W 147 147 3 21 b 7 10 10 ⟨V.heap.size,0,none⟩ 10 cap (rs.map (zy .i32)) underlying147 (by kernel_rfl) (by simp[hl]) yd9 hd.1 hd.2 (by intro v hv;simp at hv;obtain⟨x,_,rfl⟩:=hv;rfl)
theorem IN(c o:Value)(ra rb:Bool)(mi po gr:Int)(fi ne:Nat)(dg:ByteArray)(Qc Qo:World->Value->Prop)(w:World)(hd:dg.size<=1000000)(Mf:fi<=255)(xw:ne<=255)
  (hc:jz w c ra Qc) (ho:jz w o rb Qo) (Pw:(∃ a n k,c = .slice a n k)/\∃ a n k,o = .slice a n k) (hT:ze 3 4 w) :
  Calls Tryz.prog 43 #[IL c o mi po gr fi ne dg] w (IM ra rb mi po gr fi ne dg.data.toList Qc Qo w):=by
 obtain⟨⟨ca,cn,ck,rfl⟩,oa,on,ok,rfl⟩:=Pw;have zmk:∀ W:World,(zr 144 (.agg #[.int .i32 mi,.int .i32 po,.int .i32 gr]) (.int .i64 0)).run Tryz.prog W = .ok (.int .i32 mi) W:=fun W=>by kernel_rfl
 have zmj:∀ W:World,(zr 144 (.agg #[.int .i32 mi,.int .i32 po,.int .i32 gr]) (.int .i64 1)).run Tryz.prog W = .ok (.int .i32 po) W:=fun W=>by kernel_rfl
 have zmg:∀ W:World,(zr 144 (.agg #[.int .i32 mi,.int .i32 po,.int .i32 gr]) (.int .i64 2)).run Tryz.prog W = .ok (.int .i32 gr) W:=fun W=>by kernel_rfl
 have HC:=z7 hc;have HO:=z7 ho;clear hc ho;go_enter func43,ntmps43;go_wp2_with fail;refine vz ?_;intro W hW;have hR:RW w.heap.size (.slice ca cn ck) (.slice oa on ok) (.slice none 0 0) (.slice none 0 0) mi po gr fi ne ne dg W:=by
  rw[hW];refine⟨?_,?_⟩
  ·rw[zx _ _ _ (by simp)];show(w.heap.push _)[w.heap.size]? = _;simp
  ·show((w.heap.push _).push _)[w.heap.size+1]? = _;exact Si _ _ _
 have gP:Below w.heap.size w W:=by rw[hW];exact((zg _ _).alloc (zj _) _).alloc (by simp) _
 have hzW:w.heap.size+2<=W.heap.size:=by rw[hW];simp
 clear hW;have HZW:=z7 hzW;refine(HC.out W gP).mono ?_;rintro e W1 ⟨⟨a1,n1,k1,rfl,hQ1⟩,xH⟩;have IP:=hR.below xH (by omega);have uf:Below w.heap.size w W1:=gP.trans (xH.mono (by omega));have Ul:w.heap.size+2<=W1.heap.size:=by have:=xH.size;omega
 clear hR gP hzW xH;obtain⟨g0,g1,g2,g3,g4,g5,g6⟩:=IP.b;obtain⟨a0,Nr,a2,a3,a4,a5,a6,a7,a8⟩:=IP.a;have HQ1:=z7 hQ1;clear hQ1;go_wp2_with fail;refine vz ?_;intro W2 ME;have Md:RW w.heap.size (.slice ca cn ck) (.slice oa on ok) (.slice a1 n1 k1) (.slice none 0 0) mi po gr fi ne ne dg W2:=by rw[ME];exact IP.Yw _
 have qf:Below w.heap.size w W2:=by rw[ME];exact uf.setCell (p:=⟨w.heap.size+1,0,none⟩) (by simp) _
 have Sa:Below w.heap.size W1 W2:=by rw[ME];exact(zg _ _).setCell (p:=⟨w.heap.size+1,0,none⟩) (by simp) _
 have VO:w.heap.size+2<=W2.heap.size:=by rw[ME];simpa using Ul
 have s12:ZH w.heap.size W1 W2:=by rw[ME];exact(ZH.refl _ _).set _ _ (.inr rfl)
 clear ME;refine(HO.out W2 qf).mono ?_;rintro e W3 ⟨⟨a9,n9,k9,rfl,hQ3⟩,uP⟩;have tR:=Md.below uP (by omega);have Z7:Below w.heap.size w W3:=qf.trans (uP.mono (by omega));have CJ:w.heap.size+2<=W3.heap.size:=by have:=uP.size;omega
 have s13:=s12.trans (ZH.below (b:=w.heap.size) uP);clear a0 Nr a2 a3 a4 a5 a6 a7 a8 g0 g1 g2 g3 g4 g5 g6;obtain⟨g0,g1,g2,g3,g4,g5,g6⟩:=tR.b;obtain⟨a0,Nr,a2,a3,a4,a5,a6,a7,a8⟩:=tR.a;have SL:=z7 hQ3;clear hQ3;by_cases Ui:ra=true/\rb=true/\max (fi:Int) (ne:Int)<=9/\¬mi=0/\¬po=0
 ·obtain⟨r1,r2,r3,r4,r5⟩:=Ui;have hmi:(mi==0)=false:=by simpa using r4
  have hpo:(po==0)=false:=by simpa using r5
  go_wp2_with fail;refine Jm ?_;intro W4 V2;have Ei:RW w.heap.size (.slice ca cn ck) (.slice oa on ok) (.slice a1 n1 k1) (.slice a9 n9 k9) mi po gr fi ne ne dg W4:=by rw[V2];exact tR.Cg _
  have j5:Below w.heap.size w W4:=by rw[V2];exact Z7.setCell (p:=⟨w.heap.size+1,1,none⟩) (by simp) _
  have zq9:Below (w.heap.size+1) W3 W4:=by rw[V2];exact(zg _ _).setCell (p:=⟨w.heap.size+1,1,none⟩) (by simp) _
  have hz4:w.heap.size+2<=W4.heap.size:=by rw[V2];simpa using CJ
  have s34:ZH w.heap.size W3 W4:=by rw[V2];exact(ZH.refl _ _).set _ _ (.inr rfl)
  have HW4:=z7 V2;clear V2;clear a0 Nr a2 a3 a4 a5 a6 a7 a8 g0 g1 g2 g3 g4 g5 g6;go_loopw [71] (fun i wr=>∃ k:Nat,k<=3/\i = .int .i64 k/\wr=W4/\(0<k->jd mi=true)/\(1<k->jd po=true)/\(2<k->jd gr=true)) (fun i _=>3 - (intOf i).toNat)
  case atStart=>exact⟨0,by omega,rfl,rfl,fun h=>by omega,fun h=>by omega,fun h=>by omega⟩
  case round =>
   obtain⟨k,hk,rfl,EL,p1,p2,p3⟩:=hrel;subst EL;have du:k=0\/k=1\/k=2\/k=3:=by omega
   rcases du with CF|hk1|P5|hk3
   ·subst CF;go_wp2_with fail;refine(Tryz.utf8_ValidRune mi _).mono ?_;rintro e w' ⟨rfl,rfl⟩;rw[Ux]
    cases hp:jd mi
    ·have HF:=z7 (KV (ra:=ra) (rb:=rb) (fi:=fi) (ne:=ne) (dg:=dg.data.toList) (mi:=mi) (po:=po) (gr:=gr) (.inl hp));clear hp;go_wp2;go_ret;refine⟨j5,?_⟩;rw[HF.out];exact rfl
    ·have HP:=z7 hp;clear hp;go_wp2;go_roundw
     case rel=>exact⟨1,by omega,by go_num,by first|rfl|trivial,fun _=>HP.out,fun h=>by omega,fun h=>by omega⟩
     case measure=>simp[intOf]
   ·subst hk1;go_wp2_with fail;refine(Tryz.utf8_ValidRune po _).mono ?_;rintro e w' ⟨rfl,rfl⟩;rw[Ux]
    cases hp:jd po
    ·have HF:=z7 (KV (ra:=ra) (rb:=rb) (fi:=fi) (ne:=ne) (dg:=dg.data.toList) (mi:=mi) (po:=po) (gr:=gr) (.inr (.inl hp)));clear hp;go_wp2;go_ret;refine⟨j5,?_⟩;rw[HF.out];exact rfl
    ·have HP:=z7 hp;clear hp;go_wp2;go_roundw
     case rel=>exact⟨2,by omega,by go_num,by first|rfl|trivial,fun _=>p1 (by omega),fun _=>HP.out,fun h=>by omega⟩
     case measure=>simp[intOf]
   ·subst P5;go_wp2_with fail;refine(Tryz.utf8_ValidRune gr _).mono ?_;rintro e w' ⟨rfl,rfl⟩;rw[Ux]
    cases hp:jd gr
    ·have HF:=z7 (KV (ra:=ra) (rb:=rb) (fi:=fi) (ne:=ne) (dg:=dg.data.toList) (mi:=mi) (po:=po) (gr:=gr) (.inr (.inr hp)));clear hp;go_wp2;go_ret;refine⟨j5,?_⟩;rw[HF.out];exact rfl
    ·have HP:=z7 hp;clear hp;go_wp2;go_roundw
     case rel=>exact⟨3,by omega,by go_num,by first|rfl|trivial,fun _=>p1 (by omega),fun _=>p2 (by omega),fun _=>HP.out⟩
     case measure=>simp[intOf]
   ·subst hk3;by_cases n0:ne=0
    ·have n0':((ne:Int)==0)=true:=by simp[n0]
     by_cases d0:dg.data.toList=[]
     ·have d0':dg.toList.isEmpty=true:=by rw[toList_eq,d0];rfl
      obtain⟨g0,g1,g2,g3,g4,g5,g6⟩:=Ei.b;obtain⟨a0,Nr,a2,a3,a4,a5,a6,a7,a8⟩:=Ei.a;go_wp2_with fail;refine vz ?_;intro W6 G7;have hR6:RW w.heap.size (.slice ca cn ck) (.slice oa on ok) (.slice a1 n1 k1) (.slice a9 n9 k9) mi po gr fi ne ((fi:Nat):Int) ⟨#[48,49,50,51,52,53,54,55,56,57]⟩ W6:=by rw[G7];exact((Ei.zmu _).zmq _)
      have Gh:Below w.heap.size wr W6:=by rw[G7];(repeat(first|(with_reducible exact zg _ _)|(with_reducible refine zR ?_ ?_ _;rotate_left;focus(first|(simp;done)|(simp;omega)))))
      have s46:ZH w.heap.size wr W6:=by rw[G7];exact(((ZH.refl _ _).set _ _ (.inr rfl)).set _ _ (.inl rfl))
      have hz6:w.heap.size+2<=W6.heap.size:=by have:=Gh.size;omega
      clear a0 Nr a2 a3 a4 a5 a6 a7 a8 g0 g1 g2 g3 g4 g5 g6 G7;have YA:=j5.trans Gh;have hT6:=Z6 hT YA;refine(Tryz.utf8_ValidString ⟨#[48,49,50,51,52,53,54,55,56,57]⟩ W6 (by first|omega|decide) hT6).mono ?_;rintro e W7 ⟨rfl,jI⟩
      cases hv:za (⟨#[48,49,50,51,52,53,54,55,56,57]⟩:ByteArray).data.toList
      ·exact absurd hv (by decide)
      ·have CV:=z7 hv;clear hv;have Ns:=hR6.below jI (by omega);have KU:Below w.heap.size w W7:=YA.trans (jI.mono (by omega));have cH:ZH w.heap.size W3 W7:=(s34.trans s46).trans (ZH.below jI);have hz7:w.heap.size+2<=W7.heap.size:=by have:=jI.size;omega
       obtain⟨a0,Nr,a2,a3,a4,a5,a6,a7,a8⟩:=Ns.a;go_wp2_with fail;refine(Tryz.utf8_RuneCountInString ⟨#[48,49,50,51,52,53,54,55,56,57]⟩ W7 (by first|omega|decide)).mono ?_;rintro e W8 ⟨rfl,pos,rfl⟩;have U0:(vo (⟨#[48,49,50,51,52,53,54,55,56,57]⟩:ByteArray).data.toList).2=(⟨#[48,49,50,51,52,53,54,55,56,57]⟩:ByteArray).data.toList.length:=(bG _).1 CV.out;have Vm:=gU ⟨#[48,49,50,51,52,53,54,55,56,57]⟩ (⟨#[48,49,50,51,52,53,54,55,56,57]⟩:ByteArray).size 0 (by omega) (by omega) (by rw[zZ,U0,xN];simp);rw[zZ] at Vm;rw[show zW ⟨#[48,49,50,51,52,53,54,55,56,57]⟩=(vo (⟨#[48,49,50,51,52,53,54,55,56,57]⟩:ByteArray).data.toList).1.length from Vm.1];have B6:=z7 Vm;have Dh:=z7 U0;clear Vm U0;obtain⟨cnt,ZX⟩:∃ n,(vo (⟨#[48,49,50,51,52,53,54,55,56,57]⟩:ByteArray).data.toList).1.length=n:=⟨_,rfl⟩;rw[ZX];have Uu:=z7 ZX;clear ZX;by_cases dV:cnt=10
       ·subst dV;have UJ:zO ⟨#[48,49,50,51,52,53,54,55,56,57]⟩ (⟨#[48,49,50,51,52,53,54,55,56,57]⟩:ByteArray).size 0 #[]=((xO (⟨#[48,49,50,51,52,53,54,55,56,57]⟩:ByteArray).data.toList).map (zy .i32)).toArray:=by have:=B6.out.2 #[];simpa using this
        have Jg:(xO (⟨#[48,49,50,51,52,53,54,55,56,57]⟩:ByteArray).data.toList).length=10:=by
         have:=congrArg zH (gV _ (⟨#[48,49,50,51,52,53,54,55,56,57]⟩:ByteArray).data.toList (zj _));rw[zD,Uu.out] at this;exact this
        obtain⟨rs,bF⟩:∃ r:List Int,r=xO (⟨#[48,49,50,51,52,53,54,55,56,57]⟩:ByteArray).data.toList:=⟨_,rfl⟩;rw[←bF] at UJ Jg;have hcv:∀ W:World,(convert 9 147 (.string ⟨#[48,49,50,51,52,53,54,55,56,57]⟩)).run Tryz.prog W = .ok (.slice (some ⟨W.heap.size,0,none⟩) 10 (grownCap W 10 0 21)) (W.drew.alloc (.cells ((rs.map (zy .i32)).toArray++zk (grownCap W 10 0 21 - 10) (.int .i32 0)) 21)):=by
         intro W;have:=run_runes_of_string (P:=Tryz.prog) W 9 147 21 ⟨#[48,49,50,51,52,53,54,55,56,57]⟩ underlying9 underlying147 underlying21 (by rw[UJ];simp;omega);rw[UJ] at this;simpa[Jg] using this
        have HRF:=z7 UJ;have aZ:=z7 bF;clear UJ bF;go_wp2_with fail;have jh:(W7.iter ⟨#[48,49,50,51,52,53,54,55,56,57]⟩ pos).drew.cell? ⟨w.heap.size,7,none⟩=some (.string ⟨#[48,49,50,51,52,53,54,55,56,57]⟩):=by
         show(W7.alloc _).cell? _=_;rw[zu _ _ _ (by simp;omega)];exact a7
        refine rt (fun W':World=>W'.cell? ⟨w.heap.size,7,none⟩=some (.string ⟨#[48,49,50,51,52,53,54,55,56,57]⟩)) [0,1,2,3,4,5] 2 jh ?_;(iterate 6 ((first|refine ty ?_|refine tn ?_);try simp only[pl]))
        refine xk ?_;refine xg 6 (by kernel_rfl) rfl (fun K hK=>?_);go_simp;refine hK.out _ _ ?_ (fun _=>?_)
        ·show((W7.iter ⟨#[48,49,50,51,52,53,54,55,56,57]⟩ pos).alloc _).cell? _=_;rw[dJ (by show _<(W7.alloc _).heap.size;simp;omega)];exact jh
        clear hK K;refine xg 7 (by kernel_rfl) rfl (fun K hK=>?_);go_simp;have Nt:(((W7.iter ⟨#[48,49,50,51,52,53,54,55,56,57]⟩ pos).alloc (.cells ((rs.map (zy .i32)).toArray++zk (grownCap (W7.iter ⟨#[48,49,50,51,52,53,54,55,56,57]⟩ pos).drew 10 0 21 - 10) (.int .i32 0)) 21)).drew.drew).heap[w.heap.size+1]? = W7.heap[w.heap.size+1]? := by
         show((W7.alloc _).alloc _).heap[w.heap.size+1]? = _;rw[zx _ _ _ (by simp;omega),zx _ _ _ (by omega)]
        have EO:=Nt.trans Ns.hB;have Gw:=Qj (W7.iter ⟨#[48,49,50,51,52,53,54,55,56,57]⟩ pos) rs (zk (grownCap (W7.iter ⟨#[48,49,50,51,52,53,54,55,56,57]⟩ pos).drew 10 0 21 - 10) (.int .i32 0)) (grownCap (W7.iter ⟨#[48,49,50,51,52,53,54,55,56,57]⟩ pos).drew 10 0 21) (w.heap.size+1) Jg EO (by simp);rw[Gw];simp only[zN];refine hK.out _ _ ?_ (fun _=>?_)
        ·rw[zX _ _ _ _ _ (fun h=>absurd h (by simp))];show((W7.iter ⟨#[48,49,50,51,52,53,54,55,56,57]⟩ pos).alloc _).cell? _=_;rw[dJ (by show _<(W7.alloc _).heap.size;simp;omega)];exact jh
        clear hK K;refine wpAnyH_done (by kernel_rfl) ?_ _;go_wp2;refine bodyPost_ret (v := .pointer (some ⟨w.heap.size+1,0,none⟩)) ?_ rfl ?_
        ·simp[results,results43,go_sem]
        ·have HD:(⟨#[48,49,50,51,52,53,54,55,56,57]⟩:ByteArray).data.toList=Za dg.data.toList:=by rw[d0];rfl
         have HK:=JS (fi:=fi) (ne:=ne) HD r3 r4 r5 (p1 (by omega)) (p2 (by omega)) (p3 (by omega)) Dh.out Uu.out;rw[show ra=true from r1,show rb=true from r2];exact Qk (nx:=fi) Ns KU hz7 Jg (by rw[if_pos n0]) aZ.out HD HK (s13.trans cH) cH HZW.out VO Ul CJ HQ1.out SL.out
       ·exact absurd (Uu.out.symm.trans Bd) dV
     ·have d0':dg.toList.isEmpty=false:=by rw[toList_eq];simpa using d0
      obtain⟨g0,g1,g2,g3,g4,g5,g6⟩:=Ei.b;obtain⟨a0,Nr,a2,a3,a4,a5,a6,a7,a8⟩:=Ei.a;go_wp2_with fail;refine vz ?_;intro W6 G7;have hR6:RW w.heap.size (.slice ca cn ck) (.slice oa on ok) (.slice a1 n1 k1) (.slice a9 n9 k9) mi po gr fi ne ((fi:Nat):Int) dg W6:=by rw[G7];exact(Ei.zmu _)
      have Gh:Below w.heap.size wr W6:=by rw[G7];(repeat(first|(with_reducible exact zg _ _)|(with_reducible refine zR ?_ ?_ _;rotate_left;focus(first|(simp;done)|(simp;omega)))))
      have s46:ZH w.heap.size wr W6:=by rw[G7];exact((ZH.refl _ _).set _ _ (.inr rfl))
      have hz6:w.heap.size+2<=W6.heap.size:=by have:=Gh.size;omega
      clear a0 Nr a2 a3 a4 a5 a6 a7 a8 g0 g1 g2 g3 g4 g5 g6 G7;have YA:=j5.trans Gh;have hT6:=Z6 hT YA;refine(Tryz.utf8_ValidString dg W6 (by first|omega|decide) hT6).mono ?_;rintro e W7 ⟨rfl,jI⟩
      cases hv:za (dg:ByteArray).data.toList
      ·have HF:=z7 (Bf (ra:=ra) (rb:=rb) (fi:=fi) (ne:=ne) (mi:=mi) (po:=po) (gr:=gr) hv);clear hv;go_wp2;go_ret;refine⟨YA.trans (jI.mono (by omega)),?_⟩;rw[HF.out];exact rfl
      ·have CV:=z7 hv;clear hv;have Ns:=hR6.below jI (by omega);have KU:Below w.heap.size w W7:=YA.trans (jI.mono (by omega));have cH:ZH w.heap.size W3 W7:=(s34.trans s46).trans (ZH.below jI);have hz7:w.heap.size+2<=W7.heap.size:=by have:=jI.size;omega
       obtain⟨a0,Nr,a2,a3,a4,a5,a6,a7,a8⟩:=Ns.a;go_wp2_with fail;refine(Tryz.utf8_RuneCountInString dg W7 (by first|omega|decide)).mono ?_;rintro e W8 ⟨rfl,pos,rfl⟩;have U0:(vo (dg:ByteArray).data.toList).2=(dg:ByteArray).data.toList.length:=(bG _).1 CV.out;have Vm:=gU dg (dg:ByteArray).size 0 (by omega) (by omega) (by rw[zZ,U0,xN];simp);rw[zZ] at Vm;rw[show zW dg=(vo (dg:ByteArray).data.toList).1.length from Vm.1];have B6:=z7 Vm;have Dh:=z7 U0;clear Vm U0;obtain⟨cnt,ZX⟩:∃ n,(vo (dg:ByteArray).data.toList).1.length=n:=⟨_,rfl⟩;rw[ZX];have Uu:=z7 ZX;clear ZX;by_cases dV:cnt=10
       ·subst dV;have UJ:zO dg (dg:ByteArray).size 0 #[]=((xO (dg:ByteArray).data.toList).map (zy .i32)).toArray:=by have:=B6.out.2 #[];simpa using this
        have Jg:(xO (dg:ByteArray).data.toList).length=10:=by
         have:=congrArg zH (gV _ (dg:ByteArray).data.toList (zj _));rw[zD,Uu.out] at this;exact this
        obtain⟨rs,bF⟩:∃ r:List Int,r=xO (dg:ByteArray).data.toList:=⟨_,rfl⟩;rw[←bF] at UJ Jg;have hcv:∀ W:World,(convert 9 147 (.string dg)).run Tryz.prog W = .ok (.slice (some ⟨W.heap.size,0,none⟩) 10 (grownCap W 10 0 21)) (W.drew.alloc (.cells ((rs.map (zy .i32)).toArray++zk (grownCap W 10 0 21 - 10) (.int .i32 0)) 21)):=by
         intro W;have:=run_runes_of_string (P:=Tryz.prog) W 9 147 21 dg underlying9 underlying147 underlying21 (by rw[UJ];simp;omega);rw[UJ] at this;simpa[Jg] using this
        have HRF:=z7 UJ;have aZ:=z7 bF;clear UJ bF;go_wp2_with fail;have jh:(W7.iter dg pos).drew.cell? ⟨w.heap.size,7,none⟩=some (.string dg):=by
         show(W7.alloc _).cell? _=_;rw[zu _ _ _ (by simp;omega)];exact a7
        refine rt (fun W':World=>W'.cell? ⟨w.heap.size,7,none⟩=some (.string dg)) [0,1,2,3,4,5] 2 jh ?_;(iterate 6 ((first|refine ty ?_|refine tn ?_);try simp only[pl]))
        refine xk ?_;refine xg 6 (by kernel_rfl) rfl (fun K hK=>?_);go_simp;refine hK.out _ _ ?_ (fun _=>?_)
        ·show((W7.iter dg pos).alloc _).cell? _=_;rw[dJ (by show _<(W7.alloc _).heap.size;simp;omega)];exact jh
        clear hK K;refine xg 7 (by kernel_rfl) rfl (fun K hK=>?_);go_simp;have Nt:(((W7.iter dg pos).alloc (.cells ((rs.map (zy .i32)).toArray++zk (grownCap (W7.iter dg pos).drew 10 0 21 - 10) (.int .i32 0)) 21)).drew.drew).heap[w.heap.size+1]? = W7.heap[w.heap.size+1]? := by
         show((W7.alloc _).alloc _).heap[w.heap.size+1]? = _;rw[zx _ _ _ (by simp;omega),zx _ _ _ (by omega)]
        have EO:=Nt.trans Ns.hB;have Gw:=Qj (W7.iter dg pos) rs (zk (grownCap (W7.iter dg pos).drew 10 0 21 - 10) (.int .i32 0)) (grownCap (W7.iter dg pos).drew 10 0 21) (w.heap.size+1) Jg EO (by simp);rw[Gw];simp only[zN];refine hK.out _ _ ?_ (fun _=>?_)
        ·rw[zX _ _ _ _ _ (fun h=>absurd h (by simp))];show((W7.iter dg pos).alloc _).cell? _=_;rw[dJ (by show _<(W7.alloc _).heap.size;simp;omega)];exact jh
        clear hK K;refine wpAnyH_done (by kernel_rfl) ?_ _;go_wp2;refine bodyPost_ret (v := .pointer (some ⟨w.heap.size+1,0,none⟩)) ?_ rfl ?_
        ·simp[results,results43,go_sem]
        ·have HD:(dg:ByteArray).data.toList=Za dg.data.toList:=by unfold Za;rw[if_neg d0]
         have HK:=JS (fi:=fi) (ne:=ne) HD r3 r4 r5 (p1 (by omega)) (p2 (by omega)) (p3 (by omega)) Dh.out Uu.out;rw[show ra=true from r1,show rb=true from r2];exact Qk (nx:=fi) Ns KU hz7 Jg (by rw[if_pos n0]) aZ.out HD HK (s13.trans cH) cH HZW.out VO Ul CJ HQ1.out SL.out
       ·have ydu:((cnt:Int) !=10)=true:=by simp;omega
        have HF:=z7 (Bb (ra:=ra) (rb:=rb) (fi:=fi) (ne:=ne) (mi:=mi) (po:=po) (gr:=gr) d0 (fun h=>dV (Uu.out.symm.trans h)));go_wp2;go_ret;refine⟨KU.trans (Uv _ _ _ _ (by omega)),?_⟩;rw[HF.out];exact rfl
    ·have n0':((ne:Int)==0)=false:=by simpa using n0
     by_cases d0:dg.data.toList=[]
     ·have d0':dg.toList.isEmpty=true:=by rw[toList_eq,d0];rfl
      obtain⟨g0,g1,g2,g3,g4,g5,g6⟩:=Ei.b;obtain⟨a0,Nr,a2,a3,a4,a5,a6,a7,a8⟩:=Ei.a;go_wp2_with fail;refine vz ?_;intro W6 G7;have hR6:RW w.heap.size (.slice ca cn ck) (.slice oa on ok) (.slice a1 n1 k1) (.slice a9 n9 k9) mi po gr fi ne ((ne:Nat):Int) ⟨#[48,49,50,51,52,53,54,55,56,57]⟩ W6:=by rw[G7];exact(Ei.zmq _)
      have Gh:Below w.heap.size wr W6:=by rw[G7];(repeat(first|(with_reducible exact zg _ _)|(with_reducible refine zR ?_ ?_ _;rotate_left;focus(first|(simp;done)|(simp;omega)))))
      have s46:ZH w.heap.size wr W6:=by rw[G7];exact((ZH.refl _ _).set _ _ (.inl rfl))
      have hz6:w.heap.size+2<=W6.heap.size:=by have:=Gh.size;omega
      clear a0 Nr a2 a3 a4 a5 a6 a7 a8 g0 g1 g2 g3 g4 g5 g6 G7;have YA:=j5.trans Gh;have hT6:=Z6 hT YA;refine(Tryz.utf8_ValidString ⟨#[48,49,50,51,52,53,54,55,56,57]⟩ W6 (by first|omega|decide) hT6).mono ?_;rintro e W7 ⟨rfl,jI⟩
      cases hv:za (⟨#[48,49,50,51,52,53,54,55,56,57]⟩:ByteArray).data.toList
      ·exact absurd hv (by decide)
      ·have CV:=z7 hv;clear hv;have Ns:=hR6.below jI (by omega);have KU:Below w.heap.size w W7:=YA.trans (jI.mono (by omega));have cH:ZH w.heap.size W3 W7:=(s34.trans s46).trans (ZH.below jI);have hz7:w.heap.size+2<=W7.heap.size:=by have:=jI.size;omega
       obtain⟨a0,Nr,a2,a3,a4,a5,a6,a7,a8⟩:=Ns.a;go_wp2_with fail;refine(Tryz.utf8_RuneCountInString ⟨#[48,49,50,51,52,53,54,55,56,57]⟩ W7 (by first|omega|decide)).mono ?_;rintro e W8 ⟨rfl,pos,rfl⟩;have U0:(vo (⟨#[48,49,50,51,52,53,54,55,56,57]⟩:ByteArray).data.toList).2=(⟨#[48,49,50,51,52,53,54,55,56,57]⟩:ByteArray).data.toList.length:=(bG _).1 CV.out;have Vm:=gU ⟨#[48,49,50,51,52,53,54,55,56,57]⟩ (⟨#[48,49,50,51,52,53,54,55,56,57]⟩:ByteArray).size 0 (by omega) (by omega) (by rw[zZ,U0,xN];simp);rw[zZ] at Vm;rw[show zW ⟨#[48,49,50,51,52,53,54,55,56,57]⟩=(vo (⟨#[48,49,50,51,52,53,54,55,56,57]⟩:ByteArray).data.toList).1.length from Vm.1];have B6:=z7 Vm;have Dh:=z7 U0;clear Vm U0;obtain⟨cnt,ZX⟩:∃ n,(vo (⟨#[48,49,50,51,52,53,54,55,56,57]⟩:ByteArray).data.toList).1.length=n:=⟨_,rfl⟩;rw[ZX];have Uu:=z7 ZX;clear ZX;by_cases dV:cnt=10
       ·subst dV;have UJ:zO ⟨#[48,49,50,51,52,53,54,55,56,57]⟩ (⟨#[48,49,50,51,52,53,54,55,56,57]⟩:ByteArray).size 0 #[]=((xO (⟨#[48,49,50,51,52,53,54,55,56,57]⟩:ByteArray).data.toList).map (zy .i32)).toArray:=by have:=B6.out.2 #[];simpa using this
        have Jg:(xO (⟨#[48,49,50,51,52,53,54,55,56,57]⟩:ByteArray).data.toList).length=10:=by
         have:=congrArg zH (gV _ (⟨#[48,49,50,51,52,53,54,55,56,57]⟩:ByteArray).data.toList (zj _));rw[zD,Uu.out] at this;exact this
        obtain⟨rs,bF⟩:∃ r:List Int,r=xO (⟨#[48,49,50,51,52,53,54,55,56,57]⟩:ByteArray).data.toList:=⟨_,rfl⟩;rw[←bF] at UJ Jg;have hcv:∀ W:World,(convert 9 147 (.string ⟨#[48,49,50,51,52,53,54,55,56,57]⟩)).run Tryz.prog W = .ok (.slice (some ⟨W.heap.size,0,none⟩) 10 (grownCap W 10 0 21)) (W.drew.alloc (.cells ((rs.map (zy .i32)).toArray++zk (grownCap W 10 0 21 - 10) (.int .i32 0)) 21)):=by
         intro W;have:=run_runes_of_string (P:=Tryz.prog) W 9 147 21 ⟨#[48,49,50,51,52,53,54,55,56,57]⟩ underlying9 underlying147 underlying21 (by rw[UJ];simp;omega);rw[UJ] at this;simpa[Jg] using this
        have HRF:=z7 UJ;have aZ:=z7 bF;clear UJ bF;go_wp2_with fail;have jh:(W7.iter ⟨#[48,49,50,51,52,53,54,55,56,57]⟩ pos).drew.cell? ⟨w.heap.size,7,none⟩=some (.string ⟨#[48,49,50,51,52,53,54,55,56,57]⟩):=by
         show(W7.alloc _).cell? _=_;rw[zu _ _ _ (by simp;omega)];exact a7
        refine rt (fun W':World=>W'.cell? ⟨w.heap.size,7,none⟩=some (.string ⟨#[48,49,50,51,52,53,54,55,56,57]⟩)) [0,1,2,3,4,5] 2 jh ?_;(iterate 6 ((first|refine ty ?_|refine tn ?_);try simp only[pl]))
        refine xk ?_;refine xg 6 (by kernel_rfl) rfl (fun K hK=>?_);go_simp;refine hK.out _ _ ?_ (fun _=>?_)
        ·show((W7.iter ⟨#[48,49,50,51,52,53,54,55,56,57]⟩ pos).alloc _).cell? _=_;rw[dJ (by show _<(W7.alloc _).heap.size;simp;omega)];exact jh
        clear hK K;refine xg 7 (by kernel_rfl) rfl (fun K hK=>?_);go_simp;have Nt:(((W7.iter ⟨#[48,49,50,51,52,53,54,55,56,57]⟩ pos).alloc (.cells ((rs.map (zy .i32)).toArray++zk (grownCap (W7.iter ⟨#[48,49,50,51,52,53,54,55,56,57]⟩ pos).drew 10 0 21 - 10) (.int .i32 0)) 21)).drew.drew).heap[w.heap.size+1]? = W7.heap[w.heap.size+1]? := by
         show((W7.alloc _).alloc _).heap[w.heap.size+1]? = _;rw[zx _ _ _ (by simp;omega),zx _ _ _ (by omega)]
        have EO:=Nt.trans Ns.hB;have Gw:=Qj (W7.iter ⟨#[48,49,50,51,52,53,54,55,56,57]⟩ pos) rs (zk (grownCap (W7.iter ⟨#[48,49,50,51,52,53,54,55,56,57]⟩ pos).drew 10 0 21 - 10) (.int .i32 0)) (grownCap (W7.iter ⟨#[48,49,50,51,52,53,54,55,56,57]⟩ pos).drew 10 0 21) (w.heap.size+1) Jg EO (by simp);rw[Gw];simp only[zN];refine hK.out _ _ ?_ (fun _=>?_)
        ·rw[zX _ _ _ _ _ (fun h=>absurd h (by simp))];show((W7.iter ⟨#[48,49,50,51,52,53,54,55,56,57]⟩ pos).alloc _).cell? _=_;rw[dJ (by show _<(W7.alloc _).heap.size;simp;omega)];exact jh
        clear hK K;refine wpAnyH_done (by kernel_rfl) ?_ _;go_wp2;refine bodyPost_ret (v := .pointer (some ⟨w.heap.size+1,0,none⟩)) ?_ rfl ?_
        ·simp[results,results43,go_sem]
        ·have HD:(⟨#[48,49,50,51,52,53,54,55,56,57]⟩:ByteArray).data.toList=Za dg.data.toList:=by rw[d0];rfl
         have HK:=JS (fi:=fi) (ne:=ne) HD r3 r4 r5 (p1 (by omega)) (p2 (by omega)) (p3 (by omega)) Dh.out Uu.out;rw[show ra=true from r1,show rb=true from r2];exact Qk (nx:=ne) Ns KU hz7 Jg (by rw[if_neg n0]) aZ.out HD HK (s13.trans cH) cH HZW.out VO Ul CJ HQ1.out SL.out
       ·exact absurd (Uu.out.symm.trans Bd) dV
     ·have d0':dg.toList.isEmpty=false:=by rw[toList_eq];simpa using d0
      obtain⟨g0,g1,g2,g3,g4,g5,g6⟩:=Ei.b;obtain⟨a0,Nr,a2,a3,a4,a5,a6,a7,a8⟩:=Ei.a;go_wp2_with fail;refine vz ?_;intro W6 G7;have hR6:RW w.heap.size (.slice ca cn ck) (.slice oa on ok) (.slice a1 n1 k1) (.slice a9 n9 k9) mi po gr fi ne ((ne:Nat):Int) dg W6:=by rw[G7];exact Ei
      have Gh:Below w.heap.size wr W6:=by rw[G7];(repeat(first|(with_reducible exact zg _ _)|(with_reducible refine zR ?_ ?_ _;rotate_left;focus(first|(simp;done)|(simp;omega)))))
      have s46:ZH w.heap.size wr W6:=by rw[G7];exact(ZH.refl _ _)
      have hz6:w.heap.size+2<=W6.heap.size:=by have:=Gh.size;omega
      clear a0 Nr a2 a3 a4 a5 a6 a7 a8 g0 g1 g2 g3 g4 g5 g6 G7;have YA:=j5.trans Gh;have hT6:=Z6 hT YA;refine(Tryz.utf8_ValidString dg W6 (by first|omega|decide) hT6).mono ?_;rintro e W7 ⟨rfl,jI⟩
      cases hv:za (dg:ByteArray).data.toList
      ·have HF:=z7 (Bf (ra:=ra) (rb:=rb) (fi:=fi) (ne:=ne) (mi:=mi) (po:=po) (gr:=gr) hv);clear hv;go_wp2;go_ret;refine⟨YA.trans (jI.mono (by omega)),?_⟩;rw[HF.out];exact rfl
      ·have CV:=z7 hv;clear hv;have Ns:=hR6.below jI (by omega);have KU:Below w.heap.size w W7:=YA.trans (jI.mono (by omega));have cH:ZH w.heap.size W3 W7:=(s34.trans s46).trans (ZH.below jI);have hz7:w.heap.size+2<=W7.heap.size:=by have:=jI.size;omega
       obtain⟨a0,Nr,a2,a3,a4,a5,a6,a7,a8⟩:=Ns.a;go_wp2_with fail;refine(Tryz.utf8_RuneCountInString dg W7 (by first|omega|decide)).mono ?_;rintro e W8 ⟨rfl,pos,rfl⟩;have U0:(vo (dg:ByteArray).data.toList).2=(dg:ByteArray).data.toList.length:=(bG _).1 CV.out;have Vm:=gU dg (dg:ByteArray).size 0 (by omega) (by omega) (by rw[zZ,U0,xN];simp);rw[zZ] at Vm;rw[show zW dg=(vo (dg:ByteArray).data.toList).1.length from Vm.1];have B6:=z7 Vm;have Dh:=z7 U0;clear Vm U0;obtain⟨cnt,ZX⟩:∃ n,(vo (dg:ByteArray).data.toList).1.length=n:=⟨_,rfl⟩;rw[ZX];have Uu:=z7 ZX;clear ZX;by_cases dV:cnt=10
       ·subst dV;have UJ:zO dg (dg:ByteArray).size 0 #[]=((xO (dg:ByteArray).data.toList).map (zy .i32)).toArray:=by have:=B6.out.2 #[];simpa using this
        have Jg:(xO (dg:ByteArray).data.toList).length=10:=by
         have:=congrArg zH (gV _ (dg:ByteArray).data.toList (zj _));rw[zD,Uu.out] at this;exact this
        obtain⟨rs,bF⟩:∃ r:List Int,r=xO (dg:ByteArray).data.toList:=⟨_,rfl⟩;rw[←bF] at UJ Jg;have hcv:∀ W:World,(convert 9 147 (.string dg)).run Tryz.prog W = .ok (.slice (some ⟨W.heap.size,0,none⟩) 10 (grownCap W 10 0 21)) (W.drew.alloc (.cells ((rs.map (zy .i32)).toArray++zk (grownCap W 10 0 21 - 10) (.int .i32 0)) 21)):=by
         intro W;have:=run_runes_of_string (P:=Tryz.prog) W 9 147 21 dg underlying9 underlying147 underlying21 (by rw[UJ];simp;omega);rw[UJ] at this;simpa[Jg] using this
        have HRF:=z7 UJ;have aZ:=z7 bF;clear UJ bF;go_wp2_with fail;have jh:(W7.iter dg pos).drew.cell? ⟨w.heap.size,7,none⟩=some (.string dg):=by
         show(W7.alloc _).cell? _=_;rw[zu _ _ _ (by simp;omega)];exact a7
        refine rt (fun W':World=>W'.cell? ⟨w.heap.size,7,none⟩=some (.string dg)) [0,1,2,3,4,5] 2 jh ?_;(iterate 6 ((first|refine ty ?_|refine tn ?_);try simp only[pl]))
        refine xk ?_;refine xg 6 (by kernel_rfl) rfl (fun K hK=>?_);go_simp;refine hK.out _ _ ?_ (fun _=>?_)
        ·show((W7.iter dg pos).alloc _).cell? _=_;rw[dJ (by show _<(W7.alloc _).heap.size;simp;omega)];exact jh
        clear hK K;refine xg 7 (by kernel_rfl) rfl (fun K hK=>?_);go_simp;have Nt:(((W7.iter dg pos).alloc (.cells ((rs.map (zy .i32)).toArray++zk (grownCap (W7.iter dg pos).drew 10 0 21 - 10) (.int .i32 0)) 21)).drew.drew).heap[w.heap.size+1]? = W7.heap[w.heap.size+1]? := by
         show((W7.alloc _).alloc _).heap[w.heap.size+1]? = _;rw[zx _ _ _ (by simp;omega),zx _ _ _ (by omega)]
        have EO:=Nt.trans Ns.hB;have Gw:=Qj (W7.iter dg pos) rs (zk (grownCap (W7.iter dg pos).drew 10 0 21 - 10) (.int .i32 0)) (grownCap (W7.iter dg pos).drew 10 0 21) (w.heap.size+1) Jg EO (by simp);rw[Gw];simp only[zN];refine hK.out _ _ ?_ (fun _=>?_)
        ·rw[zX _ _ _ _ _ (fun h=>absurd h (by simp))];show((W7.iter dg pos).alloc _).cell? _=_;rw[dJ (by show _<(W7.alloc _).heap.size;simp;omega)];exact jh
        clear hK K;refine wpAnyH_done (by kernel_rfl) ?_ _;go_wp2;refine bodyPost_ret (v := .pointer (some ⟨w.heap.size+1,0,none⟩)) ?_ rfl ?_
        ·simp[results,results43,go_sem]
        ·have HD:(dg:ByteArray).data.toList=Za dg.data.toList:=by unfold Za;rw[if_neg d0]
         have HK:=JS (fi:=fi) (ne:=ne) HD r3 r4 r5 (p1 (by omega)) (p2 (by omega)) (p3 (by omega)) Dh.out Uu.out;rw[show ra=true from r1,show rb=true from r2];exact Qk (nx:=ne) Ns KU hz7 Jg (by rw[if_neg n0]) aZ.out HD HK (s13.trans cH) cH HZW.out VO Ul CJ HQ1.out SL.out
       ·have ydu:((cnt:Int) !=10)=true:=by simp;omega
        have HF:=z7 (Bb (ra:=ra) (rb:=rb) (fi:=fi) (ne:=ne) (mi:=mi) (po:=po) (gr:=gr) d0 (fun h=>dV (Uu.out.symm.trans h)));go_wp2;go_ret;refine⟨KU.trans (Uv _ _ _ _ (by omega)),?_⟩;rw[HF.out];exact rfl
 ·have HF:=z7 (cE (gr:=gr) (dg:=dg.data.toList) Ui);go_wp2;all_goals first
   |(exfalso;refine Ui ⟨by assumption,by assumption,by assumption,by assumption,?_⟩;rename_i hh;simp_all;done)
   |(refine bodyPost_ret (v := .pointer none) ?_ rfl ?_
     focus(simp[results,results43,go_sem, *])
     refine⟨Z7.trans ((zg _ _).setCell (p:=⟨w.heap.size+1,1,none⟩) (by simp) _),?_⟩;first
      | rw[HF.out]
      |(have hf:=HF.out;rw[‹ra=true›,‹rb=true›] at hf;rw[hf])
     exact rfl)
theorem F4(r:Int)(h:jd r=true):enc r=zV r:=by
 have h1:(0<=r/\r<=1114111)/\(r<55296\/57343<r):=by unfold jd at h;simp at h;omega
 obtain⟨⟨ha,hb⟩,hc⟩:=h1;obtain⟨n,rfl⟩:∃ n:Nat,r=n:=⟨r.toNat,by omega⟩;have hv:Utf8.valid (n:Int)=true:=by unfold Utf8.valid;simp;omega
 have t:∀ x:Int,∀ k:Nat,x=(k:Int)->x.toNat.toUInt8=UInt8.ofNat k:=fun x k h=>by rw[h];rfl
 unfold enc Utf8.encode zV;simp only[hv,if_true,Int.toNat_natCast];by_cases c1:n<128
 ·rw[if_pos (show n<0x80 from c1),Lib.encodeRuneZ_one (by omega) (by omega)];simp only[zS,zc];rw[t _ n rfl]
 rw[if_neg (show ¬n<0x80 from c1)];by_cases c2:n<2048
 ·rw[if_pos (show n<0x800 from c2),Lib.encodeRuneZ_two (by omega) (by omega)];simp only[zS,zc];rw[t _ (192+n / 64) (by omega),t _ (128+n % 64) (by omega)]
 rw[if_neg (show ¬n<0x800 from c2)];by_cases c3:n<65536
 ·rw[if_pos (show n<0x10000 from c3),Lib.encodeRuneZ_three (by omega)];simp only[zS,zc];rw[t _ (224+n / 4096) (by omega),t _ (128+n / 64 % 64) (by omega),t _ (128+n % 64) (by omega)]
 ·rw[if_neg (show ¬n<0x10000 from c3),Lib.encodeRuneZ_four (by omega) (by omega)];simp only[zS,zc];rw[t _ (240+n / 262144) (by omega),t _ (128+n / 4096 % 64) (by omega),t _ (128+n / 64 % 64) (by omega),t _ (128+n % 64) (by omega)]
theorem pj(l:List UInt8):(dL l).1<=1114111:=by
 have hb:=(l.getD 0 0).toNat_lt;unfold dL Lib.decodeN;repeat' split
 all_goals (simp only[];omega)
theorem Uq:∀ (n:Nat) (l:List UInt8),l.length<=n->∀ x∈xO l,WE x
 | 0,l,h,x,hx=>by
  have:l=[]:=zF (by omega);subst this;rw[kC] at hx;cases hx
 | n+1,l,h,x,hx=>by
  by_cases hl:l=[]\/xr l=0
  ·rw[xO,dif_pos hl] at hx;cases hx
  ·simp only[not_or] at hl;rw[jb hl.1 hl.2] at hx;have hp:=zP.2 hl.1;rcases List.mem_cons.1 hx with rfl|hx
   ·have:=pj l;exact⟨by omega,by omega⟩
   ·exact Uq n _ (by simp;omega) x hx
theorem gu{f g:Nat->List UInt8}:∀ (l:List Nat),(∀ i∈l,f i=g i)->l.flatMap f=l.flatMap g
 | [],_=>rfl
 | a::l,h=>by rw[zf,zf,h a (by simp),gu l (fun i hi=>h i (by simp[hi]))]
theorem F5(f:Nat->List UInt8)(g:List UInt8)(n:Nat)(h:0<n):(zG n).flatMap (fun i=>(if i=0 then g else [])++f i)=g++(zG n).flatMap f:=by
 match n,h with
 | n+1,_ =>
  rw[zn,zf,zf,zL,zL];simp
theorem XP(sh:UInt8->List UInt8):∀ w:List UInt8,(zG w.length).flatMap (fun i=>sh (w.getD i 0))=w.flatMap sh
 | []=>rfl
 | c::t=>by
  rw[List.length_cons,zn,zf,zL,zf,←XP sh t];rfl
def JZ(m nx left:Nat):Bool:=decide (m<=left) && (left - m) % nx==0
theorem Sm(m nx left:Nat)(h0:0<left)(hn:0<nx):JZ m nx (left+m)=JZ nx nx left:=by
 unfold JZ;rw[Nat.add_sub_cancel];by_cases h:nx<=left
 ·obtain⟨k,rfl⟩:∃ k,left=k+nx:=⟨left - nx,by omega⟩;simp
 ·rw[Nat.mod_eq_of_lt (by omega)];have:(left==0)=false:=by simp;omega
  simp[h,this]
theorem cL(sh:UInt8->List UInt8)(Gr:List (List UInt8))(g:List UInt8)(nx:Nat)(Kn:0<nx)(Jh:∀ w:List UInt8,w.all xQ=true->YW Gr w=w.flatMap sh) :
  ∀ (n:Nat) (w:List UInt8) (m:Nat),w.length<=n->0<m->w.all xQ=true ->
   (zG w.length).flatMap (fun i=>(if 0<i && JZ m nx (w.length - i) then g else [])++sh (w.getD i 0))=Ca Gr g nx w m
 | 0,w,m,hn,hm,hd=>by
  have:w=[]:=zF (by omega);subst this;rw[Gs (by simp),Jh _ hd];rfl
 | n+1,w,m,hn,hm,hd=>by
  by_cases h:m<w.length
  ·have e1:w=w.take (w.length - m)++w.drop (w.length - m):=(List.take_append_drop _ _).symm;have hA:(w.take (w.length - m)).length=w.length - m:=by simp
   have hB:(w.drop (w.length - m)).length=m:=by simp;omega
   have dA:(w.take (w.length - m)).all xQ=true:=by rw[e1,zi,zv] at hd;exact hd.1
   have dB:(w.drop (w.length - m)).all xQ=true:=by rw[e1,zi,zv] at hd;exact hd.2
   rw[Se ⟨hm,h⟩,←cL sh Gr g nx Kn Jh n _ nx (by omega) Kn dA,Jh _ dB,←XP sh (w.drop _),hA,hB];have hlen:w.length=(w.length - m)+m:=by omega
   generalize hp:w.length - m=p at *;have hr:zG w.length=zG p++(zG m).map (p + ·):=by rw[hlen,List.range_add]
   rw[hr,List.flatMap_append,zL,List.append_assoc,←F5 _ g m hm];congr 1
   ·refine gu _ (fun i hi=>?_);have hi:=zJ.1 hi;rw[show w.length - i=(p - i)+m by omega,Sm m nx (p - i) (by omega) Kn];rw[show(w.take p).getD i 0=w.getD i 0 from by simp[zE,List.getElem?_take,hi]]
   ·refine gu _ (fun i hi=>?_);have hi:=zJ.1 hi;rw[show(w.drop p).getD i 0=w.getD (p+i) 0 from by simp[zE,List.getElem?_drop]];congr 1;by_cases h0:i=0
    ·subst h0;have:JZ m nx (w.length - (p+0))=true:=by
      rw[show w.length - (p+0)=m by omega];simp[JZ]
     rw[this,if_pos rfl,if_pos (by simp;omega)]
    ·have:JZ m nx (w.length - (p+i))=false:=by
      simp[JZ];intro;omega
     rw[this,if_neg h0,if_neg (by simp)]
  ·rw[Gs (by omega),Jh _ hd,←XP sh w];refine gu _ (fun i hi=>?_);have hi:=zJ.1 hi;by_cases h0:0<i
   ·have:JZ m nx (w.length - i)=false:=by simp[JZ];intro;omega
    rw[this];simp
   ·simp[h0]
theorem Sn(sh:UInt8->List UInt8)(Gr:List (List UInt8))(g:List UInt8)(nx:Nat)(Jh:∀ w:List UInt8,w.all xQ=true->YW Gr w=w.flatMap sh)(w:List UInt8)(hd:w.all xQ=true) :
  (zG w.length).flatMap (fun i=>sh (w.getD i 0))=Ca Gr g nx w 0:=by
 rw[Gs (by simp),Jh _ hd,XP]
theorem Sp(gr:Int)(fi nx left:Nat)(h1:¬gr=0)(h2:0<fi):fK gr (fi:Int) (nx:Int) left=JZ fi nx left:=by
 have e1:(gr !=0)=true:=by simpa using h1
 unfold fK JZ;rw[e1];by_cases h:fi<=left
 ·have e2:((left:Int) - (fi:Int))=((left - fi:Nat):Int):=by omega
  have e3:(((left - fi:Nat):Int) % (nx:Int)==0)=((left - fi) % nx==0):=by
   rw[Bool.eq_iff_iff,beq_iff_eq,beq_iff_eq];omega
  rw[e2,e3];simp[h2,h]
 ·simp[h]
theorem pg:(vo DM).1=DM.map (fun c=>[c]):=by
 have h:=gV 10 DM (by decide);rw[←h];have e:xO DM=[48,49,50,51,52,53,54,55,56,57]:=by
  have s:∀ (a:UInt8) (r:List UInt8) (k:Int),xr (a::r)=1->((dL (a::r)).1:Int)=k->xO (a::r)=k::xO r:=by
   intro a r k h1 h2;rw[jb (by simp) (by omega),h2,h1];rfl
  unfold DM;rw[s _ _ 48 (by decide) (by decide),s _ _ 49 (by decide) (by decide),s _ _ 50 (by decide) (by decide),s _ _ 51 (by decide) (by decide),s _ _ 52 (by decide) (by decide),
   s _ _ 53 (by decide) (by decide),s _ _ 54 (by decide) (by decide),s _ _ 55 (by decide) (by decide),s _ _ 56 (by decide) (by decide),s _ _ 57 (by decide) (by decide),kC]
 rw[e];decide
def pd(ds:List Int)(c:UInt8):List UInt8:=zV (ds.getD (c.toNat - 48) 0)
theorem getD_map{α β:Type}(f:α->β)(l:List α)(k:Nat)(d:α)(e:β)(h:k<l.length):(l.map f).getD k e=f (l.getD k d):=by
 simp[zE,h]
theorem KQ(c:UInt8)(h:xQ c=true):48<=c.toNat/\c.toNat<=57:=by
 have:=(vM c).1 h;omega
theorem Nh(dg:List UInt8)(h:dg=[]\/(vo dg).1.length=10)(w:List UInt8)(hw:w.all xQ=true):YW (vo dg).1 w=w.flatMap (pd (xO (Za dg))):=by
 by_cases hd:dg=[]
 ·subst hd;rw[qT];show w=_;have e:∀ c,xQ c=true->pd (xO (Za [])) c=[c]:=by
   intro c hc;have hr:=KQ c hc;unfold pd Za;rw[if_pos rfl];have h1:=gV 10 DM (by decide);rw[pg] at h1;have hlen:(xO DM).length=10:=by
    have:=congrArg zH h1;simpa[DM] using this
   rw[←getD_map zV (xO DM) (c.toNat - 48) 0 [] (by omega),h1];obtain⟨k,hk⟩:∃ k,k=c.toNat - 48:=⟨_,rfl⟩;have jJ:c=UInt8.ofNat (48+k):=by rw[hk,show 48+(c.toNat - 48)=c.toNat by omega];simp
   rw[←hk,jJ];have hk9:k<10:=by omega
   clear jJ hk hr hc h1 hlen;match k,hk9 with
   | 0,_=>rfl
   | 1,_=>rfl
   | 2,_=>rfl
   | 3,_=>rfl
   | 4,_=>rfl
   | 5,_=>rfl
   | 6,_=>rfl
   | 7,_=>rfl
   | 8,_=>rfl
   | 9,_=>rfl
  induction w with
  | nil=>rfl
  | cons c t ih =>
   simp only[List.all_cons,zv] at hw;rw[zf,e c hw.1,←ih hw.2];rfl
 ·have hl:(vo dg).1.length=10:=h.resolve_left hd;have xw:(vo dg).1≠[]:=fun q=>by rw[q] at hl;cases hl
  unfold YW;rw[if_neg xw];have h1:=gV dg.length dg (zj _);have hlen:(xO dg).length=10:=by
   have:=congrArg zH h1;simpa[hl] using this
  induction w with
  | nil=>rfl
  | cons c t ih =>
   simp only[List.all_cons,zv] at hw;have hr:=KQ c hw.1;rw[zf,zf,ih hw.2];congr 1;unfold pd Za;rw[if_neg hd,←getD_map zV (xO dg) (c.toNat - 48) 0 [] (by omega),h1]
theorem KK(ds:List Int)(w:List UInt8)(i:Nat)(h:i<w.length):X7 ds (xW w) i=pd ds (w.getD i 0):=by
 unfold X7 pd xW;rw[getD_map (fun c:UInt8=>(c.toNat:Int) - 48) w i 0 0 h];congr 2;omega
theorem Sr(neg:Bool)(wh fr:List UInt8)(mi po gr:Int)(fi ne:Nat)(dg:List UInt8)(hd:dg=[]\/(vo dg).1.length=10)(p1:jd mi=true)(p2:jd po=true)(p3:jd gr=true)
  (h1:wh.all xQ=true) (h2:fr.all xQ=true) :
  Z5 neg (xW (wh++fr)) fr.length mi po gr fi (if ne=0 then fi else ne) (xO (Za dg))=XN neg wh fr (vo dg).1 mi po gr fi ne:=by
 obtain⟨nx,Kn⟩:∃ nx,nx=if ne=0 then fi else ne:=⟨_,rfl⟩;have hl:(xW (wh++fr)).length - fr.length=wh.length:=by simp[xW]
 have ht:(xW (wh++fr)).take wh.length=xW wh:=by simp[xW]
 have hdr:(xW (wh++fr)).drop wh.length=xW fr:=by simp[xW]
 unfold Z5 XN;rw[hl,ht,hdr,←Kn,F4 mi p1,F4 po p2,F4 gr p3];have Jh:=Nh dg hd;generalize xO (Za dg)=ds at *;congr 1
 ·congr 1;unfold gi;by_cases hg:gr=0\/fi=0
  ·have e:(if gr=0 then 0 else fi)=0:=by rcases hg with h|h<;>simp[h]
   rw[e,←Sn (pd ds) (vo dg).1 (zV gr) nx Jh wh h1];refine gu _ (fun i hi=>?_);have hi:=zJ.1 hi;rw[KK ds wh i hi];have:fK gr (fi:Int) (nx:Int) ((xW wh).length - i)=false:=by
    unfold fK;rcases hg with h|h<;>simp[h]
   rw[this];simp
  ·simp only[not_or] at hg;rw[if_neg hg.1];have Mf:0<fi:=by omega
   have ydq:0<nx:=by rw[Kn];split<;>omega
   rw[←cL (pd ds) (vo dg).1 (zV gr) nx ydq Jh wh.length wh fi (zj _) Mf h1];refine gu _ (fun i hi=>?_);have hi:=zJ.1 hi;rw[KK ds wh i hi,Sp gr fi nx _ hg.1 Mf];simp[xW]
 ·unfold qQ;by_cases hf:fr=[]
  ·subst hf;simp
  ·rw[if_neg hf,Jh fr h2,←XP (pd ds) fr,←F5 _ _ _ (zP.2 hf)];refine gu _ (fun i hi=>?_);have hi:=zJ.1 hi;rw[KK ds fr i hi];congr 1;by_cases h0:i=0<;>simp[h0]
theorem jz.later{w w1:World}{c:Value}{r:Bool}{Q:World->Value->Prop}(h:jz w c r Q)(hb:Below w.heap.size w w1):jz w1 c r Q:=by
 intro W hW;refine(h W (hb.trans (hW.mono hb.size))).mono ?_;rintro e W2 ⟨⟨a,n,k,he,hQ⟩,xB⟩;exact⟨⟨a,n,k,he,fun W3 h3=>hQ W3 ⟨h3.1,fun j hj=>h3.2 j (hj.imp (fun q=>zY q hb.size) id)⟩⟩,xB⟩
def VA(kn:Bool)(l:List UInt8)(mi po gr:Int)(fi ne:Nat)(dg:List UInt8):List UInt8 :=
 if kn && vr l then XN (fI l) (vN l) (vW l) (vo dg).1 mi po gr fi ne else []
def XR(kn:Bool)(l:List UInt8):Int:=if kn then if vr l then 0 else 10 else 8
theorem pZ{w:World}{base size n:Nat}{e:TypeId}{v:Value}{xs:List Value}(h:w.ownsRow base e size v n xs)(hn:0<n) :
  ∃ g cap,v = .slice (some ⟨g,0,none⟩) n cap/\base<=g/\g<w.heap.size/\n<=cap/\∀ j,j<n*size->w.cell? ⟨g,j,none⟩=xs[j]? := by
 have xC:=h.lt;rcases h.2 with⟨_,h0⟩|⟨g,cap,cur,hv,hg,hh,h1,_,_,ht⟩
 ·omega
 ·subst hv;exact⟨g,cap,rfl,hg,(xC g rfl).2,h1,fun j hj=>h.cellAt j hj⟩
theorem cM(l:List UInt8)(h:l.all xQ=true):∀ x∈xW l,0<=x/\x<=9:=by
 intro x hx;obtain⟨c,hc,rfl⟩:=List.mem_map.1 hx;have:=KQ c (List.all_eq_true.1 h c hc);omega
theorem KJ{l:List UInt8}(h:vr l=true):(vN l).all xQ=true/\(vW l).all xQ=true/\0<(vN l).length/\(vN l).length+(vW l).length<=30:=by
 simp only[vr,Q8,zv,zl,decide_eq_true_eq] at h;have hw:=h.1.1.1.1;have hf:=h.1.1.1.2;simp only[ux,zv] at hw;refine⟨hw.1,?_,?_,h.1.1.2⟩
 ·rcases hf with hf|hf
  ·have hp:¬(VV l).idxOf 46<(VV l).length:=by simpa[dN] using hf
   have:vW l=[]:=by unfold vW;exact List.drop_of_length_le (by omega)
   rw[this];rfl
  ·simp only[ux,zv] at hf;exact hf.1
 ·have:=hw.2
  cases hl:vN l with
  | nil=>rw[hl] at this;cases this
  | cons a b=>simp
theorem IW{ra rb:Bool}{mi po gr:Int}{fi ne:Nat}{dg:List UInt8}(h:vA ra rb mi po gr fi ne dg=true) :
  jd mi=true/\jd po=true/\jd gr=true/\(dg=[]\/(vo dg).1.length=10)/\fi<=9/\ne<=9:=by
 simp only[vA,zv,zl,decide_eq_true_eq] at h;refine⟨h.2.2.1,h.2.2.2.1,h.2.2.2.2.1,?_,by omega,by omega⟩;rcases h.2.2.2.2.2.2.2.2.1 with h1|h1
 ·exact .inl (zF (by omega))
 ·refine .inr ?_;simp at h1;omega
theorem Nw{r:Int}(h:jd r=true):WE r:=by
 have h1:(0<=r/\r<=1114111)/\(r<55296\/57343<r):=by unfold jd at h;simp at h;omega
 exact⟨by omega,by omega⟩
theorem O0(g:Nat)(v:Value)(l:List UInt8)(mi po gr:Int)(fi ne:Nat)(dg:List UInt8)(w:World)(B:Nat)(ra rb:Bool)
  (hk:vA ra rb mi po gr fi ne dg=true) (hn:vr l=true) (hX:CW w g mi po gr fi ((if ne=0 then fi else ne:Nat):Int) (xO (Za dg))) (hg:g<w.heap.size)
  (ho:w.ownsRow B 5 1 v ((vN l).length+(vW l).length) (vy (vN l++vW l))) :
  Calls Tryz.prog 45 #[.pointer (some ⟨g,0,none⟩),.agg #[.bool (fI l),v,.int .i64 ((vW l).length:Int)]] w fun e w' =>
   e = .returned (xf (XN (fI l) (vN l) (vW l) (vo dg).1 mi po gr fi ne))/\Below w.heap.size w w':=by
 obtain⟨p1,p2,p3,hd,f1,f2⟩:=IW hk;obtain⟨d1,d2,hw,h30⟩:=KJ hn;obtain⟨gd,cap,rfl,_,Jl,ZA,hc⟩:=pZ ho (by omega);rw[←Sr (fI l) (vN l) (vW l) mi po gr fi ne dg hd p1 p2 p3 d1 d2];have uN:(vN l++vW l).all xQ=true:=by rw[zi,d1,d2];rfl
 refine Bg g gd 0 cap (vW l).length _ (fI l) (xW (vN l++vW l)) mi po gr fi (if ne=0 then fi else ne) (xO (Za dg)) w hX hg ?_ Jl (by simp[xW]) (by omega) ZA (by omega)
  (cM _ uN) ⟨Nw p1,Nw p2,Nw p3,fun x hx=>Uq _ _ (zj _) x hx⟩ (by omega) (by intro h;split<;>omega) (by split<;>omega)
 intro j hj;refine⟨_,rfl,?_⟩;have MF:j<(vN l++vW l).length:=by simpa[xW] using hj
 rw[ua,hc j (by simp at MF;omega)];have hj3:j<(xW (vN l++vW l)).length:=hj;simp only[vy,xW,List.getElem?_map,zt];rw[List.getElem?_eq_getElem MF];rfl
def F6(t:List UInt8)(v:Value)(w:World)(e:Ending)(w':World):Prop:=e = .returned (.tuple #[xf t,v])/\Below w.heap.size w w'
structure O1(w:World):Prop where
 pY:ze 3 4 w
 err:Kj w
theorem O1.below{w w':World}(h:O1 w)(hb:Below w.heap.size w w'):O1 w':=⟨Z6 h.pY hb,h.err.below hb⟩
theorem IA(s:ByteArray)(c o:Value)(ra rb:Bool)(mi po gr:Int)(fi ne:Nat)(dg:ByteArray)(Qc Qo:World->Value->Prop)(w:World)(hs:s.size<=1000000)(hd:dg.size<=1000000)(Mf:fi<=255)(xw:ne<=255)
  (hc:jz w c ra Qc) (ho:jz w o rb Qo) (Pw:(∃ a n k,c = .slice a n k)/\∃ a n k,o = .slice a n k) (hT:O1 w) :
  Calls Tryz.prog 29 #[.string s,IL c o mi po gr fi ne dg] w
   (F6 (VA (vA ra rb mi po gr fi ne dg.data.toList) s.data.toList mi po gr fi ne dg.data.toList) (p9 (XR (vA ra rb mi po gr fi ne dg.data.toList) s.data.toList)) w):=by
 have HC:=z7 hc;have HO:=z7 ho;have HCO:=z7 Pw;have HT:=z7 hT;clear hc ho Pw hT;go_enter func29,ntmps29;go_wp2_with fail;refine vz ?_;intro W hW;have hb:Below w.heap.size w W:=by rw[hW];exact(zg _ _).alloc (zj _) _
 clear hW;refine(IN c o ra rb mi po gr fi ne dg Qc Qo W hd Mf xw (HC.out.later hb) (HO.out.later hb) HCO.out (HT.out.below hb).pY).mono ?_;rintro e w1 ⟨xH,vP⟩;have uf:Below w.heap.size w w1:=hb.trans (xH.mono hb.size)
 cases hk:vA ra rb mi po gr fi ne dg.data.toList
 ·rw[hk,if_neg (by simp)] at vP;subst vP;have ht:VA (vA ra rb mi po gr fi ne dg.data.toList) s.data.toList mi po gr fi ne dg.data.toList=[]:=by rw[hk];rfl
  have R0:XR (vA ra rb mi po gr fi ne dg.data.toList) s.data.toList=8:=by rw[hk];rfl
  have Dr:=z7 ht;have tS:=z7 R0;clear ht R0 hk hb xH;go_wp2;go_ret2
  refine⟨?_,uf⟩;rw[Dr.out,tS.out];rfl
 ·rw[hk,if_pos rfl] at vP;obtain⟨g,cv,ov,rfl,WH,Zp,hX,-⟩:=vP;have HX:=z7 hX;have HK:=z7 hk;clear hX hk;go_wp2_with fail;refine(Vv s _ hs).mono ?_;rintro e w2 ⟨b,v,k,rfl,⟨va,vn,vk,rfl⟩,xB,vP⟩;have qf:=uf.trans (xB.mono uf.size);have hX2:=HX.out.below xB Zp;have dy:g<w2.heap.size:=zY Zp xB.size
  cases hn:vr s.data.toList
  ·have ht:VA (vA ra rb mi po gr fi ne dg.data.toList) s.data.toList mi po gr fi ne dg.data.toList=[]:=by unfold VA;rw[HK.out,hn];rfl
   have R0:XR (vA ra rb mi po gr fi ne dg.data.toList) s.data.toList=10:=by unfold XR;rw[HK.out,hn];rfl
   have Dr:=z7 ht;have tS:=z7 R0;clear ht R0 hn vP xB hb xH hX2;go_wp2;go_ret2
   refine⟨?_,qf.alloc (qf.size) _⟩;rw[Dr.out,tS.out];rfl
  ·have ht:VA (vA ra rb mi po gr fi ne dg.data.toList) s.data.toList mi po gr fi ne dg.data.toList=XN (fI s.data.toList) (vN s.data.toList) (vW s.data.toList) (vo dg.data.toList).1 mi po gr fi ne:=by unfold VA;rw[HK.out,hn];rfl
   have R0:XR (vA ra rb mi po gr fi ne dg.data.toList) s.data.toList=0:=by unfold XR;rw[HK.out,hn];rfl
   have Dr:=z7 ht;have tS:=z7 R0;obtain⟨rfl,rfl,xJ⟩:=vP hn;have HN:=z7 hn;have HO2:=z7 xJ;have Ss:=z7 hX2;clear ht R0 hn vP hb xH hX2 xJ;go_wp2_with fail;refine vz ?_;intro W3 kJ;have Cc:Below w2.heap.size w2 W3:=by rw[kJ];exact(zg _ _).alloc (zj _) _
   clear kJ;refine(O0 g (.slice va vn vk) s.data.toList mi po gr fi ne dg.data.toList W3 _ ra rb HK.out HN.out (Ss.out.below Cc dy) (zY dy Cc.size) (fN HO2.out Cc)).mono ?_;rintro e w4 ⟨rfl,zq9⟩;have j5:=(qf.trans (Cc.mono qf.size)).trans (zq9.mono (zo qf.size Cc.size));clear Cc zq9 qf xB;go_wp2;go_ret2
   refine⟨?_,j5⟩;rw[Dr.out,tS.out];rfl
theorem Ia(s:ByteArray)(c o:Value)(ra rb:Bool)(mi po gr:Int)(fi ne:Nat)(dg:ByteArray)(Qc Qo:World->Value->Prop)(w:World)(hs:s.size<=1000000)(hd:dg.size<=1000000)(Mf:fi<=255)(xw:ne<=255)
  (hc:jz w c ra Qc) (ho:jz w o rb Qo) (Pw:(∃ a n k,c = .slice a n k)/\∃ a n k,o = .slice a n k) (hT:O1 w) :
  Calls Tryz.prog 16 #[.string s,IL c o mi po gr fi ne dg] w
   (F6 (VA (vA ra rb mi po gr fi ne dg.data.toList) s.data.toList mi po gr fi ne dg.data.toList) (.int .i64 (XR (vA ra rb mi po gr fi ne dg.data.toList) s.data.toList)) w):=by
 have vE:=fun W h1 h2 h3=>IA s c o ra rb mi po gr fi ne dg Qc Qo W hs hd Mf xw h1 h2 Pw h3
 generalize VA (vA ra rb mi po gr fi ne dg.data.toList) s.data.toList mi po gr fi ne dg.data.toList=tx at *;generalize XR (vA ra rb mi po gr fi ne dg.data.toList) s.data.toList=cd at *;have qC:=z7 vE;clear vE;have HC:=z7 hc;have HO:=z7 ho;have HCO:=z7 Pw;have HT:=z7 hT;clear hc ho Pw hT;go_enter func16,ntmps16;go_wp2_with fail;refine vz ?_;intro W hW;have hb:Below w.heap.size w W:=by rw[hW];exact(zg _ _).alloc (zj _) _
 clear hW;refine(qC.out W (HC.out.later hb) (HO.out.later hb) (HT.out.below hb)).mono ?_;rintro e w1 ⟨rfl,xH⟩;have uf:Below w.heap.size w w1:=hb.trans (xH.mono hb.size);clear hb xH;go_wp2_with fail;refine(aw cd _ (HT.out.below uf).err).mono ?_;rintro e w2 ⟨rfl,xB⟩;have qf:=uf.trans (xB.mono uf.size);clear xB uf;go_wp2;go_ret2
 exact⟨rfl,qf⟩
theorem Ko{l:List UInt8}{f:Fo}(h:gG l = .ok f):uW l = .ok f/\X3 f=none:=by
 unfold gG at h
 cases hp:uW l with
 | error e=>rw[hp] at h;cases h
 | ok g =>
  rw[hp] at h;dsimp only at h
  cases hc:X3 g with
  | some e=>rw[hc] at h;cases h
  | none=>rw[hc] at h;cases h;exact⟨rfl,hc⟩
theorem jr.below{w w':World}(h:jr w)(hb:Below w.heap.size w w'):jr w' :=
 h.fr (F:=xS) (F':=xS) (B:=2+1) (Fr.of hb) (fun _ q=>q.elim) (Nat.lt_succ_self _)
structure Ya(w:World):Prop where
 tabs:O1 w
 names:qP w
 tW:jr w
theorem Ya.below{w w':World}(h:Ya w)(hb:Below w.heap.size w w'):Ya w':=⟨h.tabs.below hb,h.names.below hb,h.tW.below hb⟩
structure BX(P q g mb:Nat)(f:Fo)(vC vI:Value)(rs:List (Value×Value))(mi po gr:Int)(fi ne:Nat)(dg:List UInt8)(cv ov:Value)(w:World):Prop where
 p0:w.cell? ⟨P,0,none⟩=some (.pointer (some ⟨q,0,none⟩))
 p1:w.cell? ⟨P,1,none⟩=some (.pointer (some ⟨g,0,none⟩))
 prog:jZ q (MkS.all f) vC vI rs mb w
 gl:g<w.heap.size
 loc:CW w g mi po gr fi ((if ne=0 then fi else ne:Nat):Int) (xO (Za dg))
 g0:w.cell? ⟨g,0,none⟩=some cv
 g1:w.cell? ⟨g,1,none⟩=some ov
theorem BX.below{P q g mb:Nat}{f:Fo}{vC vI:Value}{rs:List (Value×Value)}{mi po gr:Int}{fi ne:Nat}{dg:List UInt8}{cv ov:Value}{w w':World}(h:BX P q g mb f vC vI rs mi po gr fi ne dg cv ov w)(hb:Below w.heap.size w w'):BX P q g mb f vC vI rs mi po gr fi ne dg cv ov w':=by
 have hf:Fr xS xS w w':=Fr.of hb;exact⟨hf.cell h.p0 id,hf.cell h.p1 id,h.prog.below hb,zY h.gl hb.size,h.loc.below hb h.gl,hf.cell h.g0 id,hf.cell h.g1 id⟩
def zmb(kn:Bool)(r:Except (Nat×Nat) Fo)(mi po gr:Int)(fi ne:Nat)(dg:List UInt8)(Qc Qo:World->Value->Prop)(w:World)(e:Ending)(w':World):Prop :=
 Below w.heap.size w w' /\
 if kn=false then e = .returned (.tuple #[.pointer none,p9 8])
 else match r with
  | .error (n,a)=>∃ b,e = .returned (.tuple #[.pointer none,.iface 101 (.pointer (some ⟨b,0,none⟩))])/\w'.cell? ⟨b,0,none⟩=some (.int .i64 n)/\w'.cell? ⟨b,1,none⟩=some (.int .i64 a)
  | .ok f=>∃ P q g mb vC vI rs cv ov,e = .returned (.tuple #[.pointer (some ⟨P,0,none⟩),.nilIface])/\BX P q g mb f vC vI rs mi po gr fi ne dg cv ov w'/\(∀ W,Below w'.heap.size w' W->Qc W cv)/\∀ W,Below w'.heap.size w' W->Qo W ov
theorem Ce(s:ByteArray)(c o:Value)(ra rb:Bool)(mi po gr:Int)(fi ne:Nat)(dg:ByteArray)(Qc Qo:World->Value->Prop)(w:World)(hs:s.size<=1000000)(hd:dg.size<=1000000)(Mf:fi<=255)(xw:ne<=255)
  (hc:jz w c ra Qc) (ho:jz w o rb Qo) (Pw:(∃ a n k,c = .slice a n k)/\∃ a n k,o = .slice a n k) (hE:Ya w) :
  Calls Tryz.prog 33 #[.string s,IL c o mi po gr fi ne dg] w (zmb (vA ra rb mi po gr fi ne dg.data.toList) (gG s.data.toList) mi po gr fi ne dg.data.toList Qc Qo w):=by
 have HC:=z7 hc;have HO:=z7 ho;have HCO:=z7 Pw;have HE:=z7 hE;clear hc ho Pw hE;go_enter func33,ntmps33;go_wp2_with fail;refine vz ?_;intro W hW;have hb:Below w.heap.size w W:=by rw[hW];exact(zg _ _).alloc (zj _) _
 clear hW;refine(IN c o ra rb mi po gr fi ne dg Qc Qo W hd Mf xw (HC.out.later hb) (HO.out.later hb) HCO.out (HE.out.below hb).tabs.pY).mono ?_;rintro e w1 ⟨xH,vP⟩;have uf:Below w.heap.size w w1:=hb.trans (xH.mono hb.size);obtain⟨kn,DA⟩:∃ kn,vA ra rb mi po gr fi ne dg.data.toList=kn:=⟨_,rfl⟩;rw[DA] at vP;have WW:=z7 DA;clear DA
 cases kn
 ·rw[if_neg (by simp)] at vP;subst vP;clear hb xH;go_wp2;go_ret2
  refine⟨uf,?_⟩;rw[if_pos WW.out];rfl
 ·rw[if_pos rfl] at vP;obtain⟨g,cv,ov,rfl,WH,Zp,hX,c0,c1,hqc,hqo⟩:=vP;have HX:=z7 hX;have HQC:=z7 hqc;have HQO:=z7 hqo;have HC0:=z7 c0;have HC1:=z7 c1;clear hX hqc hqo hb xH c0 c1;obtain⟨r,hr⟩:∃ r,gG s.data.toList=r:=⟨_,rfl⟩;have HRM:=z7 (aF s w1 (by omega) (HE.out.below uf).tabs.pY (HE.out.below uf).names);rw[hr] at HRM ⊢;have HR:=z7 hr;clear hr;go_wp2_with fail;refine HRM.out.mono ?_;rintro e w2 ⟨hq,xB⟩;have qf:=uf.trans (xB.mono uf.size);clear HRM
  cases r with
  | error en =>
   obtain⟨n,a⟩:=en;obtain⟨v,b,rfl,⟨va,vn,vk,rfl⟩,f0,f1⟩:=hq;clear xB;go_wp2;go_ret2
   refine⟨qf,?_⟩;rw[if_neg (by rw[WW.out];simp),HR.out];exact⟨b,rfl,f0,f1⟩
  | ok f =>
   obtain⟨⟨a,k,vs,rfl,vL,XG⟩,Jl⟩:=hq;obtain⟨UH,Xx⟩:=Ko HR.out;obtain⟨k1,k2⟩:=IF UH Xx;have U1:=HE.out.below qf;have HP:=z7 (az f w2 a k vs vL XG (zj _) Jl.msg Jl.wf k1 (by have:=Jl.len;omega) (by omega) U1.tW U1.names);obtain⟨L,hL⟩:∃ L,f.len=L:=⟨_,rfl⟩;rw[hL] at HP ⊢;clear vL XG Jl UH Xx k1 k2 U1 hL;go_wp2_with fail;refine HP.out.mono ?_;rintro e w3 ⟨q,vC,vI,rs,mb,rfl,EP,hq0,uP⟩;have Cc:=xB.trans (uP.mono xB.size);have Z7:=qf.trans (uP.mono qf.size);have HPA:=z7 EP;clear EP HP;go_wp2;go_ret2
   obtain⟨z,hz⟩:∃ z,w3.heap.size=z:=⟨_,rfl⟩;have jM:=fun i=>xq w3 #[.pointer (some ⟨q,0,none⟩),.pointer (some ⟨g,0,none⟩)] 90 (0,0) i
   have qd:Below w3.heap.size w3 (w3.alloc (.cells #[.pointer (some ⟨q,0,none⟩),.pointer (some ⟨g,0,none⟩)] 90)):=(zg _ _).alloc (zj _) _;have O2:=Cc.trans (qd.mono Cc.size);have zn2:Fr xS xS w1 _:=Fr.of O2;refine⟨Z7.trans (qd.mono Z7.size),?_⟩;rw[if_neg (by rw[WW.out];simp),HR.out];refine⟨_,q,g,mb,vC,vI,rs,cv,ov,rfl,⟨jM 0,jM 1,HPA.out.below qd,zY Zp O2.size,HX.out.below O2 Zp,zn2.cell HC0.out id,zn2.cell HC1.out id⟩,fun W hW=>HQC.out W (O2.trans (hW.mono O2.size)),fun W hW=>HQO.out W (O2.trans (hW.mono O2.size))⟩
theorem zqk(b:Nat)(n a:Int)(w:World)(hE:Kj w)(h0:w.cell? ⟨b,0,none⟩=some (.int .i64 n))(h1:w.cell? ⟨b,1,none⟩=some (.int .i64 a)) :
  Calls Tryz.prog 30 #[.iface 101 (.pointer (some ⟨b,0,none⟩))] w (XL n a w):=by
 have HE:=z7 hE;have H0:=z7 h0;have H1:=z7 h1;have xC:b<w.heap.size:=zm w _ h0;clear hE h0 h1;go_enter func30,ntmps30;go_wp2_with fail;refine vz ?_;intro W hW;have hb:Below w.heap.size w W:=by rw[hW];exact((zg _ _).alloc (zj _) _).alloc (by simp) _
 have hz:w.heap.size+2<=W.heap.size:=by rw[hW];simp
 have hA:W.cell? ⟨w.heap.size,0,none⟩=some (.pointer none)/\W.frozen? ⟨w.heap.size,0,none⟩=false:=by rw[hW];constructor<;>go_simp
 clear hW;refine(ai ⟨b,0,none⟩ ⟨w.heap.size,0,none⟩ _ W (HE.out.below hb) hA.1 hA.2).mono ?_;rintro e w2 ⟨rfl,p1,p2,p3,p4,D7⟩;have xB:Below w.heap.size W w2:=by rw[D7];exact(((((zg _ _).alloc (by omega) _).alloc (by simp;omega) _).alloc (by simp;omega) _).alloc (by simp;omega) _).setCell (by simp) _
 have qf:=hb.trans xB;have hC:w2.cell? ⟨w.heap.size,0,none⟩=some (.pointer (some ⟨b,0,none⟩)):=by
  rw[D7,xd,if_pos rfl];rw[zu _ _ _ (by simp;omega),zu _ _ _ (by simp;omega),zu _ _ _ (by simp;omega),zu _ _ _ (by show w.heap.size<_;omega),hA.1];rfl
 have d0:=(qf.cell (p:=⟨b,0,none⟩) xC).trans H0.out;have d1:=(qf.cell (p:=⟨b,1,none⟩) xC).trans H1.out;clear D7 xB hA;have jh:w2.drew.cell? ⟨w.heap.size,0,none⟩=some (.pointer (some ⟨b,0,none⟩))/\w2.drew.cell? ⟨b,0,none⟩=some (.int .i64 n)/\w2.drew.cell? ⟨b,1,none⟩=some (.int .i64 a):=⟨hC,d0,d1⟩;go_wp2_with fail;refine rt (fun W':World=>W'.cell? ⟨w.heap.size,0,none⟩=some (.pointer (some ⟨b,0,none⟩))/\W'.cell? ⟨b,0,none⟩=some (.int .i64 n)/\W'.cell? ⟨b,1,none⟩=some (.int .i64 a)) [0,1,2,3,4,5,6,7,8,9] 0 jh ?_;(iterate 10 ((first|refine ty ?_|refine tn ?_);try simp only[pl]))
 refine xk ?_;refine wpAnyH_done (by kernel_rfl) ?_ _;go_wp2;go_ret2
 exact⟨rfl,qf.drew⟩
def zqj(kn:Bool)(r:Except (Nat×Nat) Fo)(mi po gr:Int)(fi ne:Nat)(dg:List UInt8)(Qc Qo:World->Value->Prop)(w:World)(e:Ending)(w':World):Prop :=
 Below w.heap.size w w' /\
 if kn=false then e = .returned (.tuple #[.pointer none,.int .i64 8,.int .i64 0])
 else match r with
  | .error (n,a)=>e = .returned (.tuple #[.pointer none,.int .i64 (n:Nat),.int .i64 (a:Nat)])
  | .ok f=>∃ P q g mb vC vI rs cv ov,e = .returned (.tuple #[.pointer (some ⟨P,0,none⟩),.int .i64 0,.int .i64 0])/\BX P q g mb f vC vI rs mi po gr fi ne dg cv ov w'/\(∀ W,Below w'.heap.size w' W->Qc W cv)/\∀ W,Below w'.heap.size w' W->Qo W ov
theorem Ci(s:ByteArray)(c o:Value)(ra rb:Bool)(mi po gr:Int)(fi ne:Nat)(dg:ByteArray)(Qc Qo:World->Value->Prop)(w:World)(hs:s.size<=1000000)(hd:dg.size<=1000000)(Mf:fi<=255)(xw:ne<=255)
  (hc:jz w c ra Qc) (ho:jz w o rb Qo) (Pw:(∃ a n k,c = .slice a n k)/\∃ a n k,o = .slice a n k) (hE:Ya w) :
  Calls Tryz.prog 20 #[.string s,IL c o mi po gr fi ne dg] w (zqj (vA ra rb mi po gr fi ne dg.data.toList) (gG s.data.toList) mi po gr fi ne dg.data.toList Qc Qo w):=by
 have HC:=z7 hc;have HO:=z7 ho;have HCO:=z7 Pw;have HE:=z7 hE;clear hc ho Pw hE;go_enter func20,ntmps20;go_wp2_with fail;refine vz ?_;intro W hW;have hb:Below w.heap.size w W:=by rw[hW];exact(zg _ _).alloc (zj _) _
 clear hW;refine(Ce s c o ra rb mi po gr fi ne dg Qc Qo W hs hd Mf xw (HC.out.later hb) (HO.out.later hb) HCO.out (HE.out.below hb)).mono ?_;rintro e w1 ⟨xH,vP⟩;have uf:Below w.heap.size w w1:=hb.trans (xH.mono hb.size);have U1:=HE.out.below uf;obtain⟨kn,DA⟩:∃ kn,vA ra rb mi po gr fi ne dg.data.toList=kn:=⟨_,rfl⟩;rw[DA] at vP;have WW:=z7 DA;clear DA
 cases kn
 ·rw[if_pos rfl] at vP;subst vP;have HT:=z7 (aw 8 w1 U1.tabs.err);clear hb xH U1;go_wp2_with fail;refine HT.out.mono ?_;rintro e w2 ⟨rfl,xB⟩;have qf:=uf.trans (xB.mono uf.size);clear HT xB;go_wp2;go_ret3
  refine⟨qf,?_⟩;rw[if_pos WW.out];rfl
 ·rw[if_neg (by simp)] at vP;obtain⟨r,hr⟩:∃ r,gG s.data.toList=r:=⟨_,rfl⟩;rw[hr] at vP;have HR:=z7 hr;clear hr
  cases r with
  | error en =>
   obtain⟨n,a⟩:=en;obtain⟨b,rfl,f0,f1⟩:=vP;have HT:=z7 (zqk b n a w1 U1.tabs.err f0 f1);clear hb xH U1 f0 f1;go_wp2_with fail;refine HT.out.mono ?_;rintro e w2 ⟨rfl,xB⟩;have qf:=uf.trans (xB.mono uf.size);clear HT xB;go_wp2;go_ret3
   refine⟨qf,?_⟩;rw[if_neg (by rw[WW.out];simp),HR.out];rfl
  | ok f =>
   obtain⟨P,q,g,mb,vC,vI,rs,cv,ov,rfl,hph,hqc,hqo⟩:=vP;have HT:=z7 (Ge w1);have HP:=z7 hph;have HQ:=z7 (And.intro hqc hqo);clear hb xH U1 hph hqc hqo;go_wp2_with fail;refine HT.out.mono ?_;rintro e w2 ⟨rfl,xB⟩;have qf:=uf.trans (xB.mono uf.size);have F7:=z7 (HP.out.below xB);clear HT;go_wp2;go_ret3
   refine⟨qf,?_⟩;rw[if_neg (by rw[WW.out];simp),HR.out];exact⟨P,q,g,mb,vC,vI,rs,cv,ov,rfl,F7.out,fun W hW=>HQ.out.1 W (xB.trans (hW.mono xB.size)),fun W hW=>HQ.out.2 W (xB.trans (hW.mono xB.size))⟩
end Go.Proofs.YthpldolmpinnhaaGreatDoor
