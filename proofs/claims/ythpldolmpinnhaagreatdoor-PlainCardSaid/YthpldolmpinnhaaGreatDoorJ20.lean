import Derived.Test.YthpldolmpinnhaaGreatDoorJ19
import Derived.Shelf.RegionOpenPlain
import Derived.Lib.Builder
import Derived.Lib.AppendStr
import Derived.Lib.UnsafeStr
import Derived.Deep.LoopGhost
namespace Go.Proofs.YthpldolmpinnhaaGreatDoor
open Go Go.RowKit
set_option maxRecDepth 10000
theorem outb_info:(Tryz.prog.info? 155).map (fun j=>j.size)=some 2:=by kernel_rfl
theorem outbyte_info:∃ i:TypeInfo,Tryz.prog.info? 5=some i/\i.zero=some (.int .u8 0)/\i.size=1/\i.bytes=1:=info_parts (by kernel_rfl)
theorem outbyte_cells:Tryz.prog.cellsOf 5=1:=by kernel_rfl
theorem run_str_at {P:Program} (w:World) (t u ty e:TypeId) (i:TypeInfo) (ht:P.underlying t=some (.slice e)) (hu:P.underlying u=some .string) (hi:P.info? e=some i) (hz:i.zero=some (.int .u8 0))
  (hsize:i.size=1) (hby:i.bytes=1) (v:Value) (n:Nat) (xs:List Value) (hown:w.ownsRow 0 e 1 v n xs) (s:ByteArray) (h63:n+s.size<=maxLen) (hbytes:n+s.size<=140737488355328) :
  ∃ v' w',(Builtin.append_ #[t,u] ty #[v,.string s]).run P w = .ok v' w'/\w'.ownsRow 0 e 1 v' (n+s.size) (xs++Lib.strCells s)/\Fr (rowF v) (rowF v') w w'/\(v' = .slice none 0 0 ↔ v = .slice none 0 0/\s.size=0):=by
 obtain ⟨v',w',hr,h2,h3,h4⟩:=Lib.run_append_own_string (P:=P) w 0 t u ty e i ht hu hi hz hsize hby v n xs hown s h63 hbytes (Nat.zero_le _);refine ⟨v',w',hr,h2,⟨h3.os,h3.tape,h3.output,h3.size,fun k hk hn=>h3.block k hk (fun q=>hn q.symm),?_⟩,h4⟩;intro k hk;rcases hown.2 with ⟨rfl,rfl⟩ | ⟨g,cap,cur,rfl,hbg,hg,hnc,hcm,hcs,htake⟩
 ·have hx:xs=[]:=List.eq_nil_of_length_eq_zero (by simpa using hown.1);subst hx;obtain ⟨v2,w2,hr2,h5,-,-⟩:=Lib.run_append_own_string (P:=P) w w.heap.size t u ty e i ht hu hi hz hsize hby (.slice none 0 0) 0 [] (World.ownsRow_nil _ _ _ _) s h63 hbytes (Nat.le_refl _);rw [hr] at hr2
  cases hr2;exact .inr (h5.lt k hk).1
 ·have hxl:xs.length=n:=by simpa using hown.1
  have hcs':cur.size=cap:=by simpa using hcs
  by_cases hroom:n+s.size<=cap
  ·have hr2:=Lib.run_append_room_string (P:=P) w t u ty e i ht hu hi hsize g n cap cur hg s hroom (by omega);rw [hr] at hr2
   cases hr2;exact .inl hk
  ·have holds:∀ j u,xs[j]? = some u->w.cell? ((⟨g,0,none⟩:Addr).add j)=some u:=hown.cells (g:=g) rfl;have hr2:=Lib.run_append_grow_string (P:=P) w t u ty e i (.int .u8 0) ht hu hi hz ⟨g,0,none⟩ n cap xs (by rw [hsize];simpa using hxl) holds s (by omega) (by unfold maxLen at h63;omega) (by rw [hby];exact growslice_fits (by omega) (by omega));rw [hr] at hr2
   cases hr2
   cases hk;exact .inr (Nat.le_refl _)
theorem wpList_str_at {P:Program} {w:World} {ops:Array Oper} {rest:List Oper} {o:Oper} {a:Act} {Q:Exit->Act->World->Prop} (hgd:o.guard=none) (sl x:Operand) (t u:TypeId)
  (ho:o.op = .call { callee := .builtin .append,args:=#[sl,x],argTypes:=#[t,u] })
  (e:TypeId) (i:TypeInfo) (ht:P.underlying t=some (.slice e)) (hu:P.underlying u=some .string) (hi:P.info? e=some i) (hz:i.zero=some (.int .u8 0))
  (hsize:i.size=1) (hby:i.bytes=1)
  (v:Value) (n:Nat) (xs:List Value) (hs:a.eval sl=v) (hown:w.ownsRow 0 e 1 v n xs) (s:ByteArray) (hx:a.eval x = .string s)
  (h63:n+s.size<=maxLen) (hbytes:n+s.size<=140737488355328)
  (h:∀ v' w',w'.ownsRow 0 e 1 v' (n+s.size) (xs++Lib.strCells s)->Fr (rowF v) (rowF v') w w'->(v' = .slice none 0 0 ↔ v = .slice none 0 0/\s.size=0)->wpList P ops Q rest (a.put o.dst v') w'):wpList P ops Q (o::rest) a w:=by
 refine wpList_plain hgd fun K hK=>?_
 obtain ⟨v',w',hr,h2,h3,h4⟩:=run_str_at (P:=P) w t u o.type e i ht hu hi hz hsize hby v n xs hown s h63 hbytes;unfold Oper.wp execOp;simp only [ho,resolve,invoke,builtin,Sem.run_bind,Sem.run_pure,Result.andThen_ok,List.map_toArray,List.map_cons,List.map_nil,hs,hx,hr];exact hK _ _ (h v' w' h2 h3 h4)
def OutAt (b:Nat) (x0 x1 x2 st v:Value) (l:Wd) (w:World):Prop :=
 ∃ p,(p = .pointer none\/p = .pointer (some ⟨b,3,none⟩))/\w.heap[b]? = some (.cells #[x0,x1,x2,p,v,st] 199 (0,0))/\w.ownsRow 0 5 1 v l.length (Lib.byteCells l)/\v.ownBlock≠some b/\(l=[]->v = .slice none 0 0)
abbrev outF (b:Nat) (v:Value) (k:Nat):Prop:=k=b\/rowF v k
section
variable {b:Nat} {x0 x1 x2 st v:Value} {l:Wd} {w w':World}
theorem OutAt.lt (h:OutAt b x0 x1 x2 st v l w):b<w.heap.size:=by
 obtain ⟨p,_,hb,_⟩:=h;exact (Array.getElem?_eq_some_iff.1 hb).1
theorem OutAt.cell (h:OutAt b x0 x1 x2 st v l w):w.cell? ⟨b,0,none⟩=some x0/\w.cell? ⟨b,1,none⟩=some x1/\w.cell? ⟨b,2,none⟩=some x2/\w.cell? ⟨b,5,none⟩=some st/\∀ j,w.frozen? ⟨b,j,none⟩=false:=by
 obtain ⟨p,_,hb,_⟩:=h;exact ⟨by rw [Lib.cell_of_heap hb];rfl,by rw [Lib.cell_of_heap hb];rfl,by rw [Lib.cell_of_heap hb];rfl,by rw [Lib.cell_of_heap hb];rfl,fun j=>Lib.frozen_of_heap hb j⟩
theorem OutAt.row (h:OutAt b x0 x1 x2 st v l w):w.ownsRow 0 5 1 v l.length (Lib.byteCells l):=by
 obtain ⟨p,_,_,ho,_⟩:=h;exact ho
theorem OutAt.fr {F F':Nat->Prop} (h:OutAt b x0 x1 x2 st v l w) (hf:Fr F F' w w') (hb:¬F b) (hv:∀ g,rowF v g->¬F g):OutAt b x0 x1 x2 st v l w':=by
 have hlt:=h.lt;obtain ⟨p,h1,h2,h3,h4,h5⟩:=h;exact ⟨p,h1,(hf.keep b hlt hb).trans h2,hf.own h3 hv,h4,h5⟩
theorem out_new (w:World) (x0 x1 x2:Value):OutAt w.heap.size x0 x1 x2 (.slice none 0 0) (.slice none 0 0) [] (w.alloc (.cells #[x0,x1,x2,.pointer none,.slice none 0 0,.slice none 0 0] 199)) :=
 ⟨.pointer none,.inl rfl,heap_alloc_new w _,World.ownsRow_nil _ _ _ _,by simp [Value.ownBlock],fun _=>rfl⟩
def OutbQ (b:Nat) (x0 x1 x2 st v:Value) (l:Wd) (w:World):Prop :=
 w.heap[b]? = some (.cells #[x0,x1,x2,.pointer (some ⟨b,3,none⟩),v,st] 199 (0,0))/\w.ownsRow 0 5 1 v l.length (Lib.byteCells l)/\v.ownBlock≠some b/\(l=[]->v = .slice none 0 0)
set_option maxHeartbeats 2000000 in
theorem out_check (h:OutAt b x0 x1 x2 st v l w) :
  Calls Tryz.prog 104 #[.pointer (some ⟨b,3,none⟩)] w fun e w'=>e = .returned (.tuple #[])/\OutbQ b x0 x1 x2 st v l w'/\Fr (outF b v) (outF b v) w w':=by
 obtain ⟨j,hj,hjs⟩:=Option.map_eq_some_iff.1 outb_info;have hlt:=h.lt;obtain ⟨p,h1,h3,h4,h5,h6⟩:=h;have h0:w.cell? ⟨b,3,none⟩=some p:=by rw [Lib.cell_of_heap h3];rfl
 have hfz:w.frozen? ⟨b,3,none⟩=false:=Lib.frozen_of_heap h3 3;have hsh:w.shape? b=some (199,6):=by simp [World.shape?,h3]
 have hset:(w.setCell ⟨b,3,none⟩ (.pointer (some ⟨b,3,none⟩))).heap[b]? = some (.cells #[x0,x1,x2,.pointer (some ⟨b,3,none⟩),v,st] 199 (0,0)):=by
  simp [World.setCell,Array.getElem?_modify,h3]
 have hf1:Fr (fun k=>k=b) (fun k=>k=b) w (w.setCell ⟨b,3,none⟩ (.pointer (some ⟨b,3,none⟩))):=(Fr.refl _ _).set _ (.inl rfl);have hown:(w.setCell ⟨b,3,none⟩ (.pointer (some ⟨b,3,none⟩))).ownsRow 0 5 1 v l.length (Lib.byteCells l):=hf1.own h4 (fun g hg e=>h5 (e▸hg));have hwf:Fr (outF b v) (outF b v) w (w.setCell ⟨b,3,none⟩ (.pointer (some ⟨b,3,none⟩))):=hf1.wide (fun k hk => .inl hk);have HS:=Lib.hid (⟨hset,hown,h5,h6⟩:OutbQ b x0 x1 x2 st v l (w.setCell ⟨b,3,none⟩ (.pointer (some ⟨b,3,none⟩))));have HW:=Lib.hid hwf;rcases h1 with rfl | rfl
 ·clear h3 h4 h5 h6 hset hown hwf hf1;go_enter Tryz.func104,Tryz.ntmps104
  go_wp2
  rw [Lib.run_to_unsafe w ⟨b,3,none⟩ Tryz.underlying153 Tryz.underlying159 hj (by rw [hjs];decide) hsh (show 3<6 by decide)];simp only [Result.andThen];rw [Oper.upon_value];go_wp2
  rw [run_callFunc_extern Tryz.func153 (by kernel_rfl) (by kernel_rfl) (by kernel_rfl) (e:=Extern.AbiNoEscape.same) (by kernel_rfl)];rw [Lib.run_noEscape];simp only [Result.andThen];rw [Oper.upon_value];go_wp2
  rw [Lib.run_from_unsafe w ⟨b,3,none⟩ Tryz.underlying159 Tryz.underlying153 hj hsh (by kernel_rfl)];simp only [Result.andThen];rw [Oper.upon_value];go_wp2
  go_end0
  exact ⟨rfl,HS.out,HW.out⟩
 ·have HQ:=Lib.hid (⟨h3,h4,h5,h6⟩:OutbQ b x0 x1 x2 st v l w);clear h3 h4 h5 h6 hset hown hwf hf1 HS HW;go_enter Tryz.func104,Tryz.ntmps104
  go_wp2
  rw [Lib.run_neq_ptr_same w _ Tryz.underlying153 hj];go_wp2
  go_end0
  exact ⟨rfl,HQ.out,Fr.refl _ _⟩
theorem outstr_cells (t:Wd):Lib.strCells ⟨t.toArray⟩=Lib.byteCells t:=rfl
theorem outbyte_app (a b:Wd):Lib.byteCells a++Lib.byteCells b=Lib.byteCells (a++b):=by simp [Lib.byteCells]
def WriteQ (b:Nat) (x0 x1 x2 st v:Value) (l:Wd) (w w':World):Prop:=∃ v',OutAt b x0 x1 x2 st v' l w'/\Fr (outF b v) (outF b v') w w'
set_option maxHeartbeats 4000000 in
theorem out_write (t:Wd) (h:OutAt b x0 x1 x2 st v l w) (hlen:l.length+t.length<=1000000000) :
  Calls Tryz.prog 126 #[.pointer (some ⟨b,3,none⟩),strv t] w fun e w'=>(∃ v,e = .returned v)/\WriteQ b x0 x1 x2 st v (l++t) w w':=by
 obtain ⟨i0,hi,hz0,hz1,hz2⟩:=outbyte_info;have HCK:=Lib.hid (out_check h);have hts:(⟨t.toArray⟩:ByteArray).size=t.length:=size_mk _;clear h;go_enter Tryz.func126,Tryz.ntmps126
 go_wp2_with fail
 refine HCK.out.mono ?_;rintro e w1 ⟨rfl,⟨hbk,hown,hne,hnil⟩,hwf⟩;have c0:w1.cell? ⟨b,3,none⟩=some (.pointer (some ⟨b,3,none⟩)):=by rw [Lib.cell_of_heap hbk];rfl
 have c1:w1.cell? ⟨b,4,none⟩=some v:=by rw [Lib.cell_of_heap hbk];rfl
 have hlt:b<w1.heap.size:=(Array.getElem?_eq_some_iff.1 hbk).1;have HWF:=Lib.hid hwf;have HOWN:=Lib.hid hown;have HNE:=Lib.hid hne;have HNIL:=Lib.hid hnil;have HBK:=Lib.hid hbk;have HV:=Lib.hid (own_slice hown);clear hwf hown hne hnil hbk;go_wp2_with (at_builtin;refine wpList_str_at rfl _ _ 48 9 rfl 5 i0 Tryz.underlying48 Tryz.underlying9 hi hz0 hz1 hz2 v l.length (Lib.byteCells l) rfl HOWN.out ⟨t.toArray⟩ rfl (by rw [hts];unfold maxLen;omega) (by rw [hts];omega) ?_)
 intro v' w2 hown' hfr hz;have nb:¬rowF v b:=fun e=>HNE.out e
 have hb2:w2.heap[b]? = some (.cells #[x0,x1,x2,.pointer (some ⟨b,3,none⟩),v,st] 199 (0,0)):=(hfr.keep b hlt nb).trans HBK.out;have d1:w2.cell? ⟨b,4,none⟩=some v:=by rw [Lib.cell_of_heap hb2];rfl
 have f1:w2.frozen? ⟨b,4,none⟩=false:=Lib.frozen_of_heap hb2 4;rw [outstr_cells,outbyte_app] at hown';have hown':w2.ownsRow 0 5 1 v' (l.length+t.length) (Lib.byteCells (l++t)):=hown';have hne':v'.ownBlock≠some b:=fun e=>(hfr.fp b e).elim nb (fun q=>by omega)
 have hput:(w2.setCell ⟨b,4,none⟩ v').heap[b]? = some (.cells #[x0,x1,x2,.pointer (some ⟨b,3,none⟩),v',st] 199 (0,0)):=by
  simp [World.setCell,Array.getElem?_modify,hb2]
 have hf2:Fr (fun k=>k=b) (fun k=>k=b) w2 (w2.setCell ⟨b,4,none⟩ v'):=(Fr.refl _ _).set _ (.inl rfl);have hown2:(w2.setCell ⟨b,4,none⟩ v').ownsRow 0 5 1 v' (l++t).length (Lib.byteCells (l++t)):=by
  rw [List.length_append];exact hf2.own hown' (fun g hg e=>hne' (e▸hg))
 have hnil2:l++t=[]->v' = .slice none 0 0:=fun e=>by
  obtain ⟨e1,e2⟩:=List.append_eq_nil_iff.1 e;exact hz.2 ⟨HNIL.out e1,by subst e2;rfl⟩
 have hfb:Fr (outF b v) (outF b v') w1 (w2.setCell ⟨b,4,none⟩ v'):=by
  have h1:Fr (outF b v) (outF b v) w1 w2:=hfr.wide (fun k hk => .inr hk);have h2:Fr (outF b v) (outF b v) w2 (w2.setCell ⟨b,4,none⟩ v'):=hf2.wide (fun k hk => .inl hk);exact (h1.trans h2).tg (fun k hk=>hk.elim (fun e => .inl (.inl e)) (fun e=>(hfr.fp k e).elim (fun q => .inl (.inr q)) .inr))
 have HW:=Lib.hid (⟨v',⟨_,.inr rfl,hput,hown2,hne',hnil2⟩,HWF.out.trans hfb⟩:WriteQ b x0 x1 x2 st v (l++t) w (w2.setCell ⟨b,4,none⟩ v'));obtain ⟨ao,cap,rfl⟩:=own_slice hown';clear hown' hfr hz hb2 hput hown2 hnil2 hne' hfb hf2;go_wp2
 go_ret2
 exact ⟨⟨_,rfl⟩,HW.out⟩
set_option maxHeartbeats 4000000 in
theorem out_get {B:Nat} (hB:∀ g,rowF v g->B<=g) (h:OutAt b x0 x1 x2 st v l w) (hl:l.length<=1000000000) :
  Calls Tryz.prog 73 #[.pointer (some ⟨b,3,none⟩)] w fun e w'=>e = .returned (strv l)/\Below B w w':=by
 obtain ⟨p,h1,hbk,hown,hne,hnil⟩:=h;by_cases h0:l=[]
 ·have hv:=hnil h0;subst hv h0;have c1:w.drew.cell? ⟨b,4,none⟩=some (.slice none 0 0):=by
   have:w.drew.heap[b]? = some (.cells #[x0,x1,x2,p,.slice none 0 0,st] 199 (0,0)):=hbk;rw [Lib.cell_of_heap this];rfl
  have hUS:=fun W q=>Lib.run_unsafeString_none (P:=Tryz.prog) W 229 3 9 q
  have hSD:(Builtin.unsafeSliceData_ #[48] 229 #[.slice none 0 0]).run Tryz.prog w.drew = .ok (.pointer none) w.drew:=rfl;have mixed:Tryz.prog.follows Departure.mixedOrders=true:=by kernel_rfl
  clear hown hbk hne hnil h1 hB;go_enter Tryz.func73,Tryz.ntmps73
  go_wp2
  go_region_o
  all_goals (go_wp2;go_ret;exact ⟨rfl,Below.drew (Below.refl B w)⟩)
 ·have hl0:l.length≠0:=by simpa using h0
  obtain ⟨g,cap,cur,rfl,hg,hnc,hcm,hcs,htake⟩:∃ g cap cur,v = .slice (some ⟨g,0,none⟩) l.length cap/\w.heap[g]? = some (.cells cur 5 (0,0))/\l.length<=cap/\cap<=maxLen/\cur.size=cap*1/\cur.toList.take (l.length*1)=Lib.byteCells l:=by
   rcases hown.2 with ⟨_,hz⟩ | ⟨g,cap,cur,hv,-,r⟩
   ·exact absurd hz hl0
   ·exact ⟨g,cap,cur,hv,r⟩
  have hbg:B<=g:=hB g rfl;have c1:w.drew.cell? ⟨b,4,none⟩=some (.slice (some ⟨g,0,none⟩) l.length cap):=by
   have:w.drew.heap[b]? = some (.cells #[x0,x1,x2,p,.slice (some ⟨g,0,none⟩) l.length cap,st] 199 (0,0)):=hbk;rw [Lib.cell_of_heap this];rfl
  have hSD:(Builtin.unsafeSliceData_ #[48] 229 #[.slice (some ⟨g,0,none⟩) l.length cap]).run Tryz.prog w.drew = .ok (.pointer (some ⟨g,0,none⟩)) w.drew :=
   Lib.run_unsafeSliceData_row _ _ _ _ _ _ (by omega)
  have hUS:(Builtin.unsafeString_ #[229,3] 9 #[.pointer (some ⟨g,0,none⟩),.int .i64 l.length]).run Tryz.prog w.drew = .ok (.string ⟨l.toArray⟩) (w.drew.freeze ⟨g,0,none⟩ l.length):=by
   refine Lib.run_unsafeString_row w.drew 229 3 9 5 Tryz.underlying229 outbyte_cells g cur.size (by have hg':w.drew.heap[g]? = some (.cells cur 5 (0,0)):=hg;simp [World.shape?,hg']) l h0 (by omega) (by omega) ?_;intro j x hx;exact hown.cells (g:=g) rfl j (.int .u8 x.toNat) (by simp [Lib.byteCells,hx])
  have mixed:Tryz.prog.follows Departure.mixedOrders=true:=by kernel_rfl
  clear hown hbk hne hnil h1 hg hcs htake hB;go_enter Tryz.func73,Tryz.ntmps73
  go_wp2
  go_region_o
  all_goals (go_wp2;go_ret;exact ⟨rfl,Lib.below_freeze (Below.drew (Below.refl B w)) (p:=⟨g,0,none⟩) hbg _⟩)
end
structure InsM (q k:Nat) (x:InL) (I n ic:Nat) (kv tv:Value) (w:World):Prop where
 q1:w.cell? ⟨q,1,none⟩=some (.slice (some ⟨I,0,none⟩) n ic)
 lt:k<n
 op:w.cell? ⟨I,k*5,none⟩=some (.int .i64 x.op)
 v:w.cell? ⟨I,k*5+2,none⟩=some (.int .i64 x.v)
 kc:w.cell? ⟨I,k*5+3,none⟩=some kv
 tc:w.cell? ⟨I,k*5+4,none⟩=some tv
 kr:NRow w kv x.k
 tr:NRow w tv x.tg
section
variable {q mb k:Nat} {s:MkS} {vC vI:Value} {rs:List (Value×Value)} {w:World}
theorem ProgAt.ins {x:InL} (h:ProgAt q s vC vI rs mb w) (hk:s.code[k]? = some x):∃ I ic kv tv,InsM q k x I s.code.length ic kv tv w:=by
 have hil:=(List.getElem?_eq_some_iff.1 hk).1;obtain ⟨⟨kv,tv⟩,hr⟩:∃ r,rs[k]? = some r:=⟨_,List.getElem?_eq_getElem (by have:=h.rows.len;omega)⟩;obtain ⟨h1,h2⟩:=h.rows.k k x _ hk hr;obtain ⟨I,ic,hvI,-,hI,hins⟩:=own_some h.cI (by omega);have c:∀ j,j<5->w.cell? ⟨I,k*5+j,none⟩=(insV x (kv,tv))[j]? := fun j hj=>by rw [hins _ (by omega),insR_at _ _ h.rows.len k j x _ hk hr hj]
 exact ⟨I,ic,kv,tv,by rw [h.q1,hvI],hil,c 0 (by omega),c 2 (by omega),c 3 (by omega),c 4 (by omega),h1,h2⟩
theorem ProgAt.con {j:Nat} {t:Wd} (h:ProgAt q s vC vI rs mb w) (hj:s.cs[j]? = some t):∃ C cc,w.cell? ⟨q,0,none⟩=some (.slice (some ⟨C,0,none⟩) s.cs.length cc)/\w.cell? ⟨C,j,none⟩=some (strv t)/\j<s.cs.length:=by
 have hl:=(List.getElem?_eq_some_iff.1 hj).1;obtain ⟨C,cc,hv,-,-,hc⟩:=own_some h.cC (by omega);exact ⟨C,cc,by rw [h.q0,hv],by rw [hc j (by omega),List.getElem?_map,hj];rfl,hl⟩
theorem NRow.at_ {v:Value} {l:List Nat} {j x:Nat} (h:NRow w v l) (hj:l[j]? = some x):∃ g c,v = .slice (some ⟨g,0,none⟩) l.length c/\w.cell? ⟨g,j,none⟩=some (.int .i64 x)/\j<l.length:=by
 have hl:=(List.getElem?_eq_some_iff.1 hj).1;obtain ⟨g,c,hv,-,-,hc⟩:=own_some h (by omega);exact ⟨g,c,hv,by rw [hc j (by omega)];simp [intC,hj],hl⟩
end
section
variable {b q mb k:Nat} {s:MkS} {vC vI x1 x2 st v:Value} {rs:List (Value×Value)} {l:Wd} {w:World} {x:InL}
set_option maxHeartbeats 2000000 in
theorem step_end (h:OutAt b (.pointer (some ⟨q,0,none⟩)) x1 x2 st v l w) (hp:ProgAt q s vC vI rs mb w) (hk:s.code[k]? = some x) (hop:x.op=0) (hn:s.code.length<=1000000) :
  Calls Tryz.prog 87 #[.pointer (some ⟨b,0,none⟩),.int .i64 (k:Nat)] w fun e w'=>e = .returned (.int .i64 (-1))/\w=w':=by
 obtain ⟨I,ic,kv,tv,q1,lt,i0,-⟩:=hp.ins hk;obtain ⟨n,hN⟩:∃ n,s.code.length=n:=⟨_,rfl⟩;rw [hN] at q1 lt hn;rw [hop] at i0;have b0:=h.cell.1;have k1:(k:Int)<(n:Int):=by omega
 clear h hp hk hop hN;go_enter Tryz.func87,Tryz.ntmps87
 go_wp2
 go_ret
 exact ⟨rfl,rfl⟩
set_option maxHeartbeats 4000000 in
theorem step_text {j:Nat} {t:Wd} (h:OutAt b (.pointer (some ⟨q,0,none⟩)) x1 x2 st v l w) (hp:ProgAt q s vC vI rs mb w) (hk:s.code[k]? = some x) (hop:x.op=1) (hj:x.k[0]? = some j) (ht:s.cs[j]? = some t) (hn:s.code.length<=1000000) (hc:s.cs.length<=1000000) (hlen:l.length+t.length<=1000000000) :
  Calls Tryz.prog 87 #[.pointer (some ⟨b,0,none⟩),.int .i64 (k:Nat)] w fun e w'=>e = .returned (.int .i64 ((k+1:Nat):Int))/\WriteQ b (.pointer (some ⟨q,0,none⟩)) x1 x2 st v (l++t) w w':=by
 obtain ⟨I,ic,kv,tv,q1,lt,i0,-,i3,-,kr,-⟩:=hp.ins hk;obtain ⟨C,cc,q0,cj,hjl⟩:=hp.con ht;obtain ⟨K,kc,rfl,kj,hkl⟩:=kr.at_ hj;have HW:=Lib.hid (out_write (w:=w.drew) t h hlen);obtain ⟨n,hN⟩:∃ n,s.code.length=n:=⟨_,rfl⟩;obtain ⟨m,hM⟩:∃ m,s.cs.length=m:=⟨_,rfl⟩;obtain ⟨z,hZ⟩:∃ z,x.k.length=z:=⟨_,rfl⟩;rw [hN] at q1 lt hn;rw [hM] at q0 hjl hc;rw [hZ] at i3 hkl;rw [hop] at i0;have b0:=h.cell.1;have k1:(k:Int)<(n:Int):=by omega
 have k2:(j:Int)<(m:Int):=by omega
 have k3:(0:Int)<(z:Int):=by omega
 have k5:(k:Int)<=1000000:=by omega
 clear h hp hk hop hN hM hZ kr hj ht;go_enter Tryz.func87,Tryz.ntmps87
 go_wp2_with fail
 refine rk (fun W':World=>W'.cell? ⟨b,0,none⟩=some (.pointer (some ⟨q,0,none⟩))/\W'.cell? ⟨q,0,none⟩=some (.slice (some ⟨C,0,none⟩) m cc)/\W'.cell? ⟨I,k*5+3,none⟩=some (.slice (some ⟨K,0,none⟩) z kc)/\W'.cell? ⟨K,0,none⟩=some (.int .i64 j)/\W'.cell? ⟨C,j,none⟩=some (strv t)) 18 (List.range 18) 1 ⟨b0,q0,i3,kj,cj⟩ ?_;(iterate 18 (refine ty ?_;try simp only [pl]))
 refine takes_nil ?_;refine wpAnyK_last 18 (by kernel_rfl) (by kernel_rfl) rfl (fun J hJ=>?_);go_simp
 refine HW.out.mono ?_;rintro e w2 ⟨⟨u,rfl⟩,hw2⟩;refine hJ.out _ _ ?_;clear hJ J;refine wpAnyK_done (by kernel_rfl) ?_ _;have HW2:=Lib.hid hw2;clear hw2 HW;go_wp2
 go_ret
 obtain ⟨v',h1,h2⟩:=HW2.out;exact ⟨by first | rfl | simp,v',h1,h2.und⟩
end
abbrev errnoV (n:Nat):Value := .iface 33 (.int .i64 (n:Nat))
theorem assert_errno (n:Nat) (w:World):(Instr.typeAssert (errnoV n) 20 33 true).run Tryz.prog w = .ok (.tuple #[.int .i64 n,.bool true]) w:=by rfl
theorem assert_nile (w:World):(Instr.typeAssert .nilIface 20 33 true).run Tryz.prog w = .ok (.tuple #[.int .i64 0,.bool false]) w:=by rfl
theorem run_idle (A B:Nat) (w:World):CallsD Tryz.prog 86 #[.pointer (some ⟨A,0,none⟩),.pointer (some ⟨B,0,none⟩)] .returning w fun e u' w'=>e = .returned (.tuple #[])/\u' = .returning/\w'=w:=by
 refine callsD_of_wpS Tryz.func86 rfl fun c₀ cs hu=>?_
 have ha:=assert_nile;apply wpS_seq;apply wpS_region;simp [wpOpsS,go_sem,recoverD,hu,ha,Tryz.ntmps86,Exit.thenS];refine wpS_of_wp ?_;go_wp2
 cases c₀;simp_all [bodyPostS,results,Tryz.results86]
set_option maxHeartbeats 4000000 in
theorem run_catch (A B n:Nat) (u v:Value) (older:List PanicEntry) (w:World) (hA:w.cell? ⟨A,0,none⟩=some u) (hAz:w.frozen? ⟨A,0,none⟩=false) (hB:w.cell? ⟨B,0,none⟩=some v) (hBz:w.frozen? ⟨B,0,none⟩=false) (hAB:B≠A) :
  CallsD Tryz.prog 86 #[.pointer (some ⟨A,0,none⟩),.pointer (some ⟨B,0,none⟩)] (.panicking ({ v:=errnoV n,recovered:=false }::older)) w fun e u' w' =>
   e = .returned (.tuple #[])/\u' = .panicking ({ v:=errnoV n,recovered:=true }::older)/\w'=(w.setCell ⟨A,0,none⟩ (strv [])).setCell ⟨B,0,none⟩ (errnoV n):=by
 have ha:=assert_errno n;refine callsD_of_wpS Tryz.func86 rfl fun c₀ cs hu=>?_
 apply wpS_seq;apply wpS_region;simp [wpOpsS,go_sem,recoverD,hu,ha,Tryz.ntmps86,Exit.thenS];refine wpS_of_wp ?_;simp only [Array.replicate,List.replicate,List.setIfInBounds_toArray,List.set_cons_zero,List.set_cons_succ,List.append_toArray,List.cons_append,List.nil_append,Act.put];have hB':(w.setCell ⟨A,0,none⟩ (strv [])).cell? ⟨B,0,none⟩=some v:=by rw [cellSet,if_neg (fun e=>hAB (congrArg Addr.block e).symm)];exact hB
 go_wp2
 simp [bodyPostS,results,Tryz.results86]
inductive StO (σ:Type) where
 | go (k:Nat) (s:σ)
 | fin (s:σ)
 | err (n:Nat)
def runF {σ:Type} (F:Nat->σ->StO σ):Nat->Nat->σ->Option (Except Nat σ)
 | 0,_,_=>none
 | f+1,k,s=>match F k s with | .go k' s'=>runF F f k' s' | .fin s'=>some (.ok s') | .err n=>some (.error n)
def VStQ {σ:Type} (G:Nat->Prop) (I:Nat->σ->World->Prop) (J:σ->World->Prop) (r:StO σ) (w:World) (e:Ending) (w':World):Prop :=
 (match r with
  | .go k s=>e = .returned (.int .i64 (k:Nat))/\I k s w'
  | .fin s=>e = .returned (.int .i64 (-1))/\J s w'
  | .err n=>∃ older:List PanicEntry,e = .panicked ({ v:=errnoV n,recovered:=false }::older)/\older.dropWhile (!·.goexit)=[])/\Fr G G w w'
def RunE {σ:Type} (G:Nat->Prop) (out:σ->Wd) (r:Except Nat σ) (w:World) (e:Ending) (w':World):Prop :=
 (match r with
  | .ok s=>e = .returned (.tuple #[strv (out s),.nilIface])
  | .error n=>e = .returned (.tuple #[strv [],errnoV n]))/\Fr G G w w'
def runW (w:World) (p l g:Value):World:=((w.alloc (.cells #[strv []] 9)).alloc (.cells #[.nilIface] 73)).alloc (.cells #[p,l,g,.pointer none,.slice none 0 0,.slice none 0 0] 199)
theorem resr_made (w:World) {A:Nat} (hA:w.heap.size=A):ResAt A (strv []) .nilIface ((w.alloc (.cells #[strv []] 9)).alloc (.cells #[.nilIface] 73)):=by
 have h1:(w.alloc (.cells #[strv []] 9)).heap.size=A+1:=by simp [hA]
 have hlt:A<(w.alloc (.cells #[strv []] 9)).heap.size:=by omega
 refine ⟨?_,?_,?_,?_⟩
 ·rw [World.cell?_alloc_lt _ _ _ hlt,←hA];exact cell_made _ _ _ _ _
 ·rw [←h1];exact cell_made _ _ _ _ _
 ·rw [World.frozen?_of_block (Below.heap_alloc _ _ _ hlt)];subst hA;simp
 ·rw [←h1];simp
theorem ResAt.fr {A:Nat} {u v:Value} {w w':World} {F F':Nat->Prop} (h:ResAt A u v w) (hf:Fr F F' w w') (ha:¬F A) (hb:¬F (A+1)):ResAt A u v w' :=
 h.keep fun k hk=>hf.keep k (by have:=h.lt;omega) (by rcases hk with rfl | rfl<;>assumption)
def RunRel {σ:Type} (G:Nat->Prop) (I:Nat->σ->World->Prop) (J:σ->World->Prop) (F:Nat->σ->StO σ) (r:Except Nat σ) (A:Nat) (w:World) (m:Nat) (kv:Value) (wr:World):Prop :=
 ((∃ k s,kv = .int .i64 (k:Nat)/\I k s wr/\runF F m k s=some r)\/∃ s,kv = .int .i64 (-1)/\J s wr/\r = .ok s)/\ResAt A (strv []) .nilIface wr/\Fr G G w wr
set_option maxHeartbeats 4000000 in
theorem run_any {σ:Type} (G:Nat->Prop) (I:Nat->σ->World->Prop) (J:σ->World->Prop) (out:σ->Wd) (F:Nat->σ->StO σ) (fuel:Nat) (s0:σ) (r:Except Nat σ) (w:World) (pa la:Option Addr) (gf:Fn) (g1 g2:Array Value)
  (hGA:¬G w.heap.size) (hGB:¬G (w.heap.size+1)) (hG2:∀ k,w.heap.size+2<=k->G k) (h0:I 0 s0 (runW w (.pointer pa) (.pointer la) (.func gf g1 g2)))
  (hout:∀ s W,J s W->∃ v x0 x1 x2 st,OutAt (w.heap.size+2) x0 x1 x2 st v (out s) W/\(∀ b,rowF v b->w.heap.size+2<=b)/\(out s).length<=1000000000)
  (hst:∀ k s W,I k s W->Calls Tryz.prog 87 #[.pointer (some ⟨w.heap.size+2,0,none⟩),.int .i64 (k:Nat)] W (VStQ G I J (F k s) W))
  (hr:runF F fuel 0 s0=some r):Calls Tryz.prog 53 #[.pointer pa,.pointer la,.func gf g1 g2] w (RunE G out r w):=by
 have hmf:∀ (fn:Fn) (first cap:Array Value) (w:World),(Instr.makeFunc fn first cap).run Tryz.prog w = .ok (.func fn first cap) w:=fun _ _ _ _=>rfl
 obtain ⟨A,hA⟩:∃ A,w.heap.size=A:=⟨_,rfl⟩;rw [hA] at hGA hGB hG2 hout hst;have hres0:=resr_made w hA;have HOUT:=Lib.hid hout;have HST:=Lib.hid hst;have HR:=Lib.hid hr;have HA:=Lib.hid hA;have hW2:((w.alloc (.cells #[strv []] 9)).alloc (.cells #[.nilIface] 73)).heap.size=A+2:=by simp [hA]
 have hf0:Fr G G w (runW w (.pointer pa) (.pointer la) (.func gf g1 g2)):=(((Fr.refl _ _).alloc _).alloc _).alloc _;have hresW:ResAt A (strv []) .nilIface (runW w (.pointer pa) (.pointer la) (.func gf g1 g2)):=hres0.below ((Below.refl _ _).alloc (Nat.le_refl _) _);obtain ⟨W0,hW0⟩:∃ W0,runW w (.pointer pa) (.pointer la) (.func gf g1 g2)=W0:=⟨_,rfl⟩;rw [hW0] at hf0 hresW h0;have HW0:=Lib.hid hW0;have H0:=Lib.hid h0;have HF0:=Lib.hid hf0;clear hout hst hr hA hres0 hW0 h0 hf0;go_enter_defers Tryz.func53,Tryz.ntmps53
 go_wp2_with fail
 rw [HA.out];go_loopg [9] fuel (fun m kv wr=>RunRel G I J F r A w m kv wr)
 case atStart =>
  have e:=HW0.out;subst e;exact ⟨.inl ⟨0,s0,rfl,H0.out,HR.out⟩,hresW,HF0.out⟩
 case round =>
  obtain ⟨hcase,hres,hfr⟩:=hrel;have HRES:=Lib.hid hres;have HFR:=Lib.hid hfr;clear hW2 hresW hfr;rcases hcase with ⟨k,s,rfl,hI,hrun⟩ | ⟨s,rfl,hI,hrs⟩
  ·obtain ⟨m,hm⟩:∃ m,gk=m+1:=by
    refine ⟨gk - 1,?_⟩;have:gk≠0:=fun e=>by rw [e] at hrun;cases hrun
    omega
   rw [hm,runF] at hrun;have HM:=Lib.hid hm;have HRUN:=Lib.hid hrun;have hk0:decide ((0:Int)<=(k:Int))=true:=by simp
   have HS:=Lib.hid (HST.out k s wr hI);clear hm hrun hres hI;go_wp2_with fail
   refine HS.out.mono ?_;rintro e w1 ⟨hq,hf⟩;have hres1:=HRES.out.fr hf hGA hGB;have HF1:=Lib.hid (HFR.out.trans hf);have hrun:=HRUN.out;obtain ⟨o,ho⟩:∃ o,F k s=o:=⟨_,rfl⟩;rw [ho] at hq hrun;clear ho hf HS HRUN HFR HRES
   cases o with
   | go k' s' =>
    obtain ⟨rfl,hI'⟩:=hq;have HI:=Lib.hid hI';have HRES1:=Lib.hid hres1;have HRUN:=Lib.hid (show runF F m k' s'=some r from hrun);clear hI' hres1 hrun;go_wp2
    go_roundg m
    case measure=>have:=HM.out;omega
    case rel=>exact ⟨.inl ⟨k',s',rfl,HI.out,HRUN.out⟩,HRES1.out,HF1.out⟩
   | fin s' =>
    obtain ⟨rfl,hI'⟩:=hq;have HI:=Lib.hid hI';have HRES1:=Lib.hid hres1;have HRUN:=Lib.hid (show (some (.ok s'):Option (Except Nat σ))=some r from hrun);clear hI' hres1 hrun;go_wp2
    go_roundg m
    case measure=>have:=HM.out;omega
    case rel=>exact ⟨.inr ⟨s',rfl,HI.out,(Option.some.inj HRUN.out).symm⟩,HRES1.out,HF1.out⟩
   | err n =>
    obtain ⟨older,rfl,hold⟩:=hq;have HOLD:=Lib.hid hold;have HRUN:=Lib.hid (show (some (.error n):Option (Except Nat σ))=some r from hrun);clear hold hrun;go_wp2
    refine leaves_cons (f:=86) (args:=#[.pointer (some ⟨A,0,none⟩),.pointer (some ⟨A+1,0,none⟩)]) (by simp) (by simp [go_sem]) ?_;refine (run_catch A (A+1) _ _ _ _ _ hres1.c0 hres1.z0 hres1.c1 hres1.z1 (by omega)).mono ?_;rintro e u' w'' ⟨rfl,rfl,rfl⟩;have hres2:=(hres1.set0 (x:=strv [])).set1 (x:=errnoV n);have hcA:=hres2.c0;have hcB:=hres2.c1;simp [Leaves,settle,results,Tryz.results53,go_sem,hcA,hcB,HOLD.out];have hr:=Option.some.inj HRUN.out;rw [←hr];exact ⟨rfl,(HF1.out.set _ (.inr (by rw [HA.out];exact Nat.le_refl _))).set _ (.inr (by rw [HA.out];exact Nat.le_succ _))⟩
  ·obtain ⟨v,x0,x1,x2,st,ho,hv,hl⟩:=HOUT.out s wr hI;have HG:=Lib.hid (out_get hv ho hl);have HRS:=Lib.hid hrs;clear hI hrs ho hv hl hres;go_wp2_with fail
   refine HG.out.mono ?_;rintro e w1 ⟨rfl,hb⟩;have hres1:=HRES.out.keep (fun k hk=>hb.block k (by omega));have hlt:=HRES.out.lt;have hf1:Fr G G w w1:=HFR.out.trans ⟨hb.os,hb.tape,hb.output,hb.size,fun k hk hn=>hb.block k (Nat.lt_of_not_le fun q=>hn (hG2 k q)),fun _ q => .inl q⟩;have HF1:=Lib.hid hf1;obtain ⟨t,ht⟩:∃ t,out s=t:=⟨_,rfl⟩;rw [ht];have HT:=Lib.hid ht;have q0:=hres1.c0;have q1:=hres1.c1;have q2:=hres1.z0;have q3:=hres1.z1;have hr6:=hres1.set0 (x:=strv t);have hr7:=hr6.set1 (x := .nilIface);have q4:=hr6.c1;have q5:=hr6.z1;clear hf1 hb ht HG;go_wp2
   refine leaves_cons (f:=86) (args:=#[.pointer (some ⟨A,0,none⟩),.pointer (some ⟨A+1,0,none⟩)]) (by simp) (by simp [go_sem]) ?_;refine (run_idle A (A+1) _).mono ?_;rintro e u' w'' ⟨rfl,rfl,rfl⟩;have hcA:=hr7.c0;have hcB:=hr7.c1;simp [Leaves,settle,results,Tryz.results53,go_sem,hcA,hcB];rw [HRS.out];exact ⟨by rw [←HT.out],(HF1.out.set _ (.inr (by rw [HA.out];exact Nat.le_refl _))).set _ (.inr (by rw [HA.out];exact Nat.le_succ _))⟩
def txtF (t:Wd):Fo:=if t=[] then .nil else .text t .nil
theorem all_nil:MkS.all .nil=⟨[],[⟨0,0,0,[],[]⟩],1⟩:=by
 simp [MkS.all,MkS.mes,MkS.goS,MkS.start,MkS.put,insX,frmL,insB]
theorem all_text (t:Wd):MkS.all (.text t .nil)=⟨[t],[⟨1,0,0,[0],[]⟩,⟨0,3,0,[],[]⟩],4⟩:=by
 simp [MkS.all,MkS.mes,MkS.goS,MkS.start,MkS.put,MkS.one,MkS.const,MkS.num,insX,frmL,insB,twoL]
theorem ProgAt.below {q mb:Nat} {s:MkS} {vC vI:Value} {rs:List (Value×Value)} {w w':World} (h:ProgAt q s vC vI rs mb w) (hb:Below w.heap.size w w'):ProgAt q s vC vI rs mb w':=by
 have hf:Fr noF noF w w':=Fr.of hb;exact ⟨hf.cell h.q0 id,hf.cell h.q1 id,hf.cell h.q2 id,hf.own h.cC (fun _ _ q=>q),hf.own h.cI (fun _ _ q=>q),h.rows.fr hf (fun _ q=>q.elim),h.mp.keep (hb.block mb h.mp.lt)⟩
def TxtI (A:Nat) (x0 x1 x2:Value) (l:Wd) (w W:World):Prop:=(∃ v,OutAt (A+2) x0 x1 x2 (.slice none 0 0) v l W/\∀ b,rowF v b->A+2<=b)/\Fr (fun k=>A+2<=k) (fun k=>A+2<=k) w W
def txtN (t:Wd):Nat:=if t=[] then 1 else 2
def txtG (t:Wd) (k:Nat) (l:Wd):StO Wd:=if k+1=txtN t then .fin l else .go (k+1) (l++t)
theorem txt_run (t:Wd):runF (txtG t) 3 0 []=some (.ok t):=by
 by_cases h:t=[]
 ·subst h;simp [runF,txtG,txtN]
 ·simp [runF,txtG,txtN,h]
set_option maxHeartbeats 4000000 in
theorem run_text {q mb:Nat} {vC vI:Value} {rs:List (Value×Value)} (t:Wd) (w:World) (la:Option Addr) (gf:Fn) (g1 g2:Array Value) (hp:ProgAt q (MkS.all (txtF t)) vC vI rs mb w) (ht:t.length<=1000000) :
  Calls Tryz.prog 53 #[.pointer (some ⟨q,0,none⟩),.pointer la,.func gf g1 g2] w fun e w'=>e = .returned (.tuple #[strv t,.nilIface])/\Below w.heap.size w w':=by
 obtain ⟨A,hA⟩:∃ A,w.heap.size=A:=⟨_,rfl⟩;refine (run_any (fun k=>A+2<=k) (fun k l W=>k<txtN t/\l=(if k=0 then [] else t)/\TxtI A (.pointer (some ⟨q,0,none⟩)) (.pointer la) (.func gf g1 g2) l w W)
  (fun l W=>l=t/\TxtI A (.pointer (some ⟨q,0,none⟩)) (.pointer la) (.func gf g1 g2) l w W) id (txtG t) 3 [] (.ok t) w (some ⟨q,0,none⟩) la gf g1 g2 (by rw [hA];omega) (by rw [hA];omega) (fun k hk=>by rw [hA] at hk;exact hk) ?_ ?_ ?_ (txt_run t)).mono ?_
 ·refine ⟨by unfold txtN;split<;>omega,rfl,⟨.slice none 0 0,?_,fun b hb=>by cases hb⟩,(((Fr.refl _ _).alloc _).alloc _).alloc _⟩;have h:=out_new ((w.alloc (.cells #[strv []] 9)).alloc (.cells #[.nilIface] 73)) (.pointer (some ⟨q,0,none⟩)) (.pointer la) (.func gf g1 g2);rw [show ((w.alloc (.cells #[strv []] 9)).alloc (.cells #[.nilIface] 73)).heap.size=A+2 by simp [hA]] at h;exact h
 ·rintro l W ⟨rfl,⟨v,ho,hv⟩,-⟩;rw [hA];exact ⟨v,_,_,_,_,ho,hv,by show l.length<=_;omega⟩
 ·rintro k l W ⟨hk,hl,⟨v,ho,hv⟩,hf⟩;rw [hA];have hpW:=hp.below (hf.low (B:=w.heap.size) (fun k hk=>by rw [hA];have:A+2<=k:=hk;omega) (Nat.le_refl _));by_cases h0:t=[]
  ·have hN:txtN t=1:=if_pos h0;rw [hN] at hk;obtain rfl:k=0:=by omega
   rw [txtF,if_pos h0,all_nil] at hpW;refine (step_end (x:=⟨0,0,0,[],[]⟩) ho hpW rfl rfl (by simp)).mono ?_;rintro e w' ⟨rfl,rfl⟩;rw [txtG,if_pos hN.symm];exact ⟨⟨rfl,by rw [hl,h0];rfl,⟨v,ho,hv⟩,hf⟩,Fr.refl _ _⟩
  ·have hN:txtN t=2:=if_neg h0;rw [hN] at hk;rw [txtF,if_neg h0,all_text] at hpW;by_cases hk0:k=0
   ·subst hk0;obtain rfl:l=[]:=hl;refine (step_text (x:=⟨1,0,0,[0],[]⟩) (j:=0) (t:=t) ho hpW rfl rfl rfl rfl (show 2<=1000000 by decide) (show 1<=1000000 by decide) (by simp;omega)).mono ?_;rintro e w' ⟨rfl,v',ho',hf'⟩;rw [txtG,if_neg (by rw [hN];decide)];have hf2:Fr (fun k=>A+2<=k) (fun k=>A+2<=k) W w':=hf'.wide (fun k hk=>by
     rcases hk with rfl | hk
     ·exact Nat.le_refl _
     ·exact hv k hk)
    refine ⟨⟨rfl,by rw [hN];decide,by simp,⟨v',ho',fun b hb=>?_⟩,hf.trans hf2⟩,hf2⟩;rcases hf'.fp b (.inr hb) with hq | hq
    ·rcases hq with rfl | hq
     ·exact Nat.le_refl _
     ·exact hv b hq
    ·have:=ho.lt;omega
   ·obtain rfl:k=1:=by omega
    refine (step_end (x:=⟨0,3,0,[],[]⟩) ho hpW rfl rfl (by simp)).mono ?_;rintro e w' ⟨rfl,rfl⟩;rw [txtG,if_pos hN.symm];exact ⟨⟨rfl,hl,⟨v,ho,hv⟩,hf⟩,Fr.refl _ _⟩
 ·rintro e w' ⟨he,hf⟩;exact ⟨he,hf.low (fun k hk=>by rw [hA];have:A+2<=k:=hk;omega) (Nat.le_refl _)⟩
def faultC (l:List (Nat×Nat)):List Value:=l.flatMap fun x=>[.int .i64 (x.1:Nat),.int .i64 (x.2:Nat)]
theorem faultC_len (l:List (Nat×Nat)):(faultC l).length=l.length*2:=by
 induction l with
 | nil=>rfl
 | cons a t ih=>simp only [faultC,List.flatMap_cons,List.length_append,List.length_cons,List.length_nil] at ih ⊢;omega
theorem faultC_app (a b:List (Nat×Nat)):faultC (a++b)=faultC a++faultC b:=by simp [faultC]
theorem elem_fault:Elem Tryz.prog 253 105 (.agg #[.int .i64 0,.int .i64 0]) 2 16 :=
 ⟨Tryz.underlying253,info_parts (by kernel_rfl),rfl,by decide,by decide⟩
theorem mapt_int:MapT 185 3:=⟨Tryz.underlying185,Tryz.underlying3,fun w=>by simp [go_sem]⟩
def othW:Wd:=[111,116,104,101,114]
def bGo (cl:Nat):List Wd->List (Nat×Nat)->Fo->List (Nat×Nat)
 | seen,acc,.leg k a _ r=>bGo cl (k::seen) (if k∈seen then acc++[(7,a)] else acc) r
 | seen,acc,_=>if othW∈seen then acc else acc++[(6,cl)]
def FaultsR (base:Nat) (w:World) (v:Value) (l:List (Nat×Nat)):Prop:=w.ownsRow base 105 2 v l.length (faultC l)
theorem cells_two {w:World} {b:Nat} {u v:Value} (h:w.cell? ⟨b,0,none⟩=some u) (h2:w.cell? ⟨b,1,none⟩=some v):∀ j x,[u,v][j]? = some x->w.cell? ((⟨b,0,none⟩:Addr).add j)=some x:=by
 intro j x hx;match j,hx with
 | 0,hx=>simp at hx;subst hx;exact h
 | 1,hx=>simp at hx;subst hx;rw [addr_add0];exact h2
 | j+2,hx=>simp at hx
def SeenF (f:Wd->Option Nat) (seen:List Wd):Prop:=∀ k,(0<(f k).getD 0 ↔ k∈seen)/\(f k).getD 0<=seen.length
theorem SeenF.more {f:Wd->Option Nat} {seen:List Wd} (h:SeenF f seen) (k:Wd):SeenF (fun x=>if k=x then some ((f k).getD 0+1) else f x) (k::seen):=by
 intro x;have:=h x;have h2:=h k;by_cases hx:k=x
 ·subst hx;simp;omega
 ·simp only [hx,↓reduceIte,List.mem_cons,List.length_cons];have hne:¬x=k:=fun e=>hx e.symm
  refine ⟨by rw [this.1];simp [hne],by omega⟩
theorem FaultsR.keepB {base:Nat} {w w':World} {v:Value} {l:List (Nat×Nat)} (h:FaultsR base w v l) (hb:Below w.heap.size w w'):FaultsR base w' v l :=
 h.kept (row:=some w.heap.size) ⟨hb.os,hb.tape,hb.output,hb.size,fun i hi _=>hb.block i hi⟩ (by
  cases hv:v.ownBlock with
  | none=>exact .inl rfl
  | some g=>exact .inr (fun e=>by have:=(h.lt g hv).2;cases e;omega))
theorem FaultsR.keepG {base b:Nat} {w w':World} {v:Value} {l:List (Nat×Nat)} (h:FaultsR base w v l) (hg:w.grownBy w' (some b)) (hb:b<base):FaultsR base w' v l :=
 h.kept hg (by
  cases hv:v.ownBlock with
  | none=>exact .inl rfl
  | some g=>exact .inr (fun e=>by have:=(h.lt g hv).1;cases e;omega))
theorem ownsRow_base {w0 w:World} {mb:Nat} {v:Value} {l:List (Nat×Nat)} (h:FaultsR (mb+1) w v l) (hm:w0.heap.size=mb):FaultsR w0.heap.size w v l:=by
 obtain ⟨h1,h2⟩:=h;refine ⟨h1,?_⟩;rcases h2 with h2 | ⟨g,cap,cur,hv,hg,rest⟩
 ·exact .inl h2
 ·exact .inr ⟨g,cap,cur,hv,by omega,rest⟩
set_option maxHeartbeats 8000000 in
theorem syn_branches {lo hi:Nat} {w0:World} (b0:Nat) (n:Wd) (a fo:Nat) (of:Wd) (cl:Nat) (bs:Fo) (w:World) (hk:KeepR lo hi w0 w)
  (hnd:NodesV lo hi w0 [.iface 177 (.pointer (some ⟨b0,0,none⟩))] (.br n a fo of cl bs .nil)) (hwf:(Fo.br n a fo of cl bs .nil).wf 2000000=true) :
  Calls Tryz.prog 116 #[.pointer (some ⟨b0,0,none⟩)] w fun e w'=>(∃ v,e = .returned v/\FaultsR w.heap.size w' v (bGo cl [] [] bs))/\Below w.heap.size w w':=by
 have hmm:=@run_makeMap Tryz.prog;obtain ⟨vt,b',ba,bc,ws,he,hb1,hb2,hc0,hc1,hc2,hc3,hc4,hc5,hrw,hbs,_⟩:=hnd
 cases he;have hwq:(decide (n.length<=4000001) && decide (fo<3) && bs.isLegs && decide (bs.len<=2000000) && bs.wf 2000000 && Fo.nil.wf 2000000)=true:=hwf;simp only [Bool.and_eq_true,decide_eq_true_eq] at hwq;obtain ⟨⟨⟨⟨⟨hnl,hfo⟩,hbl⟩,hbn⟩,hbw⟩,_⟩:=hwq;have HK:=Lib.hid hk;have HBS:=Lib.hid hbs;have HRW:=Lib.hid hrw;have HBL:=Lib.hid hbl;have HBW:=Lib.hid hbw;have HC5:=Lib.hid hc5;have c4:=keep_cell hk hc4 hb1 hb2;obtain ⟨R,hR⟩:∃ R,bGo cl [] [] bs=R:=⟨_,rfl⟩;rw [hR];have HR:=Lib.hid hR;have hhi:hi<=w.heap.size:=hk.1;obtain ⟨mb,hmb⟩:∃ mb,w.heap.size=mb:=⟨_,rfl⟩;have HMB:=Lib.hid hmb;clear hk hbs hrw hbl hbw hc0 hc1 hc2 hc3 hc4 hc5 hwf hR;have hmd:=MapG.made 3 w;rw [hmb] at hmd;have hbd:Below w.heap.size w (w.alloc (.map #[] 0)):=(Below.refl _ _).alloc (Nat.le_refl _) _;have c4':(w.alloc (.map #[] 0)).cell? ⟨b0,4,none⟩=some (.slice ba bs.len bc):=(World.cell?_alloc_lt _ _ _ (show b0<w.heap.size by omega)).trans c4;have hsz0:(w.alloc (.map #[] 0)).heap.size=mb+1:=by simp [hmb]
 obtain ⟨W0,hW0⟩:∃ W0,w.alloc (.map #[] 0)=W0:=⟨_,rfl⟩;rw [hW0] at hmd hbd hsz0;have HW0:=Lib.hid hW0;clear hW0;go_enter Tryz.func116,Tryz.ntmps116
 go_wp2_with fail
 clear c4 c4' hmb;go_loopw [2,12] (fun fv iv wr=>∃ i us xs r acc seen nm fm,iv = .int .i64 (i:Nat)/\i<=bs.len/\NodesV lo hi w0 xs r/\r.isLegs=true/\r.wf 2000000=true/\us.length=i*3/\ws=us++xs/\i+r.len=bs.len/\Below w.heap.size w wr/\mb<wr.heap.size/\FaultsR (mb+1) wr fv acc/\MapG 3 wr mb nm fm/\nm<=i/\SeenF fm seen/\seen.length=i/\acc.length<=i/\bGo cl seen acc r=R) (fun _ iv _=>bs.len - (intOf iv).toNat)
 case atStart =>
  rw [HW0.out];exact ⟨0,[],ws,bs,[],[],0,fun _=>none,rfl,Nat.zero_le _,HBS.out,HBL.out,HBW.out,rfl,rfl,by omega,hbd,by omega,World.ownsRow_nil _ _ _ _,hmd,Nat.le_refl _,(fun k=>by simp),rfl,Nat.le_refl _,HR.out⟩
 case round =>
  obtain ⟨i,us,xs,r,acc,seen,nm,fm,rfl,hiL,hnr,hmr,hwr,hus,hvs,hln,hbw1,hmw,how,hmp,hnm,hsn,hsl,hal,hr1⟩:=hrel;have hkw:KeepR lo hi w0 wr:=HK.out.below hbw1;have HOW:=Lib.hid how;have HMP:=Lib.hid hmp;have HSN:=Lib.hid hsn;have HSL:=Lib.hid hsl;have HAL:=Lib.hid hal;have HR1:=Lib.hid hr1;have HN2:=Lib.hid hnr;have HMR2:=Lib.hid hmr;have HWR2:=Lib.hid hwr;have HVS2:=Lib.hid hvs;have HUS2:=Lib.hid hus;have HLN2:=Lib.hid hln;obtain ⟨fa,fc,rfl⟩:=own_slice how;clear hnr hmr hwr hvs hus how hmp hsn hsl hal hr1;by_cases hlt2:i<bs.len
  ·cases r with
   | nil=>exfalso;simp [Fo.len] at hln;omega
   | text t r=>have:=HMR2.out;cases this
   | hash r=>have:=HMR2.out;cases this
   | put n a r=>have:=HMR2.out;cases this
   | num n a r=>have:=HMR2.out;cases this
   | br n a fo of cl bs r=>have:=HMR2.out;cases this
   | leg k0 a0 m0 r0 =>
    obtain ⟨vt2,ma,mc,ms,he2,hmrow,hmn,hnr3⟩:=HN2.out;subst he2;have hwl:ws.length=us.length+(vt2.length+3):=by rw [HVS2.out];simp
    have hat:∀ j v,[strv k0,.int .i64 (a0:Nat),.slice ma m0.len mc][j]? = some v->∃ (h:i*3+j<ws.length),ws[i*3+j]=v:=by
     intro j v hj;have hj3:j<3:=by
      apply Classical.byContradiction;intro hc;rw [List.getElem?_eq_none (by simp;omega)] at hj
      cases hj
     refine ⟨by have:=HUS2.out;omega,?_⟩;have h1:ws[i*3+j]? = some v:=by
      rw [HVS2.out,←HUS2.out,List.getElem?_append_right (by omega),Nat.add_sub_cancel_left,←hj];match j,hj3 with
      | 0,_=>rfl
      | 1,_=>rfl
      | 2,_=>rfl
     rw [List.getElem?_eq_getElem (by have:=HUS2.out;omega)] at h1;exact Option.some.inj h1
    obtain ⟨q0,p0⟩:=hat 0 _ rfl;obtain ⟨q1,p1⟩:=hat 1 _ rfl;obtain ⟨q2,p2⟩:=hat 2 _ rfl;obtain ⟨g2,o2,rfl,hg21,hg22,d0⟩:=HRW.out (i*3+0) q0;obtain ⟨g2',o2',hgg,_,_,d1⟩:=HRW.out (i*3+1) q1
    cases hgg;obtain ⟨g2',o2',hgg,_,_,d2⟩:=HRW.out (i*3+2) q2
    cases hgg;rw [p0] at d0;rw [p1] at d1;rw [p2] at d2;have c0:=keep_cell hkw d0 hg21 hg22;have c1:=keep_cell hkw d1 hg21 hg22;have c2:=keep_cell hkw d2 hg21 hg22;simp only [Nat.add_zero,←Nat.add_assoc] at c0 c1 c2;have HNR3:=Lib.hid hnr3;have k3:(i:Int)<(bs.len:Int):=by omega
    have k4:decide ((i:Int)<(bs.len:Int))=true:=by simp;omega
    have hwq2:(decide (k0.length<=4000001) && m0.isMsg && decide (m0.len<=2000000) && m0.wf 2000000 && r0.wf 2000000)=true:=HWR2.out;simp only [Bool.and_eq_true,decide_eq_true_eq] at hwq2;obtain ⟨⟨⟨⟨hk0,_⟩,_⟩,_⟩,hm4⟩:=hwq2;have HWR3:=Lib.hid hm4;have HMR3:=Lib.hid (show r0.isLegs=true from HMR2.out);have HLN3:=Lib.hid (show i+(r0.len+1)=bs.len from HLN2.out);have hbA:Below wr.heap.size wr (wr.alloc (.cells #[strv k0,.int .i64 (a0:Nat),.slice ma m0.len mc] 183)):=(Below.refl _ _).alloc (Nat.le_refl _) _;have hMA:=HMP.out.below hbA;have hlk:=hMA.look1 mapt_int k0 (by omega);obtain ⟨cn,hcn⟩:∃ cn,(fm k0).getD 0=cn:=⟨_,rfl⟩;rw [hcn] at hlk;have HS1:=Lib.hid (HSN.out.more k0);rw [hcn] at HS1;have hck:=HSN.out k0;rw [hcn] at hck;have hcl:cn<=i:=by have:=HSL.out;omega
    have HCN:=Lib.hid hcn;have HCK:=Lib.hid hck.1;clear hmrow hmn hnr3 d0 d1 d2 p0 p1 p2 hat hcn hck hm4 hkw hln hwl;have hwA:=hbw1.trans (hbA.mono (by have:=hbw1.size;omega));by_cases hin:k0∈seen
    ·have hpos:=HCK.out.2 hin;have j1:decide ((0:Int)<(cn:Int))=true:=by simp;omega
     have j2:decide (0<cn)=true:=by simp;omega
     have HRN:=Lib.hid (show bGo cl (k0::seen) (acc++[(7,a0)]) r0=R by rw [←HR1.out,bGo,if_pos hin]);clear hin;have HMA:=Lib.hid hMA;have HOA:=Lib.hid (HOW.out.keepB hbA);clear hMA;go_wp2_with (at_builtin;refine list_gen ?_)
     intro W3 hW3;have hbA2:Below (wr.alloc (.cells #[strv k0,.int .i64 (a0:Nat),.slice ma m0.len mc] 183)).heap.size (wr.alloc (.cells #[strv k0,.int .i64 (a0:Nat),.slice ma m0.len mc] 183)) W3:=by rw [hW3];exact (Below.refl _ _).alloc (Nat.le_refl _) _
     have hsA:(wr.alloc (.cells #[strv k0,.int .i64 (a0:Nat),.slice ma m0.len mc] 183)).heap.size=wr.heap.size+1:=by simp
     have hC3:=fun i=>cell_made (wr.alloc (.cells #[strv k0,.int .i64 (a0:Nat),.slice ma m0.len mc] 183)) #[.int .i64 7,.int .i64 (a0:Nat)] 105 (0,0) i
     rw [←hW3,hsA] at hC3;have hcB3:=(hbA2.cell (p:=⟨wr.heap.size,0,none⟩) (by show wr.heap.size<_;omega)).trans (cell_made wr #[strv k0,.int .i64 (a0:Nat),.slice ma m0.len mc] 183 (0,0) 0);have HM3:=Lib.hid (HMA.out.below hbA2);have HO3:=Lib.hid (HOA.out.keepB hbA2);have hsz3:=hbA2.size;have hbw3:=hwA.trans (hbA2.mono (by have:=hbw1.size;omega));clear hW3;refine app_own elem_fault rfl _ _ rfl (mb+1) _ acc.length (faultC acc) rfl HO3.out ⟨wr.heap.size+1,0,none⟩ 1 1 [.int .i64 7,.int .i64 (a0:Nat)] rfl rfl ?u1 ?u2 (by have:=HAL.out;omega) (by omega) ?u3
     case u1=>exact cells_two (hC3 0) (hC3 1)
     case u2 =>
      intro u hu;simp at hu;rcases hu with rfl | rfl<;>rfl
     intro v4 w4 ho4 hg4;have HO4:=Lib.hid (show FaultsR (mb+1) w4 v4 (acc++[(7,a0)]) by unfold FaultsR;rw [faultC_app,List.length_append];exact ho4);have hown:∀ k,(Value.slice fa acc.length fc).ownBlock=some k->mb+1<=k/\k<wr.heap.size:=fun k hk=>HOW.out.lt k hk
     have hM4:=HM3.out.keep (hg4.block mb HM3.out.lt (fun e=>by have:=hown mb e.symm;omega));have hbw4:Below w.heap.size w w4:=hbw3.grown hg4 hbw3.size (fun k hk=>by have:=hown k hk;have:=HMB.out;omega);have hcB4:w4.cell? ⟨wr.heap.size,0,none⟩=some (strv k0):=hg4.cell hcB3 (fun e=>absurd (hown _ e.symm).2 (Nat.lt_irrefl _));obtain ⟨fa4,fc4,rfl⟩:=own_slice ho4;obtain ⟨w5,hup,hm5,hg5⟩:=hM4.put mapt_int k0 (by omega) ((cn:Int)+1) (cn+1) (by omega) (by omega) (by omega);have hlk2:=hM4.look1 mapt_int k0 (by omega);rw [HCN.out] at hlk2;have HM5:=Lib.hid hm5;have HO5:=Lib.hid (HO4.out.keepG hg5 (by omega));have hbw5:Below w.heap.size w w5:=hbw4.grown hg5 hbw4.size (fun k hk=>by cases hk;have:=HMB.out;omega);have hm5w:=hm5.lt;have hlen5:(acc.length+1)=(acc++[(7,a0)]).length:=by simp
     have HO6:=Lib.hid (show FaultsR (mb+1) w5 (.slice fa4 (acc.length+1) fc4) (acc++[(7,a0)]) from HO5.out);clear ho4 hg4 hown hm5 hg5 hM4 hlk hC3 hcB3 hlen5;go_wp2
     go_roundw
     case rel=>exact ⟨i+1,us++[strv k0,.int .i64 (a0:Nat),.slice ma m0.len mc],vt2,r0,acc++[(7,a0)],k0::seen,nm+1,_,by simp,by omega,HNR3.out,HMR3.out,HWR3.out,by have:=HUS2.out;simp;omega,by rw [HVS2.out,List.append_assoc];rfl,by have:=HLN3.out;omega,hbw5,hm5w,HO6.out,HM5.out,by omega,HS1.out,by simp [HSL.out],by have:=HAL.out;simp;omega,HRN.out⟩
     case measure=>simp only [intOf];omega
    ·have hpos:¬0<cn:=fun h=>hin (HCK.out.1 h)
     have j1:decide ((0:Int)<(cn:Int))=false:=by simp;omega
     have j2:decide (0<cn)=false:=by simp;omega
     have HRN:=Lib.hid (show bGo cl (k0::seen) acc r0=R by rw [←HR1.out,bGo,if_neg hin]);clear hin hpos;obtain ⟨w5,hup,hm5,hg5⟩:=hMA.put mapt_int k0 (by omega) ((cn:Int)+1) (cn+1) (by omega) (by omega) (by omega);have HM5:=Lib.hid hm5;have HO5:=Lib.hid ((HOW.out.keepB hbA).keepG hg5 (by omega));have hbw5:Below w.heap.size w w5:=hwA.grown hg5 hwA.size (fun k hk=>by cases hk;have:=HMB.out;omega);have hm5w:=hm5.lt;clear hm5 hg5 hMA;go_wp2
     go_roundw
     case rel=>exact ⟨i+1,us++[strv k0,.int .i64 (a0:Nat),.slice ma m0.len mc],vt2,r0,acc,k0::seen,nm+1,_,by simp,by omega,HNR3.out,HMR3.out,HWR3.out,by have:=HUS2.out;simp;omega,by rw [HVS2.out,List.append_assoc];rfl,by have:=HLN3.out;omega,hbw5,hm5w,HO5.out,HM5.out,by omega,HS1.out,by simp [HSL.out],by have:=HAL.out;omega,HRN.out⟩
     case measure=>simp only [intOf];omega
  ·have k4:decide ((i:Int)<(bs.len:Int))=false:=by simp;omega
   have hr0:r = .nil:=by
    have:=HMR2.out
    cases r<;>simp [Fo.len] at hln<;>first | rfl | omega
   have hlk:(Instr.lookup 185 (.map (some mb)) (.string ⟨#[111,116,104,101,114]⟩) false).run Tryz.prog wr = .ok (.int .i64 (((fm othW).getD 0:Nat):Int)) wr:=HMP.out.look1 mapt_int othW (by decide);have hso:=HSN.out othW;obtain ⟨cn,hcn⟩:∃ cn,(fm othW).getD 0=cn:=⟨_,rfl⟩;rw [hcn] at hlk hso;have c5:=keep_cell hkw HC5.out hb1 hb2;have hfin:bGo cl seen acc r=if othW∈seen then acc else acc++[(6,cl)]:=by rw [hr0];rfl
   have HFN:=Lib.hid (hfin.symm.trans HR1.out);have HOB:=Lib.hid (ownsRow_base HOW.out HMB.out);by_cases hin:othW∈seen
   ·have hpos:=hso.1.2 hin;have j1:((cn:Int)==0)=false:=by simp;omega
    have HRX:=Lib.hid (show R=acc by rw [←HFN.out,if_pos hin]);clear hso hcn hfin hin;go_wp2
    go_ret
    rw [HRX.out];exact ⟨⟨_,rfl,HOB.out⟩,hbw1⟩
   ·have hpos:¬0<cn:=fun h=>hin (hso.1.1 h)
    have j1:((cn:Int)==0)=true:=by simp;omega
    have HRX:=Lib.hid (show R=acc++[(6,cl)] by rw [←HFN.out,if_neg hin]);clear hso hcn hfin hin;go_wp2_with (at_builtin;refine list_gen ?_)
    intro W3 hW3;have hbA2:Below wr.heap.size wr W3:=by rw [hW3];exact (Below.refl _ _).alloc (Nat.le_refl _) _
    have hC3:=fun i=>cell_made wr #[.int .i64 6,.int .i64 (cl:Nat)] 105 (0,0) i
    rw [←hW3] at hC3;have HO3:=Lib.hid (HOW.out.keepB hbA2);have hsz3:=hbA2.size;have hbw3:=hbw1.trans (hbA2.mono (by have:=hbw1.size;omega));clear hW3;refine app_own elem_fault rfl _ _ rfl (mb+1) _ acc.length (faultC acc) rfl HO3.out ⟨wr.heap.size,0,none⟩ 1 1 [.int .i64 6,.int .i64 (cl:Nat)] rfl rfl ?u4 ?u5 (by have:=HAL.out;omega) (by omega) ?u6
    case u4=>exact cells_two (hC3 0) (hC3 1)
    case u5 =>
     intro u hu;simp at hu;rcases hu with rfl | rfl<;>rfl
    intro v4 w4 ho4 hg4;have HO4:=Lib.hid (ownsRow_base (show FaultsR (mb+1) w4 v4 (acc++[(6,cl)]) by unfold FaultsR;rw [faultC_app,List.length_append];exact ho4) HMB.out);have hown:∀ k,(Value.slice fa acc.length fc).ownBlock=some k->mb+1<=k:=fun k hk=>(HOW.out.lt k hk).1
    have hbw4:Below w.heap.size w w4:=hbw3.grown hg4 hbw3.size (fun k hk=>by have:=hown k hk;have:=HMB.out;omega);clear ho4 hg4 hown;go_wp2
    go_ret
    rw [HRX.out];exact ⟨⟨_,rfl,HO4.out⟩,hbw4⟩
theorem bGo_end {cl:Nat} (seen:List Wd) (acc:List (Nat×Nat)) (n:Nat):(if othW∈seen then acc else acc++[(6,cl)]).length<=acc.length+n+1:=by
 split
 ·omega
 ·rw [List.length_append];show acc.length+1<=_;omega
theorem bGo_len (cl:Nat):∀ (f:Fo) (seen:List Wd) (acc:List (Nat×Nat)),(bGo cl seen acc f).length<=acc.length+f.len+1
 | .leg k a m r,seen,acc=>by
  rw [bGo];refine Nat.le_trans (bGo_len cl r _ _) ?_;split<;>simp [Fo.len]<;>omega
 | .nil,seen,acc=>bGo_end seen acc _
 | .text _ _,seen,acc=>bGo_end seen acc _
 | .hash _,seen,acc=>bGo_end seen acc _
 | .put _ _ _,seen,acc=>bGo_end seen acc _
 | .num _ _ _,seen,acc=>bGo_end seen acc _
 | .br _ _ _ _ _ _ _,seen,acc=>bGo_end seen acc _
def kindF:Fo->Nat
 | .num _ _ _=>1
 | .br _ _ f _ _ _ _=>if f=0 then 2 else 1
 | _=>0
theorem of_any {lo hi:Nat} {w0:World} (x:Fo) (u:Value) (n:Wd) (a:Nat) (w:World) (hk:KeepR lo hi w0 w) (hnd:NodesV lo hi w0 [u] x) (hh:headF x=some (n,a)) :
  Calls Tryz.prog 115 #[u] w fun e w'=>e = .returned (.int .i64 ((kindF x:Nat):Int))/\w'=w:=by
 cases x with
 | nil=>cases hh
 | text t r=>cases hh
 | hash r=>cases hh
 | leg k0 a0 m0 r0=>cases hh
 | put n0 a0 r =>
  obtain ⟨vt,b0,he,hb1,hb2,hc0,hc1,hnr⟩:=hnd
  cases he;have e1:=as_put_num b0;have e2:=as_put_br b0;go_enter Tryz.func115,Tryz.ntmps115
  go_wp2
  go_ret
  exact ⟨rfl,rfl⟩
 | num n0 a0 r =>
  obtain ⟨vt,b0,he,hb1,hb2,hc0,hc1,hnr⟩:=hnd
  cases he;have e1:=as_num_num b0;go_enter Tryz.func115,Tryz.ntmps115
  go_wp2
  go_ret
  exact ⟨rfl,rfl⟩
 | br n0 a0 fo of cl bs r =>
  obtain ⟨vt,b0,ba,bc,ws,he,hb1,hb2,hc0,hc1,hc2,hc3,hc4,hc5,hrw,hbs,hnr⟩:=hnd
  cases he;have e1:=as_br_num b0;have e2:=as_br_br b0;have c2:=keep_cell hk hc2 hb1 hb2;by_cases hf:fo=0
  ·have HF:=Lib.hid hf;have j1:((fo:Int)==0)=true:=by simp [hf]
   clear hf;go_enter Tryz.func115,Tryz.ntmps115
   go_wp2
   go_ret
   have hkf:kindF (.br n0 a0 fo of cl bs r)=2:=if_pos HF.out;rw [hkf];exact ⟨rfl,rfl⟩
  ·have HF:=Lib.hid hf;have j1:((fo:Int)==0)=false:=by simp;omega
   clear hf;go_enter Tryz.func115,Tryz.ntmps115
   go_wp2
   go_ret
   have hkf:kindF (.br n0 a0 fo of cl bs r)=1:=if_neg HF.out;rw [hkf];exact ⟨rfl,rfl⟩
abbrev KSt:=(Wd->Option Nat)×List (Nat×Nat)
def kindS (s:KSt) (n:Wd) (a k:Nat):KSt :=
 if k≠0/\(s.1 n).isSome=true/\(s.1 n).getD 0≠k then (s.1,s.2++[(5,a)]) else if k≠0 then (fun y=>if n=y then some k else s.1 y,s.2) else s
def chkF (s:KSt):Fo->Out KSt
 | .br n a f o cl bs r => .go true ((kindS s n a (kindF (.br n a f o cl bs r))).1,(kindS s n a (kindF (.br n a f o cl bs r))).2++bGo cl [] [] bs)
 | .num n a _ => .go true (kindS s n a 1)
 | .put n a _ => .go true (kindS s n a 0)
 | _ => .go true s
theorem mapt_kind:MapT 254 255:=⟨Tryz.underlying254,Tryz.underlying255,fun w=>by simp [go_sem]⟩
structure ChkI (lo hi:Nat) (w0:World) (B:Nat) (w:World) (s:KSt) (room:Nat) (W:World):Prop where
 keep:KeepR lo hi w0 W
 hiB:hi<=B
 map:∃ nm,MapG 255 W (B+1) nm s.1/\nm+room<=1000000000
 row:∃ v,W.cell? ⟨B,0,none⟩=some v/\FaultsR (B+3) W v s.2
 kc:W.cell? ⟨B+2,0,none⟩=some (.map (some (B+1)))
 fz:W.frozen? ⟨B,0,none⟩=false
 few:s.2.length+room<=1000000000
 bel:Below B w W
theorem ChkI.below {lo hi:Nat} {w0:World} {B:Nat} {w:World} {s:KSt} {room:Nat} {W W':World} (h:ChkI lo hi w0 B w s room W) (hb:Below W.heap.size W W'):ChkI lo hi w0 B w s room W':=by
 obtain ⟨h1,h2,⟨nm,h3,h3'⟩,⟨v,h4,h5⟩,h6,h7,h8,h9⟩:=h;have l1:B<W.heap.size:=World.block_lt_of_cell? W _ h4;have l2:B+2<W.heap.size:=World.block_lt_of_cell? W _ h6;exact ⟨h1.below hb,h2,⟨nm,h3.below hb,h3'⟩,⟨v,(hb.cell (p:=⟨B,0,none⟩) l1).trans h4,h5.keepB hb⟩,(hb.cell (p:=⟨B+2,0,none⟩) l2).trans h6,(hb.frozen (p:=⟨B,0,none⟩) l1).trans h7,h8,h9.trans (hb.mono (by omega))⟩
theorem ChkI.less {lo hi:Nat} {w0:World} {B:Nat} {w:World} {s:KSt} {room room':Nat} {W:World} (h:ChkI lo hi w0 B w s room W) (hr:room'<=room):ChkI lo hi w0 B w s room' W:=by
 obtain ⟨h1,h2,⟨nm,h3,h3'⟩,h4,h6,h7,h8,h9⟩:=h;exact ⟨h1,h2,⟨nm,h3,by omega⟩,h4,h6,h7,by omega,h9⟩
theorem op_faults {w:World} {o:Oper} {a:Act} {K:Act->World->Prop} {Q:Exit->Act->World->Prop}
  (s x:Operand) (ho:o.op = .call { callee := .builtin .append,args:=#[s,x],argTypes:=#[253,253] })
  (base base2:Nat) (v u:Value) (acc l:List (Nat×Nat)) (hs:a.eval s=v) (hF:FaultsR base w v acc) (hx:a.eval x=u) (hU:FaultsR base2 w u l) (h31:acc.length+l.length<=2147483648) (hbase:base<=w.heap.size)
  (h:∀ v' w',FaultsR base w' v' (acc++l)->w.grownBy w' v.ownBlock->K (a.put o.dst v') w'):Oper.wp Tryz.prog o a w K Q:=by
 obtain ⟨i,hi,hz,h2,h3⟩:=elem_fault.info;have hU0:=hU;rcases hU.2 with ⟨hu,hn⟩ | ⟨g,cap,cur,hu,hg,hh,hnc,hcm,hcs,ht⟩
 ·have hl:l=[]:=List.eq_nil_of_length_eq_zero hn;subst hl;have hr:=run_append_owned_none (P:=Tryz.prog) (w:=w) base 253 o.type 105 i 2 elem_fault.under hi v acc.length (faultC acc) hF;unfold Oper.wp execOp;simp only [ho,resolve,invoke,builtin,Sem.run_bind,Sem.run_pure,Result.andThen_ok,List.map_toArray,List.map_cons,List.map_nil,hs,hx,hu,hr];exact h v w (by simpa using hF) (grown_refl w _)
 ·obtain ⟨v',w',hr,k1,k2,_⟩:=run_append_own (P:=Tryz.prog) w base 253 o.type 105 i _ 2 16 elem_fault.under hi hz h2 h3 elem_fault.zsize elem_fault.pos v acc.length (faultC acc) hF ⟨g,0,none⟩ l.length cap (faultC l) (faultC_len l)
   (fun j x hx=>by
    have hj:j<(faultC l).length:=(List.getElem?_eq_some_iff.1 hx).1;rw [addr_add0,←hx];rw [faultC_len] at hj;obtain ⟨g',cap',hv',_,_,hcell⟩:=own_some hU0 (by omega);rw [hu] at hv'
    cases hv';exact hcell j hj)
   (fun x hx=>by
    simp only [faultC,List.mem_flatMap] at hx;obtain ⟨y,_,hy⟩:=hx;simp at hy;rcases hy with rfl | rfl<;>rfl) (by unfold maxLen;omega) (by omega) hbase
  unfold Oper.wp execOp;simp only [ho,resolve,invoke,builtin,Sem.run_bind,Sem.run_pure,Result.andThen_ok,List.map_toArray,List.map_cons,List.map_nil,hs,hx,hu,hr];exact h v' w' (by unfold FaultsR;rw [faultC_app,List.length_append];exact k1) k2
end Go.Proofs.YthpldolmpinnhaaGreatDoor
