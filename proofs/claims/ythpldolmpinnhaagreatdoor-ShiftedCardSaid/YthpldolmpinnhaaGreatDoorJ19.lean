import Derived.Test.YthpldolmpinnhaaGreatDoorJ18
import Derived.Shelf.RegionOpenPlain
import Derived.Lib.Builder
import Derived.Lib.AppendStr
import Derived.Lib.UnsafeStr
import Derived.Deep.QuietTactic
import Derived.BigQuiet
import Derived.StillTailTactics
import Derived.IntWalk
namespace Go.Proofs.YthpldolmpinnhaaGreatDoor
open Go Go.RowKit
set_option maxRecDepth 10000
theorem outb_info:(Tryz.prog.info? 155).map (fun j=>j.size)=some 2:=by kernel_rfl
theorem outbyte_info:∃ i:TypeInfo,Tryz.prog.info? 5=some i/\i.zero=some (.int .u8 0)/\i.size=1/\i.bytes=1:=info_parts (by kernel_rfl)
theorem outbyte_cells:Tryz.prog.cellsOf 5=1:=by kernel_rfl
theorem run_str_at {P:Program} (w:World) (t u ty e:TypeId) (i:TypeInfo) (ht:P.underlying t=some (.slice e)) (hu:P.underlying u=some .string) (hi:P.info? e=some i) (hz:i.zero=some (.int .u8 0))
  (hsize:i.size=1) (hby:i.bytes=1) (v:Value) (n:Nat) (xs:List Value) (hown:w.ownsRow 0 e 1 v n xs) (s:ByteArray) (h63:n+s.size<=maxLen) (hbytes:n+s.size<=140737488355328) :
  ∃ v' w',(Builtin.append_ #[t,u] ty #[v,.string s]).run P w = .ok v' w'/\w'.ownsRow 0 e 1 v' (n+s.size) (xs++Lib.strCells s)/\Fr (rowF v) (rowF v') w w'/\(v' = .slice none 0 0 ↔ v = .slice none 0 0/\s.size=0):=by
 obtain ⟨v',w',hr,h2,h3,h4⟩:=Lib.run_append_own_string (P:=P) w 0 t u ty e i ht hu hi hz hsize hby v n xs hown s h63 hbytes (Nat.zero_le _);refine ⟨v',w',hr,h2,⟨h3.os,h3.tape,h3.output,h3.size,fun k hk hn=>h3.block k hk (fun q=>hn q.symm),?_⟩,h4⟩;intro k hk;rcases hown.2 with ⟨rfl,rfl⟩ | ⟨g,cap,cur,rfl,hbg,hg,hnc,hcm,hcs,htake⟩
 ·have hx:xs=[]:=List.eq_nil_of_length_eq_zero (by simpa using hown.1);subst hx;obtain ⟨v2,w2,hr2,h5,-,-⟩:=Lib.run_append_own_string (P:=P) w w.heap.size t u ty e i ht hu hi hz hsize hby (.slice none 0 0) 0 [] (World.ownsRow_nil _ _ _ _) s h63 hbytes (Nat.le_refl _);rw [hr] at hr2
  cases hr2;exact .inr (h5.lt k hk).1
 ·have hxl:xs.length=n:=by simpa using hown.1
  have hcs':cur.size=cap:=by simpa using hcs
  by_cases hroom:n+s.size<=cap
  ·have hr2:=Lib.run_append_room_string (P:=P) w t u ty e i ht hu hi hsize g n cap cur hg s hroom (by omega);rw [hr] at hr2
   cases hr2;exact .inl hk
  ·have holds:∀ j u,xs[j]? = some u->w.cell? ((⟨g,0,none⟩:Addr).add j)=some u:=hown.cells (g:=g) rfl;have hr2:=Lib.run_append_grow_string (P:=P) w t u ty e i (.int .u8 0) ht hu hi hz ⟨g,0,none⟩ n cap xs (by rw [hsize];simpa using hxl) holds s (by omega) (by unfold maxLen at h63;omega) (by rw [hby];exact growslice_fits (by omega) (by omega));rw [hr] at hr2
   cases hr2
   cases hk;exact .inr (Nat.le_refl _)
theorem wpList_str_at {P:Program} {w:World} {ops:Array Oper} {rest:List Oper} {o:Oper} {a:Act} {Q:Exit->Act->World->Prop} (hgd:o.guard=none) (sl x:Operand) (t u:TypeId)
  (ho:o.op = .call { callee := .builtin .append,args:=#[sl,x],argTypes:=#[t,u] })
  (e:TypeId) (i:TypeInfo) (ht:P.underlying t=some (.slice e)) (hu:P.underlying u=some .string) (hi:P.info? e=some i) (hz:i.zero=some (.int .u8 0))
  (hsize:i.size=1) (hby:i.bytes=1)
  (v:Value) (n:Nat) (xs:List Value) (hs:a.eval sl=v) (hown:w.ownsRow 0 e 1 v n xs) (s:ByteArray) (hx:a.eval x = .string s)
  (h63:n+s.size<=maxLen) (hbytes:n+s.size<=140737488355328)
  (h:∀ v' w',w'.ownsRow 0 e 1 v' (n+s.size) (xs++Lib.strCells s)->Fr (rowF v) (rowF v') w w'->(v' = .slice none 0 0 ↔ v = .slice none 0 0/\s.size=0)->wpList P ops Q rest (a.put o.dst v') w'):wpList P ops Q (o::rest) a w:=by
 refine wpList_plain hgd fun K hK=>?_
 obtain ⟨v',w',hr,h2,h3,h4⟩:=run_str_at (P:=P) w t u o.type e i ht hu hi hz hsize hby v n xs hown s h63 hbytes;unfold Oper.wp execOp;simp only [ho,resolve,invoke,builtin,Sem.run_bind,Sem.run_pure,Result.andThen_ok,List.map_toArray,List.map_cons,List.map_nil,hs,hx,hr];exact hK _ _ (h v' w' h2 h3 h4)
def OutAt (b:Nat) (x0 x1 x2 st v:Value) (l:Wd) (w:World):Prop :=
 ∃ p,(p = .pointer none\/p = .pointer (some ⟨b,3,none⟩))/\w.heap[b]? = some (.cells #[x0,x1,x2,p,v,st] 199 (0,0))/\w.ownsRow 0 5 1 v l.length (Lib.byteCells l)/\v.ownBlock≠some b/\(l=[]->v = .slice none 0 0)
abbrev outF (b:Nat) (v:Value) (k:Nat):Prop:=k=b\/rowF v k
section
variable {b:Nat} {x0 x1 x2 st v:Value} {l:Wd} {w w':World}
theorem OutAt.lt (h:OutAt b x0 x1 x2 st v l w):b<w.heap.size:=by
 obtain ⟨p,_,hb,_⟩:=h;exact (Array.getElem?_eq_some_iff.1 hb).1
theorem OutAt.cell (h:OutAt b x0 x1 x2 st v l w):w.cell? ⟨b,0,none⟩=some x0/\w.cell? ⟨b,1,none⟩=some x1/\w.cell? ⟨b,2,none⟩=some x2/\w.cell? ⟨b,5,none⟩=some st/\∀ j,w.frozen? ⟨b,j,none⟩=false:=by
 obtain ⟨p,_,hb,_⟩:=h;exact ⟨by rw [Lib.cell_of_heap hb];rfl,by rw [Lib.cell_of_heap hb];rfl,by rw [Lib.cell_of_heap hb];rfl,by rw [Lib.cell_of_heap hb];rfl,fun j=>Lib.frozen_of_heap hb j⟩
theorem OutAt.row (h:OutAt b x0 x1 x2 st v l w):w.ownsRow 0 5 1 v l.length (Lib.byteCells l):=by
 obtain ⟨p,_,_,ho,_⟩:=h;exact ho
theorem OutAt.fr {F F':Nat->Prop} (h:OutAt b x0 x1 x2 st v l w) (hf:Fr F F' w w') (hb:¬F b) (hv:∀ g,rowF v g->¬F g):OutAt b x0 x1 x2 st v l w':=by
 have hlt:=h.lt;obtain ⟨p,h1,h2,h3,h4,h5⟩:=h;exact ⟨p,h1,(hf.keep b hlt hb).trans h2,hf.own h3 hv,h4,h5⟩
theorem out_new (w:World) (x0 x1 x2:Value):OutAt w.heap.size x0 x1 x2 (.slice none 0 0) (.slice none 0 0) [] (w.alloc (.cells #[x0,x1,x2,.pointer none,.slice none 0 0,.slice none 0 0] 199)) :=
 ⟨.pointer none,.inl rfl,heap_alloc_new w _,World.ownsRow_nil _ _ _ _,by simp [Value.ownBlock],fun _=>rfl⟩
def OutbQ (b:Nat) (x0 x1 x2 st v:Value) (l:Wd) (w:World):Prop :=
 w.heap[b]? = some (.cells #[x0,x1,x2,.pointer (some ⟨b,3,none⟩),v,st] 199 (0,0))/\w.ownsRow 0 5 1 v l.length (Lib.byteCells l)/\v.ownBlock≠some b/\(l=[]->v = .slice none 0 0)
set_option maxHeartbeats 2000000 in
theorem out_check (h:OutAt b x0 x1 x2 st v l w) :
  Calls Tryz.prog 104 #[.pointer (some ⟨b,3,none⟩)] w fun e w'=>e = .returned (.tuple #[])/\OutbQ b x0 x1 x2 st v l w'/\Fr (outF b v) (outF b v) w w':=by
 obtain ⟨j,hj,hjs⟩:=Option.map_eq_some_iff.1 outb_info;have hlt:=h.lt;obtain ⟨p,h1,h3,h4,h5,h6⟩:=h;have h0:w.cell? ⟨b,3,none⟩=some p:=by rw [Lib.cell_of_heap h3];rfl
 have hfz:w.frozen? ⟨b,3,none⟩=false:=Lib.frozen_of_heap h3 3;have hsh:w.shape? b=some (199,6):=by simp [World.shape?,h3]
 have hset:(w.setCell ⟨b,3,none⟩ (.pointer (some ⟨b,3,none⟩))).heap[b]? = some (.cells #[x0,x1,x2,.pointer (some ⟨b,3,none⟩),v,st] 199 (0,0)):=by
  simp [World.setCell,Array.getElem?_modify,h3]
 have hf1:Fr (fun k=>k=b) (fun k=>k=b) w (w.setCell ⟨b,3,none⟩ (.pointer (some ⟨b,3,none⟩))):=(Fr.refl _ _).set _ (.inl rfl);have hown:(w.setCell ⟨b,3,none⟩ (.pointer (some ⟨b,3,none⟩))).ownsRow 0 5 1 v l.length (Lib.byteCells l):=hf1.own h4 (fun g hg e=>h5 (e▸hg));have hwf:Fr (outF b v) (outF b v) w (w.setCell ⟨b,3,none⟩ (.pointer (some ⟨b,3,none⟩))):=hf1.wide (fun k hk => .inl hk);have HS:=Lib.hid (⟨hset,hown,h5,h6⟩:OutbQ b x0 x1 x2 st v l (w.setCell ⟨b,3,none⟩ (.pointer (some ⟨b,3,none⟩))));have HW:=Lib.hid hwf;rcases h1 with rfl | rfl
 ·clear h3 h4 h5 h6 hset hown hwf hf1;go_enter Tryz.func104,Tryz.ntmps104
  go_wp2
  rw [Lib.run_to_unsafe w ⟨b,3,none⟩ Tryz.underlying153 Tryz.underlying159 hj (by rw [hjs];decide) hsh (show 3<6 by decide)];simp only [Result.andThen];rw [Oper.upon_value];go_wp2
  rw [run_callFunc_extern Tryz.func153 (by kernel_rfl) (by kernel_rfl) (by kernel_rfl) (e:=Extern.AbiNoEscape.same) (by kernel_rfl)];rw [Lib.run_noEscape];simp only [Result.andThen];rw [Oper.upon_value];go_wp2
  rw [Lib.run_from_unsafe w ⟨b,3,none⟩ Tryz.underlying159 Tryz.underlying153 hj hsh (by kernel_rfl)];simp only [Result.andThen];rw [Oper.upon_value];go_wp2
  go_end0
  exact ⟨rfl,HS.out,HW.out⟩
 ·have HQ:=Lib.hid (⟨h3,h4,h5,h6⟩:OutbQ b x0 x1 x2 st v l w);clear h3 h4 h5 h6 hset hown hwf hf1 HS HW;go_enter Tryz.func104,Tryz.ntmps104
  go_wp2
  rw [Lib.run_neq_ptr_same w _ Tryz.underlying153 hj];go_wp2
  go_end0
  exact ⟨rfl,HQ.out,Fr.refl _ _⟩
theorem outstr_cells (t:Wd):Lib.strCells ⟨t.toArray⟩=Lib.byteCells t:=rfl
theorem outbyte_app (a b:Wd):Lib.byteCells a++Lib.byteCells b=Lib.byteCells (a++b):=by simp [Lib.byteCells]
def WriteQ (b:Nat) (x0 x1 x2 st v:Value) (l:Wd) (w w':World):Prop:=∃ v',OutAt b x0 x1 x2 st v' l w'/\Fr (outF b v) (outF b v') w w'
set_option maxHeartbeats 4000000 in
theorem out_write (t:Wd) (h:OutAt b x0 x1 x2 st v l w) (hlen:l.length+t.length<=1000000000) :
  Calls Tryz.prog 126 #[.pointer (some ⟨b,3,none⟩),strv t] w fun e w'=>(∃ v,e = .returned v)/\WriteQ b x0 x1 x2 st v (l++t) w w':=by
 obtain ⟨i0,hi,hz0,hz1,hz2⟩:=outbyte_info;have HCK:=Lib.hid (out_check h);have hts:(⟨t.toArray⟩:ByteArray).size=t.length:=size_mk _;clear h;go_enter Tryz.func126,Tryz.ntmps126
 go_wp2_with fail
 refine HCK.out.mono ?_;rintro e w1 ⟨rfl,⟨hbk,hown,hne,hnil⟩,hwf⟩;have c0:w1.cell? ⟨b,3,none⟩=some (.pointer (some ⟨b,3,none⟩)):=by rw [Lib.cell_of_heap hbk];rfl
 have c1:w1.cell? ⟨b,4,none⟩=some v:=by rw [Lib.cell_of_heap hbk];rfl
 have hlt:b<w1.heap.size:=(Array.getElem?_eq_some_iff.1 hbk).1;have HWF:=Lib.hid hwf;have HOWN:=Lib.hid hown;have HNE:=Lib.hid hne;have HNIL:=Lib.hid hnil;have HBK:=Lib.hid hbk;have HV:=Lib.hid (own_slice hown);clear hwf hown hne hnil hbk;go_wp2_with (at_builtin;refine wpList_str_at rfl _ _ 48 9 rfl 5 i0 Tryz.underlying48 Tryz.underlying9 hi hz0 hz1 hz2 v l.length (Lib.byteCells l) rfl HOWN.out ⟨t.toArray⟩ rfl (by rw [hts];unfold maxLen;omega) (by rw [hts];omega) ?_)
 intro v' w2 hown' hfr hz;have nb:¬rowF v b:=fun e=>HNE.out e
 have hb2:w2.heap[b]? = some (.cells #[x0,x1,x2,.pointer (some ⟨b,3,none⟩),v,st] 199 (0,0)):=(hfr.keep b hlt nb).trans HBK.out;have d1:w2.cell? ⟨b,4,none⟩=some v:=by rw [Lib.cell_of_heap hb2];rfl
 have f1:w2.frozen? ⟨b,4,none⟩=false:=Lib.frozen_of_heap hb2 4;rw [outstr_cells,outbyte_app] at hown';have hown':w2.ownsRow 0 5 1 v' (l.length+t.length) (Lib.byteCells (l++t)):=hown';have hne':v'.ownBlock≠some b:=fun e=>(hfr.fp b e).elim nb (fun q=>by omega)
 have hput:(w2.setCell ⟨b,4,none⟩ v').heap[b]? = some (.cells #[x0,x1,x2,.pointer (some ⟨b,3,none⟩),v',st] 199 (0,0)):=by
  simp [World.setCell,Array.getElem?_modify,hb2]
 have hf2:Fr (fun k=>k=b) (fun k=>k=b) w2 (w2.setCell ⟨b,4,none⟩ v'):=(Fr.refl _ _).set _ (.inl rfl);have hown2:(w2.setCell ⟨b,4,none⟩ v').ownsRow 0 5 1 v' (l++t).length (Lib.byteCells (l++t)):=by
  rw [List.length_append];exact hf2.own hown' (fun g hg e=>hne' (e▸hg))
 have hnil2:l++t=[]->v' = .slice none 0 0:=fun e=>by
  obtain ⟨e1,e2⟩:=List.append_eq_nil_iff.1 e;exact hz.2 ⟨HNIL.out e1,by subst e2;rfl⟩
 have hfb:Fr (outF b v) (outF b v') w1 (w2.setCell ⟨b,4,none⟩ v'):=by
  have h1:Fr (outF b v) (outF b v) w1 w2:=hfr.wide (fun k hk => .inr hk);have h2:Fr (outF b v) (outF b v) w2 (w2.setCell ⟨b,4,none⟩ v'):=hf2.wide (fun k hk => .inl hk);exact (h1.trans h2).tg (fun k hk=>hk.elim (fun e => .inl (.inl e)) (fun e=>(hfr.fp k e).elim (fun q => .inl (.inr q)) .inr))
 have HW:=Lib.hid (⟨v',⟨_,.inr rfl,hput,hown2,hne',hnil2⟩,HWF.out.trans hfb⟩:WriteQ b x0 x1 x2 st v (l++t) w (w2.setCell ⟨b,4,none⟩ v'));obtain ⟨ao,cap,rfl⟩:=own_slice hown';clear hown' hfr hz hb2 hput hown2 hnil2 hne' hfb hf2;go_wp2
 go_ret2
 exact ⟨⟨_,rfl⟩,HW.out⟩
theorem fr_freeze (w:World) (g n:Nat):Fr (fun k=>k=g) (fun k=>k=g) w (w.freeze ⟨g,0,none⟩ n):=by
 unfold World.freeze;split
 ·exact Fr.refl _ _
 ·exact ⟨rfl,rfl,rfl,by simp,fun k hk hn=>by simp only [Array.getElem?_modify];rw [if_neg (fun e=>hn e.symm)],fun _ q => .inl q⟩
set_option maxHeartbeats 4000000 in
theorem out_get {B:Nat} (hB:∀ g,rowF v g->B<=g) (h:OutAt b x0 x1 x2 st v l w) (hl:l.length<=1000000000) :
  Calls Tryz.prog 73 #[.pointer (some ⟨b,3,none⟩)] w fun e w'=>e = .returned (strv l)/\Below B w w'/\Fr (rowF v) (rowF v) w w':=by
 obtain ⟨p,h1,hbk,hown,hne,hnil⟩:=h;by_cases h0:l=[]
 ·have hv:=hnil h0;subst hv h0;have c1:w.drew.cell? ⟨b,4,none⟩=some (.slice none 0 0):=by
   have:w.drew.heap[b]? = some (.cells #[x0,x1,x2,p,.slice none 0 0,st] 199 (0,0)):=hbk;rw [Lib.cell_of_heap this];rfl
  have hUS:=fun W q=>Lib.run_unsafeString_none (P:=Tryz.prog) W 229 3 9 q
  have hSD:(Builtin.unsafeSliceData_ #[48] 229 #[.slice none 0 0]).run Tryz.prog w.drew = .ok (.pointer none) w.drew:=rfl;have mixed:Tryz.prog.follows Departure.mixedOrders=true:=by kernel_rfl
  clear hown hbk hne hnil h1 hB;go_enter Tryz.func73,Tryz.ntmps73
  go_wp2
  go_region_o
  all_goals (go_wp2;go_ret;exact ⟨rfl,Below.drew (Below.refl B w),(Fr.refl _ _).drew⟩)
 ·have hl0:l.length≠0:=by simpa using h0
  obtain ⟨g,cap,cur,rfl,hg,hnc,hcm,hcs,htake⟩:∃ g cap cur,v = .slice (some ⟨g,0,none⟩) l.length cap/\w.heap[g]? = some (.cells cur 5 (0,0))/\l.length<=cap/\cap<=maxLen/\cur.size=cap*1/\cur.toList.take (l.length*1)=Lib.byteCells l:=by
   rcases hown.2 with ⟨_,hz⟩ | ⟨g,cap,cur,hv,-,r⟩
   ·exact absurd hz hl0
   ·exact ⟨g,cap,cur,hv,r⟩
  have hbg:B<=g:=hB g rfl;have c1:w.drew.cell? ⟨b,4,none⟩=some (.slice (some ⟨g,0,none⟩) l.length cap):=by
   have:w.drew.heap[b]? = some (.cells #[x0,x1,x2,p,.slice (some ⟨g,0,none⟩) l.length cap,st] 199 (0,0)):=hbk;rw [Lib.cell_of_heap this];rfl
  have hSD:(Builtin.unsafeSliceData_ #[48] 229 #[.slice (some ⟨g,0,none⟩) l.length cap]).run Tryz.prog w.drew = .ok (.pointer (some ⟨g,0,none⟩)) w.drew :=
   Lib.run_unsafeSliceData_row _ _ _ _ _ _ (by omega)
  have hUS:(Builtin.unsafeString_ #[229,3] 9 #[.pointer (some ⟨g,0,none⟩),.int .i64 l.length]).run Tryz.prog w.drew = .ok (.string ⟨l.toArray⟩) (w.drew.freeze ⟨g,0,none⟩ l.length):=by
   refine Lib.run_unsafeString_row w.drew 229 3 9 5 Tryz.underlying229 outbyte_cells g cur.size (by have hg':w.drew.heap[g]? = some (.cells cur 5 (0,0)):=hg;simp [World.shape?,hg']) l h0 (by omega) (by omega) ?_;intro j x hx;exact hown.cells (g:=g) rfl j (.int .u8 x.toNat) (by simp [Lib.byteCells,hx])
  have mixed:Tryz.prog.follows Departure.mixedOrders=true:=by kernel_rfl
  clear hown hbk hne hnil h1 hg hcs htake hB;go_enter Tryz.func73,Tryz.ntmps73
  go_wp2
  go_region_o
  all_goals (go_wp2;go_ret;exact ⟨rfl,Lib.below_freeze (Below.drew (Below.refl B w)) (p:=⟨g,0,none⟩) hbg _,(fr_freeze w.drew g l.length).und.wide (fun k hk=>by rw [hk];rfl)⟩)
end
structure InsM (q k:Nat) (x:InL) (I n ic:Nat) (kv tv:Value) (w:World):Prop where
 q1:w.cell? ⟨q,1,none⟩=some (.slice (some ⟨I,0,none⟩) n ic)
 lt:k<n
 op:w.cell? ⟨I,k*5,none⟩=some (.int .i64 x.op)
 v:w.cell? ⟨I,k*5+2,none⟩=some (.int .i64 x.v)
 kc:w.cell? ⟨I,k*5+3,none⟩=some kv
 tc:w.cell? ⟨I,k*5+4,none⟩=some tv
 kr:NRow w kv x.k
 tr:NRow w tv x.tg
section
variable {q mb k:Nat} {s:MkS} {vC vI:Value} {rs:List (Value×Value)} {w:World}
theorem ProgAt.ins {x:InL} (h:ProgAt q s vC vI rs mb w) (hk:s.code[k]? = some x):∃ I ic kv tv,InsM q k x I s.code.length ic kv tv w:=by
 have hil:=(List.getElem?_eq_some_iff.1 hk).1;obtain ⟨⟨kv,tv⟩,hr⟩:∃ r,rs[k]? = some r:=⟨_,List.getElem?_eq_getElem (by have:=h.rows.len;omega)⟩;obtain ⟨h1,h2⟩:=h.rows.k k x _ hk hr;obtain ⟨I,ic,hvI,-,hI,hins⟩:=own_some h.cI (by omega);have c:∀ j,j<5->w.cell? ⟨I,k*5+j,none⟩=(insV x (kv,tv))[j]? := fun j hj=>by rw [hins _ (by omega),insR_at _ _ h.rows.len k j x _ hk hr hj]
 exact ⟨I,ic,kv,tv,by rw [h.q1,hvI],hil,c 0 (by omega),c 2 (by omega),c 3 (by omega),c 4 (by omega),h1,h2⟩
theorem ProgAt.con {j:Nat} {t:Wd} (h:ProgAt q s vC vI rs mb w) (hj:s.cs[j]? = some t):∃ C cc,w.cell? ⟨q,0,none⟩=some (.slice (some ⟨C,0,none⟩) s.cs.length cc)/\w.cell? ⟨C,j,none⟩=some (strv t)/\j<s.cs.length:=by
 have hl:=(List.getElem?_eq_some_iff.1 hj).1;obtain ⟨C,cc,hv,-,-,hc⟩:=own_some h.cC (by omega);exact ⟨C,cc,by rw [h.q0,hv],by rw [hc j (by omega),List.getElem?_map,hj];rfl,hl⟩
theorem NRow.at_ {v:Value} {l:List Nat} {j x:Nat} (h:NRow w v l) (hj:l[j]? = some x):∃ g c,v = .slice (some ⟨g,0,none⟩) l.length c/\w.cell? ⟨g,j,none⟩=some (.int .i64 x)/\j<l.length:=by
 have hl:=(List.getElem?_eq_some_iff.1 hj).1;obtain ⟨g,c,hv,-,-,hc⟩:=own_some h (by omega);exact ⟨g,c,hv,by rw [hc j (by omega)];simp [intC,hj],hl⟩
end
section
variable {b q mb k:Nat} {s:MkS} {vC vI x1 x2 st v:Value} {rs:List (Value×Value)} {l:Wd} {w:World} {x:InL}
set_option maxHeartbeats 2000000 in
theorem step_end (h:OutAt b (.pointer (some ⟨q,0,none⟩)) x1 x2 st v l w) (hp:ProgAt q s vC vI rs mb w) (hk:s.code[k]? = some x) (hop:x.op=0) (hn:s.code.length<=1000000) :
  Calls Tryz.prog 87 #[.pointer (some ⟨b,0,none⟩),.int .i64 (k:Nat)] w fun e w'=>e = .returned (.int .i64 (-1))/\w=w':=by
 obtain ⟨I,ic,kv,tv,q1,lt,i0,-⟩:=hp.ins hk;obtain ⟨n,hN⟩:∃ n,s.code.length=n:=⟨_,rfl⟩;rw [hN] at q1 lt hn;rw [hop] at i0;have b0:=h.cell.1;have k1:(k:Int)<(n:Int):=by omega
 clear h hp hk hop hN;go_enter Tryz.func87,Tryz.ntmps87
 go_wp2
 go_ret
 exact ⟨rfl,rfl⟩
set_option maxHeartbeats 4000000 in
theorem step_text {j:Nat} {t:Wd} (h:OutAt b (.pointer (some ⟨q,0,none⟩)) x1 x2 st v l w) (hp:ProgAt q s vC vI rs mb w) (hk:s.code[k]? = some x) (hop:x.op=1) (hj:x.k[0]? = some j) (ht:s.cs[j]? = some t) (hn:s.code.length<=1000000) (hc:s.cs.length<=1000000) (hlen:l.length+t.length<=1000000000) :
  Calls Tryz.prog 87 #[.pointer (some ⟨b,0,none⟩),.int .i64 (k:Nat)] w fun e w'=>e = .returned (.int .i64 ((k+1:Nat):Int))/\WriteQ b (.pointer (some ⟨q,0,none⟩)) x1 x2 st v (l++t) w w':=by
 obtain ⟨I,ic,kv,tv,q1,lt,i0,-,i3,-,kr,-⟩:=hp.ins hk;obtain ⟨C,cc,q0,cj,hjl⟩:=hp.con ht;obtain ⟨K,kc,rfl,kj,hkl⟩:=kr.at_ hj;have HW:=Lib.hid (out_write (w:=w.drew) t h hlen);obtain ⟨n,hN⟩:∃ n,s.code.length=n:=⟨_,rfl⟩;obtain ⟨m,hM⟩:∃ m,s.cs.length=m:=⟨_,rfl⟩;obtain ⟨z,hZ⟩:∃ z,x.k.length=z:=⟨_,rfl⟩;rw [hN] at q1 lt hn;rw [hM] at q0 hjl hc;rw [hZ] at i3 hkl;rw [hop] at i0;have b0:=h.cell.1;have k1:(k:Int)<(n:Int):=by omega
 have k2:(j:Int)<(m:Int):=by omega
 have k3:(0:Int)<(z:Int):=by omega
 have k5:(k:Int)<=1000000:=by omega
 clear h hp hk hop hN hM hZ kr hj ht;go_enter Tryz.func87,Tryz.ntmps87
 go_wp2_with fail
 refine rk (fun W':World=>W'.cell? ⟨b,0,none⟩=some (.pointer (some ⟨q,0,none⟩))/\W'.cell? ⟨q,0,none⟩=some (.slice (some ⟨C,0,none⟩) m cc)/\W'.cell? ⟨I,k*5+3,none⟩=some (.slice (some ⟨K,0,none⟩) z kc)/\W'.cell? ⟨K,0,none⟩=some (.int .i64 j)/\W'.cell? ⟨C,j,none⟩=some (strv t)) 18 (List.range 18) 1 ⟨b0,q0,i3,kj,cj⟩ ?_;(iterate 18 (refine ty ?_;try simp only [pl]))
 refine takes_nil ?_;refine wpAnyK_last 18 (by kernel_rfl) (by kernel_rfl) rfl (fun J hJ=>?_);go_simp
 refine HW.out.mono ?_;rintro e w2 ⟨⟨u,rfl⟩,hw2⟩;refine hJ.out _ _ ?_;clear hJ J;refine wpAnyK_done (by kernel_rfl) ?_ _;have HW2:=Lib.hid hw2;clear hw2 HW;go_wp2
 go_ret
 obtain ⟨v',h1,h2⟩:=HW2.out;exact ⟨by first | rfl | simp,v',h1,h2.und⟩
end
def kindL (c:UInt8):Nat:=if 97<=c.toNat/\c.toNat<=122 then 1 else if 48<=c.toNat/\c.toNat<=57 then 2 else if c.toNat=32 then 3 else 0
def figB (l:List UInt8):Bool:=numeralsL l && (decide (l.length<=9) && (decide (l.length=1) || decide (l.headD 0≠48)))
def valL (l:List UInt8):Nat:=l.foldl (fun v c=>10*v+(c.toNat - 48)) 0
theorem valL_snoc (l:List UInt8) (c:UInt8):valL (l++[c])=10*valL l+(c.toNat - 48):=by simp [valL]
def StrsAt (w:World) (v:Value) (ws:List (List UInt8)):Prop:=∃ a cap,v = .slice a ws.length cap/\ws.length<=cap/\cap<=maxLen/\(a=none->cap=0)/\∀ j (h:j<ws.length),∃ b,a=some b/\w.cell? (b.add j)=some (strv ws[j])
theorem StrsAt.below {w w':World} {v:Value} {ws:List (List UInt8)} (h:StrsAt w v ws) (hb:Below w.heap.size w w'):StrsAt w' v ws:=by
 obtain ⟨a,cap,hv,hl,hm,h0,hc⟩:=h;refine ⟨a,cap,hv,hl,hm,h0,fun j hj=>?_⟩;obtain ⟨b,hb1,hb2⟩:=hc j hj;refine ⟨b,hb1,?_⟩;rw [hb.cell (World.block_lt_of_cell? w _ hb2)];exact hb2
theorem own_put {w:World} {base n:Nat} {e:TypeId} {g cap:Nat} {xs:List Value} (h:w.ownsRow base e 1 (.slice (some ⟨g,0,none⟩) n cap) n xs) (j:Nat) (hj:j<n) (u:Value) :
  (w.setCell ⟨g,j,none⟩ u).ownsRow base e 1 (.slice (some ⟨g,0,none⟩) n cap) n (xs.set j u):=by
 have hx:xs.length=n:=by have:=h.1;simpa using this
 refine ⟨by simp [hx],?_⟩;rcases h.2 with ⟨hv,_⟩ | ⟨g2,cap2,cur,hv,hg,hh,h1,h2,h3,ht⟩
 ·cases hv
 ·simp only [Value.slice.injEq,Option.some.injEq,Addr.mk.injEq] at hv;obtain ⟨⟨rfl,-⟩,-,rfl⟩:=hv;refine .inr ⟨g,cap,cur.setIfInBounds j u,rfl,hg,?_,h1,h2,by simpa using h3,?_⟩
  ·simp [World.setCell,Array.getElem?_modify,hh]
  ·rw [Array.toList_setIfInBounds,←ht,List.take_set]
def joinL (out:List (List UInt8)) (c:UInt8):List (List UInt8):=out.set (out.length - 1) (out.getD (out.length - 1) []++[c])
def wordsGo:List UInt8->List (List UInt8)->Nat->Option (List (List UInt8))
 | [],out,_=>some out
 | c::t,out,last =>
  if kindL c=3 then wordsGo t out 3
  else if 0<kindL c/\kindL c=last then wordsGo t (joinL out c) (kindL c)
  else if 0<kindL c\/c=61\/c=44\/c=37 then wordsGo t (out++[[c]]) (kindL c)
  else match t with
   | []=>none
   | d::t2=>if (c=33/\d=61)\/(c=46/\d=46) then wordsGo t2 (out++[[c,d]]) 0 else none
theorem go_join {c:UInt8} {t out last} (h3:kindL c≠3) (h:0<kindL c/\kindL c=last):wordsGo (c::t) out last=wordsGo t (joinL out c) (kindL c):=by rw [wordsGo.eq_def];dsimp only;rw [if_neg h3,if_pos h]
end Go.Proofs.YthpldolmpinnhaaGreatDoor
