import Derived.Test.YthpldolmpinnhaaGreatDoorJG18
import Derived.Shelf.RegionOpenPlain
import Derived.Lib.Builder
import Derived.Lib.AppendStr
import Derived.Lib.UnsafeStr
import Derived.Deep.QuietTactic
import Derived.BigQuiet
import Derived.StillTailTactics
import Derived.IntWalk
set_option maxHeartbeats 64000000
open Go.Lib renaming byteCells→z7,cell_of_heap→z8,hid→zy,frozen_of_heap→zu,run_append_own_string→zV,strCells→zU
open Array renaming getElem?_modify→zx,getElem?_eq_some_iff→zZ
open List renaming getElem?_eq_some_iff→zv,eq_nil_of_length_eq_zero→zk
open Go.Result renaming andThen→zj
open Go.Oper renaming upon_value→zg
open Go.Builtin renaming unsafeSliceData_→zf
open Go.Departure renaming mixedOrders→zY
open Go.World renaming setCell→zX,ownsRow_nil→zQ
open Go.Extern.AbiNoEscape renaming same→zJ
open Go.Proofs.Tryz
namespace Go.Proofs.YthpldolmpinnhaaGreatDoor
open Go Go.RowKit
set_option maxRecDepth 10000
theorem Tu:(prog.info? 155).map (fun j=>j.size)=some 2:=by kernel_rfl
theorem Ez:∃ i:TypeInfo,prog.info? 5=some i/\i.zero=some (.int .u8 0)/\i.size=1/\i.bytes=1:=info_parts (by kernel_rfl)
theorem B5:prog.cellsOf 5=1:=by kernel_rfl
theorem Og{P:Program}(w:World)(t u ty e:TypeId)(i:TypeInfo)(ht:P.underlying t=some (.slice e))(hu:P.underlying u=some .string)(hi:P.info? e=some i)(hz:i.zero=some (.int .u8 0))
  (BR:i.size=1) (hby:i.bytes=1) (v:Value) (n:Nat) (xs:List Value) (xV:w.ownsRow 0 e 1 v n xs) (s:ByteArray) (nS:n+s.size<=maxLen) (XI:n+s.size<=140737488355328) :
  ∃ v' w',(Builtin.append_ #[t,u] ty #[v,.string s]).run P w = .ok v' w'/\w'.ownsRow 0 e 1 v' (n+s.size) (xs++zU s)/\Fr (xY v) (xY v') w w'/\(v' = .slice none 0 0 ↔ v = .slice none 0 0/\s.size=0):=by
 obtain⟨v',w',hr,h2,h3,h4⟩:=zV (P:=P) w 0 t u ty e i ht hu hi hz BR hby v n xs xV s nS XI (Nat.zero_le _);refine⟨v',w',hr,h2,⟨h3.os,h3.tape,h3.output,h3.size,fun k hk hn=>h3.block k hk (fun q=>hn q.symm),?_⟩,h4⟩;intro k hk;rcases xV.2 with⟨rfl,rfl⟩|⟨g,cap,cur,rfl,Dl,hg,hnc,jS,dT,X7⟩
 .have hx:xs=[]:=zk (by simpa using xV.1);subst hx;obtain⟨v2,w2,ZF,h5,-,-⟩:=zV (P:=P) w w.heap.size t u ty e i ht hu hi hz BR hby (.slice none 0 0) 0 [] (zQ _ _ _ _) s nS XI (Nat.le_refl _);rw[hr] at ZF
  cases ZF;exact .inr (h5.lt k hk).1
 .have oU:xs.length=n:=by simpa using xV.1
  have yb1:cur.size=cap:=by simpa using dT
  by_cases Ga:n+s.size<=cap
  .have ZF:=Lib.run_append_room_string (P:=P) w t u ty e i ht hu hi BR g n cap cur hg s Ga (by omega);rw[hr] at ZF
   cases ZF;exact .inl hk
  .have holds:∀ j u,xs[j]? = some u->w.cell? ((⟨g,0,none⟩:Addr).add j)=some u:=xV.cells (g:=g) rfl;have ZF:=Lib.run_append_grow_string (P:=P) w t u ty e i (.int .u8 0) ht hu hi hz ⟨g,0,none⟩ n cap xs (by rw[BR];simpa using oU) holds s (by omega) (by unfold maxLen at nS;omega) (by rw[hby];exact growslice_fits (by omega) (by omega));rw[hr] at ZF
   cases ZF
   cases hk;exact .inr (Nat.le_refl _)
theorem B6{P:Program}{w:World}{ops:Array Oper}{rest:List Oper}{o:Oper}{a:Act}{Q:Exit->Act->World->Prop}(GV:o.guard=none)(sl x:Operand)(t u:TypeId)
  (ho:o.op = .call { callee := .builtin .append,args:=#[sl,x],argTypes:=#[t,u] })
  (e:TypeId) (i:TypeInfo) (ht:P.underlying t=some (.slice e)) (hu:P.underlying u=some .string) (hi:P.info? e=some i) (hz:i.zero=some (.int .u8 0))
  (BR:i.size=1) (hby:i.bytes=1)
  (v:Value) (n:Nat) (xs:List Value) (hs:a.eval sl=v) (xV:w.ownsRow 0 e 1 v n xs) (s:ByteArray) (hx:a.eval x = .string s)
  (nS:n+s.size<=maxLen) (XI:n+s.size<=140737488355328)
  (h:∀ v' w',w'.ownsRow 0 e 1 v' (n+s.size) (xs++zU s)->Fr (xY v) (xY v') w w'->(v' = .slice none 0 0 ↔ v = .slice none 0 0/\s.size=0)->wpList P ops Q rest (a.put o.dst v') w'):wpList P ops Q (o::rest) a w:=by
 refine wpList_plain GV fun K hK=>?_
 obtain⟨v',w',hr,h2,h3,h4⟩:=Og (P:=P) w t u o.type e i ht hu hi hz BR hby v n xs xV s nS XI;unfold Oper.wp execOp;simp only[ho,resolve,invoke,builtin,Sem.run_bind,Sem.run_pure,Result.andThen_ok,List.map_toArray,List.map_cons,List.map_nil,hs,hx,hr];exact hK _ _ (h v' w' h2 h3 h4)
def q9(b:Nat)(x0 x1 x2 st v:Value)(l:Wd)(w:World):Prop :=
 ∃ p,(p = .pointer none\/p = .pointer (some ⟨b,3,none⟩))/\w.heap[b]? = some (.cells #[x0,x1,x2,p,v,st] 199 (0,0))/\w.ownsRow 0 5 1 v l.length (z7 l)/\v.ownBlock≠some b/\(l=[]->v = .slice none 0 0)
abbrev Ub(b:Nat)(v:Value)(k:Nat):Prop:=k=b\/xY v k
section
variable {b:Nat} {x0 x1 x2 st v:Value} {l:Wd} {w w':World}
theorem q9.lt(h:q9 b x0 x1 x2 st v l w):b<w.heap.size:=by
 obtain⟨p,_,hb,_⟩:=h;exact(zZ.1 hb).1
theorem q9.cell(h:q9 b x0 x1 x2 st v l w):w.cell? ⟨b,0,none⟩=some x0/\w.cell? ⟨b,1,none⟩=some x1/\w.cell? ⟨b,2,none⟩=some x2/\w.cell? ⟨b,5,none⟩=some st/\∀ j,w.frozen? ⟨b,j,none⟩=false:=by
 obtain⟨p,_,hb,_⟩:=h;exact⟨by rw[z8 hb];rfl,by rw[z8 hb];rfl,by rw[z8 hb];rfl,by rw[z8 hb];rfl,fun j=>zu hb j⟩
theorem q9.row(h:q9 b x0 x1 x2 st v l w):w.ownsRow 0 5 1 v l.length (z7 l):=by
 obtain⟨p,_,_,ho,_⟩:=h;exact ho
theorem q9.fr{F F':Nat->Prop}(h:q9 b x0 x1 x2 st v l w)(hf:Fr F F' w w')(hb:¬F b)(hv:∀ g,xY v g->¬F g):q9 b x0 x1 x2 st v l w':=by
 have xB:=h.lt;obtain⟨p,h1,h2,h3,h4,h5⟩:=h;exact⟨p,h1,(hf.keep b xB hb).trans h2,hf.own h3 hv,h4,h5⟩
theorem pE(w:World)(x0 x1 x2:Value):q9 w.heap.size x0 x1 x2 (.slice none 0 0) (.slice none 0 0) [] (w.alloc (.cells #[x0,x1,x2,.pointer none,.slice none 0 0,.slice none 0 0] 199)) :=
 ⟨.pointer none,.inl rfl,heap_alloc_new w _,zQ _ _ _ _,by simp[Value.ownBlock],fun _=>rfl⟩
def cu(b:Nat)(x0 x1 x2 st v:Value)(l:Wd)(w:World):Prop :=
 w.heap[b]? = some (.cells #[x0,x1,x2,.pointer (some ⟨b,3,none⟩),v,st] 199 (0,0))/\w.ownsRow 0 5 1 v l.length (z7 l)/\v.ownBlock≠some b/\(l=[]->v = .slice none 0 0)
theorem Tq(h:q9 b x0 x1 x2 st v l w) :
  Calls prog 104 #[.pointer (some ⟨b,3,none⟩)] w fun e w'=>e = .returned (.tuple #[])/\cu b x0 x1 x2 st v l w'/\Fr (Ub b v) (Ub b v) w w':=by
 obtain⟨j,hj,hjs⟩:=Option.map_eq_some_iff.1 Tu;have xB:=h.lt;obtain⟨p,h1,h3,h4,h5,h6⟩:=h;have h0:w.cell? ⟨b,3,none⟩=some p:=by rw[z8 h3];rfl
 have Uk:w.frozen? ⟨b,3,none⟩=false:=zu h3 3;have A1:w.shape? b=some (199,6):=by simp[World.shape?,h3]
 have Tk:(w.setCell ⟨b,3,none⟩ (.pointer (some ⟨b,3,none⟩))).heap[b]? = some (.cells #[x0,x1,x2,.pointer (some ⟨b,3,none⟩),v,st] 199 (0,0)):=by
  simp[zX,zx,h3]
 have ug:Fr (fun k=>k=b) (fun k=>k=b) w (w.setCell ⟨b,3,none⟩ (.pointer (some ⟨b,3,none⟩))):=(Fr.refl _ _).set _ (.inl rfl);have xV:(w.setCell ⟨b,3,none⟩ (.pointer (some ⟨b,3,none⟩))).ownsRow 0 5 1 v l.length (z7 l):=ug.own h4 (fun g hg e=>h5 (e▸hg));have Vr:Fr (Ub b v) (Ub b v) w (w.setCell ⟨b,3,none⟩ (.pointer (some ⟨b,3,none⟩))):=ug.wide (fun k hk => .inl hk);have HS:=zy (⟨Tk,xV,h5,h6⟩:cu b x0 x1 x2 st v l (w.setCell ⟨b,3,none⟩ (.pointer (some ⟨b,3,none⟩))));have HW:=zy Vr;rcases h1 with rfl|rfl
 .clear h3 h4 h5 h6 Tk xV Vr ug;go_enter func104,ntmps104;go_wp2;rw[Lib.run_to_unsafe w ⟨b,3,none⟩ underlying153 underlying159 hj (by rw[hjs];decide) A1 (show 3<6 by decide)];simp only[zj];rw[zg];go_wp2;rw[run_callFunc_extern func153 (by kernel_rfl) (by kernel_rfl) (by kernel_rfl) (e:=zJ) (by kernel_rfl)];rw[Lib.run_noEscape];simp only[zj];rw[zg];go_wp2;rw[Lib.run_from_unsafe w ⟨b,3,none⟩ underlying159 underlying153 hj A1 (by kernel_rfl)];simp only[zj];rw[zg];go_wp2;go_end0
  exact⟨rfl,HS.out,HW.out⟩
 .have HQ:=zy (⟨h3,h4,h5,h6⟩:cu b x0 x1 x2 st v l w);clear h3 h4 h5 h6 Tk xV Vr ug HS HW;go_enter func104,ntmps104;go_wp2;rw[Lib.run_neq_ptr_same w _ underlying153 hj];go_wp2;go_end0
  exact⟨rfl,HQ.out,Fr.refl _ _⟩
theorem Ey(t:Wd):zU ⟨t.toArray⟩=z7 t:=rfl
theorem L7(a b:Wd):z7 a++z7 b=z7 (a++b):=by simp[z7]
def Fv(b:Nat)(x0 x1 x2 st v:Value)(l:Wd)(w w':World):Prop:=∃ v',q9 b x0 x1 x2 st v' l w'/\Fr (Ub b v) (Ub b v') w w'
theorem KH(t:Wd)(h:q9 b x0 x1 x2 st v l w)(hlen:l.length+t.length<=1000000000) :
  Calls prog 126 #[.pointer (some ⟨b,3,none⟩),xg t] w fun e w'=>(∃ v,e = .returned v)/\Fv b x0 x1 x2 st v (l++t) w w':=by
 obtain⟨i0,hi,Fu,Qv,Qw⟩:=Ez;have HCK:=zy (Tq h);have hts:(⟨t.toArray⟩:ByteArray).size=t.length:=size_mk _;clear h;go_enter func126,ntmps126;go_wp2_with fail;refine HCK.out.mono ?_;rintro e w1 ⟨rfl,⟨bP,xV,vy,Gr⟩,Vr⟩;have c0:w1.cell? ⟨b,3,none⟩=some (.pointer (some ⟨b,3,none⟩)):=by rw[z8 bP];rfl
 have c1:w1.cell? ⟨b,4,none⟩=some v:=by rw[z8 bP];rfl
 have xB:b<w1.heap.size:=(zZ.1 bP).1;have wP:=zy Vr;have VH:=zy xV;have HNE:=zy vy;have yb3:=zy Gr;have HBK:=zy bP;have HV:=zy (xf xV);clear Vr xV vy Gr bP;go_wp2_with (at_builtin;refine B6 rfl _ _ 48 9 rfl 5 i0 underlying48 underlying9 hi Fu Qv Qw v l.length (z7 l) rfl VH.out ⟨t.toArray⟩ rfl (by rw[hts];unfold maxLen;omega) (by rw[hts];omega) ?_);intro v' w2 Vs YG hz;have nb:¬xY v b:=fun e=>HNE.out e
 have xJ:w2.heap[b]? = some (.cells #[x0,x1,x2,.pointer (some ⟨b,3,none⟩),v,st] 199 (0,0)):=(YG.keep b xB nb).trans HBK.out;have d1:w2.cell? ⟨b,4,none⟩=some v:=by rw[z8 xJ];rfl
 have f1:w2.frozen? ⟨b,4,none⟩=false:=zu xJ 4;rw[Ey,L7] at Vs;have Vs:w2.ownsRow 0 5 1 v' (l.length+t.length) (z7 (l++t)):=Vs;have pH:v'.ownBlock≠some b:=fun e=>(YG.fp b e).elim nb (fun q=>by omega)
 have XG:(w2.setCell ⟨b,4,none⟩ v').heap[b]? = some (.cells #[x0,x1,x2,.pointer (some ⟨b,3,none⟩),v',st] 199 (0,0)):=by
  simp[zX,zx,xJ]
 have vU:Fr (fun k=>k=b) (fun k=>k=b) w2 (w2.setCell ⟨b,4,none⟩ v'):=(Fr.refl _ _).set _ (.inl rfl);have Jv:(w2.setCell ⟨b,4,none⟩ v').ownsRow 0 5 1 v' (l++t).length (z7 (l++t)):=by
  rw[List.length_append];exact vU.own Vs (fun g hg e=>pH (e▸hg))
 have wR:l++t=[]->v' = .slice none 0 0:=fun e=>by
  obtain⟨e1,e2⟩:=List.append_eq_nil_iff.1 e;exact hz.2 ⟨yb3.out e1,by subst e2;rfl⟩
 have Ex:Fr (Ub b v) (Ub b v') w1 (w2.setCell ⟨b,4,none⟩ v'):=by
  have h1:Fr (Ub b v) (Ub b v) w1 w2:=YG.wide (fun k hk => .inr hk);have h2:Fr (Ub b v) (Ub b v) w2 (w2.setCell ⟨b,4,none⟩ v'):=vU.wide (fun k hk => .inl hk);exact(h1.trans h2).tg (fun k hk=>hk.elim (fun e => .inl (.inl e)) (fun e=>(YG.fp k e).elim (fun q => .inl (.inr q)) .inr))
 have HW:=zy (⟨v',⟨_,.inr rfl,XG,Jv,pH,wR⟩,wP.out.trans Ex⟩:Fv b x0 x1 x2 st v (l++t) w (w2.setCell ⟨b,4,none⟩ v'));obtain⟨ao,cap,rfl⟩:=xf Vs;clear Vs YG hz xJ XG Jv wR pH Ex vU;go_wp2;go_ret2
 exact⟨⟨_,rfl⟩,HW.out⟩
theorem Tj(w:World)(g n:Nat):Fr (fun k=>k=g) (fun k=>k=g) w (w.freeze ⟨g,0,none⟩ n):=by
 unfold World.freeze;split
 .exact Fr.refl _ _
 .exact⟨rfl,rfl,rfl,by simp,fun k hk hn=>by simp only[zx];rw[if_neg (fun e=>hn e.symm)],fun _ q => .inl q⟩
theorem pI{B:Nat}(hB:∀ g,xY v g->B<=g)(h:q9 b x0 x1 x2 st v l w)(hl:l.length<=1000000000) :
  Calls prog 73 #[.pointer (some ⟨b,3,none⟩)] w fun e w'=>e = .returned (xg l)/\Below B w w'/\Fr (xY v) (xY v) w w':=by
 obtain⟨p,h1,bP,xV,vy,Gr⟩:=h;by_cases h0:l=[]
 .have hv:=Gr h0;subst hv h0;have c1:w.drew.cell? ⟨b,4,none⟩=some (.slice none 0 0):=by
   have:w.drew.heap[b]? = some (.cells #[x0,x1,x2,p,.slice none 0 0,st] 199 (0,0)):=bP;rw[z8 this];rfl
  have hUS:=fun W q=>Lib.run_unsafeString_none (P:=prog) W 229 3 9 q
  have hSD:(zf #[48] 229 #[.slice none 0 0]).run prog w.drew = .ok (.pointer none) w.drew:=rfl;have mixed:prog.follows zY=true:=by kernel_rfl
  clear xV bP vy Gr h1 hB;go_enter func73,ntmps73;go_wp2;go_region_o
  all_goals (go_wp2;go_ret;exact⟨rfl,Below.drew (Below.refl B w),(Fr.refl _ _).drew⟩)
 .have nl:l.length≠0:=by simpa using h0
  obtain⟨g,cap,cur,rfl,hg,hnc,jS,dT,X7⟩:∃ g cap cur,v = .slice (some ⟨g,0,none⟩) l.length cap/\w.heap[g]? = some (.cells cur 5 (0,0))/\l.length<=cap/\cap<=maxLen/\cur.size=cap*1/\cur.toList.take (l.length*1)=z7 l:=by
   rcases xV.2 with⟨_,hz⟩|⟨g,cap,cur,hv,-,r⟩
   .exact absurd hz nl
   .exact⟨g,cap,cur,hv,r⟩
  have Dl:B<=g:=hB g rfl;have c1:w.drew.cell? ⟨b,4,none⟩=some (.slice (some ⟨g,0,none⟩) l.length cap):=by
   have:w.drew.heap[b]? = some (.cells #[x0,x1,x2,p,.slice (some ⟨g,0,none⟩) l.length cap,st] 199 (0,0)):=bP;rw[z8 this];rfl
  have hSD:(zf #[48] 229 #[.slice (some ⟨g,0,none⟩) l.length cap]).run prog w.drew = .ok (.pointer (some ⟨g,0,none⟩)) w.drew :=
   Lib.run_unsafeSliceData_row _ _ _ _ _ _ (by omega)
  have hUS:(Builtin.unsafeString_ #[229,3] 9 #[.pointer (some ⟨g,0,none⟩),.int .i64 l.length]).run prog w.drew = .ok (.string ⟨l.toArray⟩) (w.drew.freeze ⟨g,0,none⟩ l.length):=by
   refine Lib.run_unsafeString_row w.drew 229 3 9 5 underlying229 B5 g cur.size (by have hg':w.drew.heap[g]? = some (.cells cur 5 (0,0)):=hg;simp[World.shape?,hg']) l h0 (by omega) (by omega) ?_;intro j x hx;exact xV.cells (g:=g) rfl j (.int .u8 x.toNat) (by simp[z7,hx])
  have mixed:prog.follows zY=true:=by kernel_rfl
  clear xV bP vy Gr h1 hg dT X7 hB;go_enter func73,ntmps73;go_wp2;go_region_o
  all_goals (go_wp2;go_ret;exact⟨rfl,Lib.below_freeze (Below.drew (Below.refl B w)) (p:=⟨g,0,none⟩) Dl _,(Tj w.drew g l.length).und.wide (fun k hk=>by rw[hk];rfl)⟩)
end
structure zn0(q k:Nat)(x:jG)(I n ic:Nat)(kv tv:Value)(w:World):Prop where
 q1:w.cell? ⟨q,1,none⟩=some (.slice (some ⟨I,0,none⟩) n ic)
 lt:k<n
 op:w.cell? ⟨I,k*5,none⟩=some (.int .i64 x.op)
 v:w.cell? ⟨I,k*5+2,none⟩=some (.int .i64 x.v)
 kc:w.cell? ⟨I,k*5+3,none⟩=some kv
 tc:w.cell? ⟨I,k*5+4,none⟩=some tv
 kr:qj w kv x.k
 tr:qj w tv x.tg
section
variable {q mb k:Nat} {s:MkS} {vC vI:Value} {rs:List (Value×Value)} {w:World}
theorem jX.ins{x:jG}(h:jX q s vC vI rs mb w)(hk:s.code[k]? = some x):∃ I ic kv tv,zn0 q k x I s.code.length ic kv tv w:=by
 have tN:=(zv.1 hk).1;obtain⟨⟨kv,tv⟩,hr⟩:∃ r,rs[k]? = some r:=⟨_,List.getElem?_eq_getElem (by have:=h.rows.len;omega)⟩;obtain⟨h1,h2⟩:=h.rows.k k x _ hk hr;obtain⟨I,ic,GF,-,hI,SU⟩:=vZ h.cI (by omega);have c:∀ j,j<5->w.cell? ⟨I,k*5+j,none⟩=(DT x (kv,tv))[j]? := fun j hj=>by rw[SU _ (by omega),Ul _ _ h.rows.len k j x _ hk hr hj]
 exact⟨I,ic,kv,tv,by rw[h.q1,GF],tN,c 0 (by omega),c 2 (by omega),c 3 (by omega),c 4 (by omega),h1,h2⟩
theorem jX.oY{j:Nat}{t:Wd}(h:jX q s vC vI rs mb w)(hj:s.cs[j]? = some t):∃ C cc,w.cell? ⟨q,0,none⟩=some (.slice (some ⟨C,0,none⟩) s.cs.length cc)/\w.cell? ⟨C,j,none⟩=some (xg t)/\j<s.cs.length:=by
 have hl:=(zv.1 hj).1;obtain⟨C,cc,hv,-,-,hc⟩:=vZ h.cC (by omega);exact⟨C,cc,by rw[h.q0,hv],by rw[hc j (by omega),List.getElem?_map,hj];rfl,hl⟩
theorem qj.at_{v:Value}{l:List Nat}{j x:Nat}(h:qj w v l)(hj:l[j]? = some x):∃ g c,v = .slice (some ⟨g,0,none⟩) l.length c/\w.cell? ⟨g,j,none⟩=some (.int .i64 x)/\j<l.length:=by
 have hl:=(zv.1 hj).1;obtain⟨g,c,hv,-,-,hc⟩:=vZ h (by omega);exact⟨g,c,hv,by rw[hc j (by omega)];simp[Zb,hj],hl⟩
end
section
variable {b q mb k:Nat} {s:MkS} {vC vI x1 x2 st v:Value} {rs:List (Value×Value)} {l:Wd} {w:World} {x:jG}
theorem step_end(h:q9 b (.pointer (some ⟨q,0,none⟩)) x1 x2 st v l w)(hp:jX q s vC vI rs mb w)(hk:s.code[k]? = some x)(uM:x.op=0)(hn:s.code.length<=1000000) :
  Calls prog 87 #[.pointer (some ⟨b,0,none⟩),.int .i64 (k:Nat)] w fun e w'=>e = .returned (.int .i64 (-1))/\w=w':=by
 obtain⟨I,ic,kv,tv,q1,lt,i0,-⟩:=hp.ins hk;obtain⟨n,hN⟩:=xX s.code.length;rw[hN] at q1 lt hn;rw[uM] at i0;have b0:=h.cell.1;have k1:(k:Int)<(n:Int):=by omega
 clear h hp hk uM hN;go_enter func87,ntmps87;go_wp2;go_ret;exact⟨rfl,rfl⟩
theorem Tg{j:Nat}{t:Wd}(h:q9 b (.pointer (some ⟨q,0,none⟩)) x1 x2 st v l w)(hp:jX q s vC vI rs mb w)(hk:s.code[k]? = some x)(uM:x.op=1)(hj:x.k[0]? = some j)(ht:s.cs[j]? = some t)(hn:s.code.length<=1000000)(hc:s.cs.length<=1000000)(hlen:l.length+t.length<=1000000000) :
  Calls prog 87 #[.pointer (some ⟨b,0,none⟩),.int .i64 (k:Nat)] w fun e w'=>e = .returned (.int .i64 ((k+1:Nat):Int))/\Fv b (.pointer (some ⟨q,0,none⟩)) x1 x2 st v (l++t) w w':=by
 obtain⟨I,ic,kv,tv,q1,lt,i0,-,i3,-,kr,-⟩:=hp.ins hk;obtain⟨C,cc,q0,cj,KY⟩:=hp.oY ht;obtain⟨K,kc,rfl,kj,CC⟩:=kr.at_ hj;have HW:=zy (KH (w:=w.drew) t h hlen);obtain⟨n,hN⟩:=xX s.code.length;obtain⟨m,hM⟩:=xX s.cs.length;obtain⟨z,hZ⟩:=xX x.k.length;rw[hN] at q1 lt hn;rw[hM] at q0 KY hc;rw[hZ] at i3 CC;rw[uM] at i0;have b0:=h.cell.1;have k1:(k:Int)<(n:Int):=by omega
 have k2:(j:Int)<(m:Int):=by omega
 have k3:(0:Int)<(z:Int):=by omega
 have k5:(k:Int)<=1000000:=by omega
 clear h hp hk uM hN hM hZ kr hj ht;go_enter func87,ntmps87;go_wp2_with fail;refine rk (fun W':World=>W'.cell? ⟨b,0,none⟩=some (.pointer (some ⟨q,0,none⟩))/\W'.cell? ⟨q,0,none⟩=some (.slice (some ⟨C,0,none⟩) m cc)/\W'.cell? ⟨I,k*5+3,none⟩=some (.slice (some ⟨K,0,none⟩) z kc)/\W'.cell? ⟨K,0,none⟩=some (.int .i64 j)/\W'.cell? ⟨C,j,none⟩=some (xg t)) 18 (List.range 18) 1 ⟨b0,q0,i3,kj,cj⟩ ?_;(iterate 18 (refine ty ?_;try simp only[pl]))
 refine xq ?_;refine BZ 18 (fun J hJ=>?_);go_simp;refine HW.out.mono ?_;rintro e w2 ⟨⟨u,rfl⟩,K7⟩;refine hJ.out _ _ ?_;clear hJ J;refine BX ?_ _;have wW:=zy K7;clear K7 HW;go_wp2;go_ret;obtain⟨v',h1,h2⟩:=wW.out;exact⟨by first|rfl|simp,v',h1,h2.und⟩
end
def Vt(c:UInt8):Nat:=if 97<=c.toNat/\c.toNat<=122 then 1 else if 48<=c.toNat/\c.toNat<=57 then 2 else if c.toNat=32 then 3 else 0
def Fq(l:List UInt8):Bool:=vA l && (decide (l.length<=9) && (decide (l.length=1) || decide (l.headD 0≠48)))
def B7(l:List UInt8):Nat:=l.foldl (fun v c=>10*v+(c.toNat - 48)) 0
theorem Tf(l:List UInt8)(c:UInt8):B7 (l++[c])=10*B7 l+(c.toNat - 48):=by simp[B7]
theorem pL:∀ (l:List UInt8),l.all xF=true->B7 l<10 ^ l.length:=by
 intro l;induction hn:l.length generalizing l with
 | zero=>intro _;have:=zk hn;subst this;simp[B7]
 | succ n ih =>
  intro h;have vy:l≠[]:=fun q=>by rw[q] at hn;cases hn
  obtain⟨t,c,rfl⟩:∃ t c,l=t++[c]:=⟨l.dropLast,l.getLast vy,by rw[List.dropLast_concat_getLast]⟩;rw[List.all_append,Bool.and_eq_true] at h;have hc:xF c=true:=by simpa using h.2
  have hd:=(vW c).1 hc;have hl:t.length=n:=by simpa using hn
  have:=ih t hl h.1;rw[Tf,Nat.pow_succ];omega
def Of(w:World)(v:Value)(ws:List (List UInt8)):Prop:=∃ a cap,v = .slice a ws.length cap/\ws.length<=cap/\cap<=maxLen/\(a=none->cap=0)/\∀ j (h:j<ws.length),∃ b,a=some b/\w.cell? (b.add j)=some (xg ws[j])
theorem Gq{w:World}{base n:Nat}{e:TypeId}{g cap:Nat}{xs:List Value}(h:w.ownsRow base e 1 (.slice (some ⟨g,0,none⟩) n cap) n xs)(j:Nat)(hj:j<n)(u:Value) :
  (w.setCell ⟨g,j,none⟩ u).ownsRow base e 1 (.slice (some ⟨g,0,none⟩) n cap) n (xs.set j u):=by
 have hx:xs.length=n:=by have:=h.1;simpa using this
 refine⟨by simp[hx],?_⟩;rcases h.2 with⟨hv,_⟩|⟨g2,uL,cur,hv,hg,hh,h1,h2,h3,ht⟩
 .cases hv
 .simp only[Value.slice.injEq,Option.some.injEq,Addr.mk.injEq] at hv;obtain⟨⟨rfl,-⟩,-,rfl⟩:=hv;refine .inr ⟨g,cap,cur.setIfInBounds j u,rfl,hg,?_,h1,h2,by simpa using h3,?_⟩
  .simp[zX,zx,hh]
  .rw[Array.toList_setIfInBounds,<-ht,List.take_set]
def wa(out:List (List UInt8))(c:UInt8):List (List UInt8):=out.set (out.length - 1) (out.getD (out.length - 1) []++[c])
def YW:List UInt8->List (List UInt8)->Nat->Option (List (List UInt8))
 | [],out,_=>some out
 | c::t,out,last =>
  if Vt c=3 then YW t out 3
  else if 0<Vt c/\Vt c=last then YW t (wa out c) (Vt c)
  else if 0<Vt c\/c=61\/c=44\/c=37 then YW t (out++[[c]]) (Vt c)
  else match t with
   | []=>none
   | d::t2=>if (c=33/\d=61)\/(c=46/\d=46) then YW t2 (out++[[c,d]]) 0 else none
theorem go_join{c:UInt8}{t out last}(h3:Vt c≠3)(h:0<Vt c/\Vt c=last):YW (c::t) out last=YW t (wa out c) (Vt c):=by rw[YW.eq_def];dsimp only;rw[if_neg h3,if_pos h]
end Go.Proofs.YthpldolmpinnhaaGreatDoor
