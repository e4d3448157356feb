import Derived.Test.YthpldolmpinnhaaGreatDoorProg
import Derived.WalkKit
import Derived.WalkLawsBesides
import Derived.WalkSpells
import Derived.Deep.QuietTactic
import Derived.BigQuiet
import Derived.Lib.Hide
namespace Go.Proofs.YthpldolmpinnhaaGreatDoor
open Go Go.RowKit
def isDig (c:UInt8):Bool:=48<=c && c<=57
theorem ret_val {a b:Value} (h:a=b):Ending.returned a = .returned b:=by rw [h]
theorem getElem_toList (s:ByteArray) (k:Nat) (h:k<s.size):s.data.toList[k]'(by simpa using h)=s[k]:=by
 simp [ByteArray.getElem_eq_getElem_data]
theorem size_toList (s:ByteArray):s.data.toList.length=s.size:=by simp
theorem take_all (s:ByteArray):s.data.toList.take s.size=s.data.toList:=List.take_of_length_le (by simp)
theorem take_snoc (s:ByteArray) (k:Nat) (h:k<s.size):s.data.toList.take (k+1)=s.data.toList.take k++[s[k]]:=by
 rw [List.take_succ_eq_append_getElem (by simpa using h),getElem_toList s k h]
theorem isDig_iff (c:UInt8):isDig c=true ↔ (48:Int)<=(c.toNat:Int)/\(c.toNat:Int)<=57:=by
 simp [isDig,UInt8.le_iff_toNat_le];omega
theorem isDig_false (c:UInt8):isDig c=false ↔ ((c.toNat:Int)<48\/(57:Int)<(c.toNat:Int)):=by
 rw [←Bool.not_eq_true,isDig_iff];omega
theorem all_snoc {p:UInt8->Bool} {l:List UInt8} {c:UInt8} (h:l.all p=true) (hc:p c=true):(l++[c]).all p=true:=by
 simp [List.all_append,h,hc]
theorem all_false_of {p:UInt8->Bool} (s:ByteArray) (k:Nat) (hk:k<s.size) (hc:p s[k]=false):s.data.toList.all p=false:=by
 rw [List.all_eq_false];exact ⟨s[k],by rw [←getElem_toList s k hk];exact List.getElem_mem _,by simp [hc]⟩
theorem extract_eq (s:ByteArray) (a b:Nat):s.extract a b=⟨((s.data.toList.drop a).take (b - a)).toArray⟩:=by
 apply ByteArray.ext;apply Array.ext';simp [ByteArray.data_extract]
theorem extract_take (s:ByteArray) (b:Nat):s.extract 0 b=⟨(s.data.toList.take b).toArray⟩:=by
 rw [extract_eq];simp
theorem extract_drop (s:ByteArray) (a:Nat):s.extract a s.size=⟨(s.data.toList.drop a).toArray⟩:=by
 rw [extract_eq,List.take_of_length_le (by simp)]
theorem toNat_beq (a b:UInt8):((a.toNat:Int)==(b.toNat:Int))=decide (a=b):=by
 rw [Bool.eq_iff_iff,beq_iff_eq,decide_eq_true_eq];constructor
 ·intro h;exact UInt8.toNat_inj.1 (by omega)
 ·intro h;rw [h]
def dchar (d:Nat):UInt8:=UInt8.ofNat (48+d)
def decL (n:Nat):List UInt8:=if n<10 then [dchar n] else decL (n / 10)++[dchar (n % 10)]
 termination_by n
 decreasing_by omega
theorem decL_small {n:Nat} (h:n<10):decL n=[dchar n]:=by rw [decL,if_pos h]
theorem decL_big {n:Nat} (h:¬n<10):decL n=decL (n / 10)++[dchar (n % 10)]:=by rw [decL,if_neg h]
theorem decL_length (n:Nat):(decL n).length<=n+1:=by
 induction n using Nat.strongRecOn with
 | _ n ih =>
  by_cases h:n<10
  ·rw [decL_small h];simp
  ·rw [decL_big h];have:=ih (n / 10) (by omega);simp;omega
theorem size_mk (l:List UInt8):(ByteArray.mk l.toArray).size=l.length:=by simp [ByteArray.size]
theorem mk_toList (s:ByteArray):ByteArray.mk s.data.toList.toArray=s:=by simp
theorem toList_mk (l:List UInt8):(ByteArray.mk l.toArray).data.toList=l:=by simp
theorem append_mk (a b:List UInt8):ByteArray.mk a.toArray++ByteArray.mk b.toArray=ByteArray.mk (a++b).toArray:=by
 apply ByteArray.ext;simp [ByteArray.data_append]
theorem append_eq (s t:ByteArray):s++t=ByteArray.mk (s.data.toList++t.data.toList).toArray:=by
 apply ByteArray.ext;simp [ByteArray.data_append]
structure Elem (P:Program) (t e:TypeId) (z:Value) (size bytes:Nat):Prop where
 under:P.underlying t=some (.slice e)
 info:∃ i,P.info? e=some i/\i.zero=some z/\i.size=size/\i.bytes=bytes
 zsize:z.cells.size=size
 pos:0<size
 small:bytes<=4096
theorem app_own {P:Program} {t e:TypeId} {z:Value} {size bytes:Nat} (E:Elem P t e z size bytes) {w:World} {ops:Array Oper} {rest:List Oper} {o:Oper} {a:Act} {Q:Exit->Act->World->Prop}
  (hgd:o.guard=none) (s x:Operand) (ho:o.op = .call { callee := .builtin .append,args:=#[s,x],argTypes:=#[t,t] })
  (base:Nat) (v:Value) (n:Nat) (xs:List Value) (hs:a.eval s=v) (hown:w.ownsRow base e size v n xs)
  (ad:Addr) (m c:Nat) (news:List Value) (hx:a.eval x = .slice (some ad) m c) (hl:news.length=m*size) (hnews:∀ j u,news[j]? = some u->w.cell? (ad.add j)=some u) (h1:∀ u∈news,u.oneCell'=true)
  (h31:n+m<=2147483648) (hbase:base<=w.heap.size)
  (h:∀ v' w',w'.ownsRow base e size v' (n+m) (xs++news)->w.grownBy w' v.ownBlock->wpList P ops Q rest (a.put o.dst v') w'):wpList P ops Q (o::rest) a w:=by
 obtain ⟨i,hi,hz,h2,h3⟩:=E.info;have hs4:=E.small;refine wpList_append_own w hgd s x t ho base e i z size bytes E.under hi hz h2 h3 E.zsize E.pos v n xs hs hown ad m c news hx hl hnews h1 (by unfold maxLen;omega) ?_ hbase (fun v' w' a b _=>h v' w' a b);exact Nat.le_trans (Nat.mul_le_mul h31 hs4) (by decide)
theorem cells_one {w:World} {b:Nat} {u:Value} (h:w.cell? ⟨b,0,none⟩=some u):∀ j x,[u][j]? = some x->w.cell? ((⟨b,0,none⟩:Addr).add j)=some x:=by
 intro j x hx;match j,hx with
 | 0,hx=>simp at hx;subst hx;exact h
theorem elem_strs:Elem Tryz.prog 31 9 (.string ⟨#[]⟩) 1 16 :=
 ⟨Tryz.underlying31,info_parts (by kernel_rfl),rfl,by decide,by decide⟩
abbrev strv (l:List UInt8):Value := .string ⟨l.toArray⟩
theorem grown_refl (w:World) (row:Option Nat):w.grownBy w row:=⟨rfl,rfl,rfl,Nat.le_refl _,fun _ _ _=>rfl⟩
theorem own_slice {w:World} {base size n:Nat} {e:TypeId} {v:Value} {xs:List Value} (h:w.ownsRow base e size v n xs):∃ a cap,v = .slice a n cap:=by
 rcases h.2 with ⟨hv,hn⟩ | ⟨g,cap,_,hv,_⟩
 ·exact ⟨none,0,by rw [hv,hn]⟩
 ·exact ⟨_,cap,hv⟩
theorem own_some {w:World} {base size n:Nat} {e:TypeId} {v:Value} {xs:List Value} (h:w.ownsRow base e size v n xs) (hn:0<n) :
  ∃ g cap,v = .slice (some ⟨g,0,none⟩) n cap/\base<=g/\g<w.heap.size/\∀ j,j<n*size->w.cell? ⟨g,j,none⟩=xs[j]? := by
 have hlt:=h.lt;rcases h.2 with ⟨_,h0⟩ | ⟨g,cap,cur,hv,hg,hh,_,_,_,ht⟩
 ·omega
 ·subst hv;exact ⟨g,cap,rfl,hg,(hlt g rfl).2,fun j hj=>h.cellAt j hj⟩
end Go.Proofs.YthpldolmpinnhaaGreatDoor
namespace Go.Proofs.YthpldolmpinnhaaGreatDoor
open Go Go.RowKit
theorem wp_gen {P:Program} {c:Code} {Q:Exit->Act->World->Prop} {a:Act} {w:World} (h:∀ W,W=w->Code.wp P c Q a W):Code.wp P c Q a w:=h w rfl
theorem calls_gen {P:Program} {f:FuncId} {args:Array Value} {R:Ending->World->Prop} {w:World} (h:∀ W,W=w->Calls P f args W R):Calls P f args w R:=h w rfl
theorem list_gen {P:Program} {ops:Array Oper} {Q:Exit->Act->World->Prop} {l:List Oper} {a:Act} {w:World} (h:∀ W,W=w->wpList P ops Q l a W):wpList P ops Q l a w:=h w rfl
theorem below_drewN {B:Nat} {a w:World} (h:Below B a w) (n:Nat):Below B a (w.drewN n):=⟨h.os,h.tape,h.output,h.size,h.block⟩
theorem cellSet (w:World) (a b:Addr) (v:Value):(w.setCell a v).cell? b=if a=b then (w.cell? b).map (fun _=>v) else w.cell? b:=by
 split
 next h =>
  subst h
  cases hc:w.cell? a with
  | some u =>
   rw [World.cell?_setCell_same (h:=hc)];rfl
  | none =>
   cases hd:(w.setCell a v).cell? a with
   | none=>rfl
   | some u =>
    exfalso;unfold World.cell? World.setCell at hd;unfold World.cell? at hc;simp only [Array.getElem?_modify,if_true] at hd
    cases hh:w.heap[a.block]? with
    | none=>simp [hh] at hd
    | some o =>
     simp only [hh] at hc;simp only [hh,Option.map_some] at hd
     cases o<;>simp_all
 next h=>exact World.cell?_setCell_other (h:=h) ..
theorem addr_add (a:Addr) (j:Nat):(a.add j).block=a.block:=by
 unfold Addr.add;split<;>rfl
theorem addr_add0 (g j:Nat):(⟨g,0,none⟩:Addr).add j=⟨g,j,none⟩:=by
 unfold Addr.add;split
 ·simp_all
 ·simp
theorem cell_made (w:World) (c:Array Value) (t:TypeId) (fr:Nat×Nat) (i:Nat):(w.alloc (.cells c t fr)).cell? ⟨w.heap.size,i,none⟩=c[i]? := by
 show (match (w.heap.push (.cells c t fr))[w.heap.size]? with | some (.cells c _ _)=>c[i]? | _=>none)=_;simp
abbrev Wd:=List UInt8
end Go.Proofs.YthpldolmpinnhaaGreatDoor
namespace Go.Proofs.YthpldolmpinnhaaGreatDoor
open Go Go.RowKit
structure But (p:Nat) (w w':World):Prop where
 os:w'.os=w.os
 tape:w'.tape=w.tape
 output:w'.output=w.output
 size:w.heap.size<=w'.heap.size
 block:∀ k,k<w.heap.size->k≠p->w'.heap[k]? = w.heap[k]?
theorem But.refl (p:Nat) (w:World):But p w w:=⟨rfl,rfl,rfl,Nat.le_refl _,fun _ _ _=>rfl⟩
theorem But.trans {p:Nat} {a b c:World} (h:But p a b) (k:But p b c):But p a c :=
 ⟨k.os.trans h.os,k.tape.trans h.tape,k.output.trans h.output,Nat.le_trans h.size k.size,fun i hi hp=>(k.block i (Nat.lt_of_lt_of_le hi h.size) hp).trans (h.block i hi hp)⟩
theorem But.of {p:Nat} {w w':World} (h:Below w.heap.size w w'):But p w w':=⟨h.os,h.tape,h.output,h.size,fun k hk _=>h.block k hk⟩
theorem But.below {p:Nat} {w w' w'':World} (h:But p w w') (hb:Below w'.heap.size w' w''):But p w w'':=h.trans (But.of hb)
theorem But.set (p:Nat) (w:World) (j:Nat) (u:Value):But p w (w.setCell ⟨p,j,none⟩ u) :=
 ⟨rfl,rfl,rfl,by simp [World.setCell],fun k _ hp=>Below.heap_setCell _ _ _ _ hp⟩
theorem But.drew {p:Nat} {w w':World} (h:But p w w'):But p w w'.drew:=⟨h.os,h.tape,h.output,h.size,h.block⟩
theorem But.cell {p:Nat} {w w':World} (h:But p w w') {a:Addr} {v:Value} (hc:w.cell? a=some v) (ha:a.block≠p):w'.cell? a=some v :=
 (World.cell?_of_block (h.block a.block (World.block_lt_of_cell? w a hc) ha)).trans hc
theorem But.low {p lo:Nat} {w w':World} (h:But p w w') (hlo:lo<=p) (h2:lo<=w.heap.size):Below lo w w':=⟨h.os,h.tape,h.output,h.size,fun k hk=>h.block k (by omega) (by omega)⟩
def KeepR (lo hi:Nat) (w W:World):Prop:=hi<=W.heap.size/\∀ k,lo<=k->k<hi->W.heap[k]? = w.heap[k]?
theorem KeepR.below {lo hi:Nat} {w W W':World} (h:KeepR lo hi w W) (hb:Below W.heap.size W W'):KeepR lo hi w W' :=
 ⟨Nat.le_trans h.1 hb.size,fun k h1 h2=>(hb.block k (Nat.lt_of_lt_of_le h2 h.1)).trans (h.2 k h1 h2)⟩
theorem KeepR.cell {lo hi:Nat} {w W:World} (h:KeepR lo hi w W) {p:Addr} (h1:lo<=p.block) (h2:p.block<hi):W.cell? p=w.cell? p:=World.cell?_of_block (w:=w) (h.2 p.block h1 h2)
theorem KeepR.via {lo hi lo' hi':Nat} {w w' W:World} (h:KeepR lo' hi' w' W) (hk:KeepR lo hi w w') (h1:lo'<=lo) (h2:hi<=hi'):KeepR lo hi w W :=
 ⟨Nat.le_trans h2 h.1,fun k a b=>(h.2 k (by omega) (by omega)).trans (hk.2 k a b)⟩
theorem keep_refl {lo hi:Nat} {w:World} (h:hi<=w.heap.size):KeepR lo hi w w:=⟨h,fun _ _ _=>rfl⟩
theorem keep_below {lo hi B:Nat} {w w':World} (h:Below B w w') (hb:hi<=B) (h2:hi<=w.heap.size):KeepR lo hi w w':=⟨Nat.le_trans h2 h.size,fun k _ hk=>h.block k (by omega)⟩
end Go.Proofs.YthpldolmpinnhaaGreatDoor
