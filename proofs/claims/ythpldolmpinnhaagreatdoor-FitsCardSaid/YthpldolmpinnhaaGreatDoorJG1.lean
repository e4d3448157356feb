import Derived.Test.YthpldolmpinnhaaGreatDoorProg
import Derived.WalkKit
import Derived.WalkLawsBesides
import Derived.WalkSpells
import Derived.Deep.QuietTactic
import Derived.BigQuiet
import Derived.Lib.Hide
open ByteArray renaming mk→z7,ext→z8,data_append→zy
open List renaming take_of_length_le→zx
namespace Go.Proofs.YthpldolmpinnhaaGreatDoor
open Go Go.RowKit
def xF(c:UInt8):Bool:=48<=c && c<=57
theorem CK{a b:Value}(h:a=b):Ending.returned a = .returned b:=by rw[h]
theorem getElem_toList(s:ByteArray)(k:Nat)(h:k<s.size):s.data.toList[k]'(by simpa using h)=s[k]:=by
 simp[ByteArray.getElem_eq_getElem_data]
theorem xc(s:ByteArray):s.data.toList.length=s.size:=by simp
theorem GX(s:ByteArray):s.data.toList.take s.size=s.data.toList:=zx (by simp)
theorem Bb(s:ByteArray)(k:Nat)(h:k<s.size):s.data.toList.take (k+1)=s.data.toList.take k++[s[k]]:=by
 rw[List.take_succ_eq_append_getElem (by simpa using h),getElem_toList s k h]
theorem vW(c:UInt8):xF c=true ↔ (48:Int)<=(c.toNat:Int)/\(c.toNat:Int)<=57:=by
 simp[xF,UInt8.le_iff_toNat_le];omega
theorem Hn(c:UInt8):xF c=false ↔ ((c.toNat:Int)<48\/(57:Int)<(c.toNat:Int)):=by
 rw[<-Bool.not_eq_true,vW];omega
theorem Aj{p:UInt8->Bool}{l:List UInt8}{c:UInt8}(h:l.all p=true)(hc:p c=true):(l++[c]).all p=true:=by
 simp[List.all_append,h,hc]
theorem CJ{p:UInt8->Bool}(s:ByteArray)(k:Nat)(hk:k<s.size)(hc:p s[k]=false):s.data.toList.all p=false:=by
 rw[List.all_eq_false];exact⟨s[k],by rw[<-getElem_toList s k hk];exact List.getElem_mem _,by simp[hc]⟩
theorem extract_eq(s:ByteArray)(a b:Nat):s.extract a b=⟨((s.data.toList.drop a).take (b - a)).toArray⟩:=by
 apply z8;apply Array.ext';simp[ByteArray.data_extract]
theorem qE(s:ByteArray)(b:Nat):s.extract 0 b=⟨(s.data.toList.take b).toArray⟩:=by
 rw[extract_eq];simp
theorem qH(s:ByteArray)(a:Nat):s.extract a s.size=⟨(s.data.toList.drop a).toArray⟩:=by
 rw[extract_eq,zx (by simp)]
theorem bK(a b:UInt8):((a.toNat:Int)==(b.toNat:Int))=decide (a=b):=by
 rw[Bool.eq_iff_iff,beq_iff_eq,decide_eq_true_eq];constructor
 .intro h;exact UInt8.toNat_inj.1 (by omega)
 .intro h;rw[h]
def kH(d:Nat):UInt8:=UInt8.ofNat (48+d)
def xH(n:Nat):List UInt8:=if n<10 then [kH n] else xH (n / 10)++[kH (n % 10)]
 termination_by n
 decreasing_by omega
theorem qk{n:Nat}(h:n<10):xH n=[kH n]:=by rw[xH,if_pos h]
theorem dQ{n:Nat}(h:¬n<10):xH n=xH (n / 10)++[kH (n % 10)]:=by rw[xH,if_neg h]
theorem Ho(n:Nat):(xH n).length<=n+1:=by
 induction n using Nat.strongRecOn with
 | _ n ih =>
  by_cases h:n<10
  .rw[qk h];simp
  .rw[dQ h];have:=ih (n / 10) (by omega);simp;omega
theorem size_mk(l:List UInt8):(ByteArray.mk l.toArray).size=l.length:=by simp[ByteArray.size]
theorem Sg(s:ByteArray):ByteArray.mk s.data.toList.toArray=s:=by simp
theorem toList_mk(l:List UInt8):(ByteArray.mk l.toArray).data.toList=l:=by simp
theorem Vu(a b:List UInt8):z7 a.toArray++z7 b.toArray=z7 (a++b).toArray:=by
 apply z8;simp[zy]
theorem append_eq(s t:ByteArray):s++t=z7 (s.data.toList++t.data.toList).toArray:=by
 apply z8;simp[zy]
structure ZS(P:Program)(t e:TypeId)(z:Value)(size bytes:Nat):Prop where
 under:P.underlying t=some (.slice e)
 info:∃ i,P.info? e=some i/\i.zero=some z/\i.size=size/\i.bytes=bytes
 Ua:z.cells.size=size
 pos:0<size
 small:bytes<=4096
theorem qX{P:Program}{t e:TypeId}{z:Value}{size bytes:Nat}(E:ZS P t e z size bytes){w:World}{ops:Array Oper}{rest:List Oper}{o:Oper}{a:Act}{Q:Exit->Act->World->Prop}
  (GV:o.guard=none) (s x:Operand) (ho:o.op = .call { callee := .builtin .append,args:=#[s,x],argTypes:=#[t,t] })
  (base:Nat) (v:Value) (n:Nat) (xs:List Value) (hs:a.eval s=v) (xV:w.ownsRow base e size v n xs)
  (ad:Addr) (m c:Nat) (news:List Value) (hx:a.eval x = .slice (some ad) m c) (hl:news.length=m*size) (dS:∀ j u,news[j]? = some u->w.cell? (ad.add j)=some u) (h1:∀ u∈news,u.oneCell'=true)
  (MS:n+m<=2147483648) (bM:base<=w.heap.size)
  (h:∀ v' w',w'.ownsRow base e size v' (n+m) (xs++news)->w.grownBy w' v.ownBlock->wpList P ops Q rest (a.put o.dst v') w'):wpList P ops Q (o::rest) a w:=by
 obtain⟨i,hi,hz,h2,h3⟩:=E.info;have Ks:=E.small;refine wpList_append_own w GV s x t ho base e i z size bytes E.under hi hz h2 h3 E.Ua E.pos v n xs hs xV ad m c news hx hl dS h1 (by unfold maxLen;omega) ?_ bM (fun v' w' a b _=>h v' w' a b);exact Nat.le_trans (Nat.mul_le_mul MS Ks) (by decide)
theorem cells_one{w:World}{b:Nat}{u:Value}(h:w.cell? ⟨b,0,none⟩=some u):∀ j x,[u][j]? = some x->w.cell? ((⟨b,0,none⟩:Addr).add j)=some x:=by
 intro j x hx;match j,hx with
 | 0,hx=>simp at hx;subst hx;exact h
theorem qz:ZS Tryz.prog 31 9 (.string ⟨#[]⟩) 1 16 :=
 ⟨Tryz.underlying31,info_parts (by kernel_rfl),rfl,by decide,by decide⟩
abbrev xg(l:List UInt8):Value := .string ⟨l.toArray⟩
theorem N7(w:World)(row:Option Nat):w.grownBy w row:=⟨rfl,rfl,rfl,Nat.le_refl _,fun _ _ _=>rfl⟩
theorem xf{w:World}{base size n:Nat}{e:TypeId}{v:Value}{xs:List Value}(h:w.ownsRow base e size v n xs):∃ a cap,v = .slice a n cap:=by
 rcases h.2 with⟨hv,hn⟩|⟨g,cap,_,hv,_⟩
 .exact⟨none,0,by rw[hv,hn]⟩
 .exact⟨_,cap,hv⟩
theorem vZ{w:World}{base size n:Nat}{e:TypeId}{v:Value}{xs:List Value}(h:w.ownsRow base e size v n xs)(hn:0<n) :
  ∃ g cap,v = .slice (some ⟨g,0,none⟩) n cap/\base<=g/\g<w.heap.size/\∀ j,j<n*size->w.cell? ⟨g,j,none⟩=xs[j]? := by
 have xB:=h.lt;rcases h.2 with⟨_,h0⟩|⟨g,cap,cur,hv,hg,hh,_,_,_,ht⟩
 .omega
 .subst hv;exact⟨g,cap,rfl,hg,(xB g rfl).2,fun j hj=>h.cellAt j hj⟩
theorem GU{P:Program}{c:Code}{Q:Exit->Act->World->Prop}{a:Act}{w:World}(h:∀ W,W=w->Code.wp P c Q a W):Code.wp P c Q a w:=h w rfl
theorem vB{P:Program}{f:FuncId}{args:Array Value}{R:Ending->World->Prop}{w:World}(h:∀ W,W=w->Calls P f args W R):Calls P f args w R:=h w rfl
theorem kI{P:Program}{ops:Array Oper}{Q:Exit->Act->World->Prop}{l:List Oper}{a:Act}{w:World}(h:∀ W,W=w->wpList P ops Q l a W):wpList P ops Q l a w:=h w rfl
theorem below_drewN{B:Nat}{a w:World}(h:Below B a w)(n:Nat):Below B a (w.drewN n):=⟨h.os,h.tape,h.output,h.size,h.block⟩
theorem xk(w:World)(a b:Addr)(v:Value):(w.setCell a v).cell? b=if a=b then (w.cell? b).map (fun _=>v) else w.cell? b:=by
 split
 next h =>
  subst h
  cases hc:w.cell? a with
  | some u =>
   rw[World.cell?_setCell_same (h:=hc)];rfl
  | none =>
   cases hd:(w.setCell a v).cell? a with
   | none=>rfl
   | some u =>
    exfalso;unfold World.cell? World.setCell at hd;unfold World.cell? at hc;simp only[Array.getElem?_modify,if_true] at hd
    cases hh:w.heap[a.block]? with
    | none=>simp[hh] at hd
    | some o =>
     simp only[hh] at hc;simp only[hh,Option.map_some] at hd
     cases o<;>simp_all
 next h=>exact World.cell?_setCell_other (h:=h) ..
theorem addr_add(a:Addr)(j:Nat):(a.add j).block=a.block:=by
 unfold Addr.add;split<;>rfl
theorem uR(g j:Nat):(⟨g,0,none⟩:Addr).add j=⟨g,j,none⟩:=by
 unfold Addr.add;split
 .simp_all
 .simp
theorem xu(w:World)(c:Array Value)(t:TypeId)(fr:Nat×Nat)(i:Nat):(w.alloc (.cells c t fr)).cell? ⟨w.heap.size,i,none⟩=c[i]? := by
 show(match (w.heap.push (.cells c t fr))[w.heap.size]? with|some (.cells c _ _)=>c[i]? | _=>none)=_;simp
abbrev Wd:=List UInt8
end Go.Proofs.YthpldolmpinnhaaGreatDoor
