import Derived.Test.YtfcemhlpdcnckaaGreatDoorJG0
import Derived.Deep.DeepAppendRoom
import Derived.Deep.DeepWitnessRowRef
import Derived.Deep.RegionHeld3
import Derived.LaidHandle
import Derived.Laws.AppendOwnNone
import Derived.Laws.EntriesVeiled
import Derived.Lib.BytesEntry
import Derived.Lib.SmallJoins
import Derived.PinnedBridge
import Derived.StillTailTactics
import Derived.Stop.Asserts
import Derived.WalkLawsBesides
import Derived.WalkSpells
import Derived.BigQuiet
import Derived.Deep.QuietTactic
import Derived.Lib.Hide
import Derived.Test.YtfcemhlpdcnckaaGreatDoorProg
import Derived.WalkKit
set_option linter.defProp false
open Go renaming Addr->yi,Calls->zE,Ending->gG,Oper->fG,Program->Me,TypeId->uP,Value->zx,World->z7,wpAnyH->Bw,yielded->Bh
open Go.Addr renaming add->xM
open Go.AllReadyH renaming cons->uv,nil->Ye
open Array renaming getElem?_modify->Zt,replicate->uJ
open Go.RowKit renaming Below->yX
open Bool renaming and_eq_true->zQ,eq_iff_iff->vF,not_eq_true->ZB
open ByteArray renaming data_append->Hp,ext->Gg,mk->jW
open Go.Code renaming region->Kl
open Go.Ending renaming returned->UK
open List renaming all_append->ie,getElem_mem->xd,length_cons->zm,take_of_length_le->xJ,take_succ_eq_append_getElem->zr
open Nat renaming add_assoc->jo,le_refl->X,le_trans->zZ,mul_le_mul->Gf
open Go.Oper renaming wp->XM
open Option renaming map_some->MH
open Go.Region renaming Mode->jx,noSelect->ux,ready->vD,wanted->kg
open UInt8 renaming ofNat->yW,toNat_inj->Ul
open Go.World renaming cell?->ze7,cell?_setCell_other->yx,cell?_setCell_same->uk,setCell->xW
namespace Go.Proofs.YtfcemhlpdcnckaaGreatDoor
open Go Go.RowKit
set_option maxRecDepth 10000
def yn(c:UInt8):Bool:=48<=c && c<=57
def dE{a b:zx}(h:a=b):UK a = .returned b:=by rw[h]
def getElem_toList(s:ByteArray)(k:Nat)(h:k<s.size):s.data.toList[k]'(by simpa using h)=s[k]:=by
 simp[ByteArray.getElem_eq_getElem_data]
def yz(s:ByteArray):s.data.toList.length=s.size:=by simp
def Vu(s:ByteArray):s.data.toList.take s.size=s.data.toList:=xJ (by simp)
def Vh(s:ByteArray)(k:Nat)(h:k<s.size):s.data.toList.take (k+1)=s.data.toList.take k++[s[k]]:=by
 rw[zr (by simpa using h),getElem_toList s k h]
def xe(c:UInt8):yn c=true ↔ (48:Int)<=(c.toNat:Int)/\(c.toNat:Int)<=57:=by
 simp[yn,UInt8.le_iff_toNat_le];omega
def Mr(c:UInt8):yn c=false ↔ ((c.toNat:Int)<48\/(57:Int)<(c.toNat:Int)):=by
 rw[<-ZB,xe];omega
def Fe{p:UInt8->Bool}{l:List UInt8}{c:UInt8}(h:l.all p=true)(hc:p c=true):(l++[c]).all p=true:=by
 simp[ie,h,hc]
def Qa{p:UInt8->Bool}(s:ByteArray)(k:Nat)(hk:k<s.size)(hc:p s[k]=false):s.data.toList.all p=false:=by
 rw[List.all_eq_false];exact⟨s[k],by rw[<-getElem_toList s k hk];exact xd _,by simp[hc]⟩
def isEmpty_toList(s:ByteArray):s.data.toList.isEmpty=decide (s.size=0):=by
 rw[vF,List.isEmpty_iff_length_eq_zero];simp
def extract_eq(s:ByteArray)(a b:Nat):s.extract a b=⟨((s.data.toList.drop a).take (b - a)).toArray⟩:=by
 apply Gg;apply Array.ext';simp[ByteArray.data_extract]
def kT(s:ByteArray)(b:Nat):s.extract 0 b=⟨(s.data.toList.take b).toArray⟩:=by
 rw[extract_eq];simp
def ub(s:ByteArray)(a:Nat):s.extract a s.size=⟨(s.data.toList.drop a).toArray⟩:=by
 rw[extract_eq,xJ (by simp)]
def vZ(a b:UInt8):((a.toNat:Int)==(b.toNat:Int))=decide (a=b):=by
 rw[vF,beq_iff_eq,decide_eq_true_eq];constructor
 .intro h;exact Ul.1 (by omega)
 .intro h;rw[h]
def Yd(d:Nat):UInt8:=yW (48+d)
def Vq(d:Nat)(h:d<10):(jW #[48,49,50,51,52,53,54,55,56,57]).extract d (d+1)=⟨[Yd d].toArray⟩:=by
 match d,h with
 | 0,_=>rfl
 | 1,_=>rfl
 | 2,_=>rfl
 | 3,_=>rfl
 | 4,_=>rfl
 | 5,_=>rfl
 | 6,_=>rfl
 | 7,_=>rfl
 | 8,_=>rfl
 | 9,_=>rfl
def xv(n:Nat):List UInt8:=if n<10 then [Yd n]else xv (n / 10)++[Yd (n % 10)]
 termination_by n
 decreasing_by omega
def qx{n:Nat}(h:n<10):xv n=[Yd n]:=by rw[xv,if_pos h]
def dR{n:Nat}(h:¬n<10):xv n=xv (n / 10)++[Yd (n % 10)]:=by rw[xv,if_neg h]
def ZS(n:Nat):(xv n).length<=n+1:=by
 induction n using Nat.strongRecOn with
 |_ n ih =>
  by_cases h:n<10
  .rw[qx h];simp
  .rw[dR h];have:=ih (n / 10) (by omega);simp;omega
def size_mk(l:List UInt8):(ByteArray.mk l.toArray).size=l.length:=by simp[ByteArray.size]
def Vw(s:ByteArray):ByteArray.mk s.data.toList.toArray=s:=by simp
def toList_mk(l:List UInt8):(ByteArray.mk l.toArray).data.toList=l:=by simp
def Kh(a b:List UInt8):jW a.toArray++jW b.toArray=jW (a++b).toArray:=by
 apply Gg;simp[Hp]
def append_eq(s t:ByteArray):s++t=jW (s.data.toList++t.data.toList).toArray:=by
 apply Gg;simp[Hp]
structure bH(P:Me)(t e:uP)(z:zx)(size bytes:Nat):Prop where
 under:P.underlying t=some (.slice e)
 info:∃i,P.info? e=some i/\i.zero=some z/\i.size=size/\i.bytes=bytes
 UL:z.cells.size=size
 pos:0<size
 small:bytes<=4096
def vY{P:Me}{t e:uP}{z:zx}{size bytes:Nat}(E:bH P t e z size bytes){w:z7}{ops:Array fG}{rest:List fG}{o:fG}{a:Act}{Q:Exit->Act->z7->Prop}
  (hgd:o.guard=none) (s x:Operand) (ho:o.op = .call { callee := .builtin .append,args:=#[s,x],argTypes:=#[t,t] })
  (base:Nat) (v:zx) (n:Nat) (xs:List zx) (hs:a.eval s=v) (uT:w.ownsRow base e size v n xs)
  (ad:yi) (m c:Nat) (news:List zx) (hx:a.eval x = .slice (some ad) m c) (hl:news.length=m*size) (Ms:∀j u,news[j]? = some u->w.cell? (ad.add j)=some u) (h1:∀u∈news,u.oneCell'=true)
  (h31:n+m<=2147483648) (Mt:base<=w.heap.size)
  (h:∀v' w',w'.ownsRow base e size v' (n+m) (xs++news)->w.grownBy w' v.ownBlock->wpList P ops Q rest (a.put o.dst v') w'):wpList P ops Q (o::rest) a w:=by
 obtain⟨i,hi,hz,h2,h3⟩:=E.info;have dS:=E.small;refine wpList_append_own w hgd s x t ho base e i z size bytes E.under hi hz h2 h3 E.UL E.pos v n xs hs uT ad m c news hx hl Ms h1 (by unfold maxLen;omega) ?_ Mt (λv' w' a b _=>h v' w' a b);exact zZ (Gf h31 dS) (by decide)
def cells_one{w:z7}{b:Nat}{u:zx}(h:w.cell? ⟨b,0,none⟩=some u):∀j x,[u][j]? = some x->w.cell? ((⟨b,0,none⟩:yi).add j)=some x:=by
 intro j x hx;match j,hx with
 | 0,hx=>simp at hx;subst hx;exact h
def uN:bH Tryz.prog 22 9 (.string ⟨#[]⟩) 1 16 :=
 ⟨Tryz.underlying22,info_parts (by kernel_rfl),rfl,by decide,by decide⟩
abbrev zv(l:List UInt8):zx := .string ⟨l.toArray⟩
def PA(w:z7)(row:Option Nat):w.grownBy w row:=⟨rfl,rfl,rfl,X _,λ_ _ _=>rfl⟩
def zD{w:z7}{base size n:Nat}{e:uP}{v:zx}{xs:List zx}(h:w.ownsRow base e size v n xs):∃a cap,v = .slice a n cap:=by
 rcases h.2 with⟨hv,hn⟩|⟨g,cap,_,hv,_⟩
 .exact⟨none,0,by rw[hv,hn]⟩
 .exact⟨_,cap,hv⟩
def vK{w:z7}{base size n:Nat}{e:uP}{v:zx}{xs:List zx}(h:w.ownsRow base e size v n xs)(hn:0<n) :
  ∃g cap,v = .slice (some ⟨g,0,none⟩) n cap/\base<=g/\g<w.heap.size/\∀j,j<n*size->w.cell? ⟨g,j,none⟩=xs[j]? := by
 have ud:=h.lt;rcases h.2 with⟨_,h0⟩|⟨g,cap,cur,hv,hg,hh,_,_,_,ht⟩
 .omega
 .subst hv;exact⟨g,cap,rfl,hg,(ud g rfl).2,λj hj=>h.cellAt j hj⟩
def fP{P:Me}{c:Code}{Q:Exit->Act->z7->Prop}{a:Act}{w:z7}(h:∀W,W=w->Code.wp P c Q a W):Code.wp P c Q a w:=h w rfl
def yh{P:Me}{f:FuncId}{args:Array zx}{R:gG->z7->Prop}{w:z7}(h:∀W,W=w->zE P f args W R):zE P f args w R:=h w rfl
def uI{P:Me}{ops:Array fG}{Q:Exit->Act->z7->Prop}{l:List fG}{a:Act}{w:z7}(h:∀W,W=w->wpList P ops Q l a W):wpList P ops Q l a w:=h w rfl
def below_drewN{B:Nat}{a w:z7}(h:yX B a w)(n:Nat):yX B a (w.drewN n):=⟨h.os,h.tape,h.output,h.size,h.block⟩
def zN(w:z7)(a b:yi)(v:zx):(w.setCell a v).cell? b=if a=b then (w.cell? b).map (λ_=>v)else w.cell? b:=by
 split
 next h =>
  subst h
  cases hc:w.cell? a with
  |some u =>
   rw[uk (h:=hc)];rfl
  |none =>
   cases hd:(w.setCell a v).cell? a with
   |none=>rfl
   |some u =>
    exfalso;unfold ze7 xW at hd;unfold ze7 at hc;simp only[Zt,if_true]at hd
    cases hh:w.heap[a.block]? with
    |none=>simp[hh]at hd
    |some o =>
     simp only[hh]at hc;simp only[hh,MH]at hd
     cases o<;>simp_all
 next h=>exact yx (h:=h) ..
def addr_add(a:yi)(j:Nat):(a.add j).block=a.block:=by
 unfold xM;split<;>rfl
def vA(g j:Nat):(⟨g,0,none⟩:yi).add j=⟨g,j,none⟩:=by
 unfold xM;split
 .simp_all
 .simp
def zg(w:z7)(c:Array zx)(t:uP)(fr:Nat×Nat)(i:Nat):(w.alloc (.cells c t fr)).cell? ⟨w.heap.size,i,none⟩=c[i]? := by
 show(match (w.heap.push (.cells c t fr))[w.heap.size]? with|some (.cells c _ _)=>c[i]? |_=>none)=_;simp
abbrev Wd:=List UInt8
section
variable {P:Me} {ops:Array fG} {Q:Exit->Act->z7->Prop} {md:jx} {S:z7->Prop}
def Z3:List fG->Nat->Option fG
 |[],_=>none
 |o::_,0=>some o
 |_::l,n+1=>Z3 l n
def Yb:∀(l:List fG) (i:Nat),Z3 l i=l.toArray[i]?
 |[],i=>by simp[Z3]
 |o::l,0=>by simp[Z3]
 |o::l,n+1=>by simpa[Z3]using Yb l n
def takes(P:Me)(ops:Array fG)(S:z7->Prop)(K:Act->Prop):List Nat->Act->Prop
 |[],a=>K a
 |i::is,a=>∃o v,ops[i]? = some o/\YieldsIf P ops S o v a/\takes P ops S K is (a.put o.dst v)
def Yo(md:jx)(ops:Array fG):List Nat->Array Bool->Bool
 |[],_=>true
 |i::is,listed=>Region.free md ops listed i && (vD md ops listed).contains i && Yo md ops is (listed.setIfInBounds i true)
def gf(listed:Array Bool)(is:List Nat):Array Bool:=is.foldl (λl i=>l.setIfInBounds i true) listed
def jN{K:Act->Prop}{l:List fG}{i:Nat}{is:List Nat}{a:Act}{o:fG}{v:zx}(ho:Z3 l i=some o)(hw:kg o (Bh l.toArray a.tmps)=true)
  (hy:∀w,S w->(execOp a.eval o).run P w = .ok (.value v) w) (h:takes P l.toArray S K is (a.put o.dst v)):takes P l.toArray S K (i::is) a :=
 ⟨o,v,(Yb l i).symm.trans ho,.inl ⟨hw,hy⟩,h⟩
def dT{K:Act->Prop}{l:List fG}{i:Nat}{is:List Nat}{a:Act}{o:fG}(ho:Z3 l i=some o)(hw:kg o (Bh l.toArray a.tmps)=false)
  (h:takes P l.toArray S K is (a.put o.dst undef)):takes P l.toArray S K (i::is) a :=
 ⟨o,undef,(Yb l i).symm.trans ho,.inr ⟨hw,rfl⟩,h⟩
def yA{K:Act->Prop}{a:Act}(h:K a):takes P ops S K [] a:=h
def Yp(hQ:∀c a d v w,Q (.panic c) (a.put d v) w->Q (.panic c) a w)(hs:ux ops=true){w:z7}(hS:S w){fuel:Nat} :
  ∀(is:List Nat) (listed:Array Bool) (a:Act),Yo md ops is listed=true ->
   takes P ops S (λa'=>Bw P md ops Q S fuel (gf listed is) a' w) is a->Bw P md ops Q S (fuel+is.length) listed a w
 |[],_,_,_,h=>h
 |i::is,listed,a,hB,⟨o,v,ho,hy,h⟩=>by
  simp only[Yo,zQ]at hB;rw[zm,<-jo];exact wpAnyH_take ho hs hB.1.1 hB.1.2 (λc a w=>hQ c a o.dst v w) hy hS (Yp hQ hs hS is _ _ hB.2 h)
def xb{id:Nat}{l:List fG}{a:Act}{w:z7}(S:z7->Prop)(is:List Nat)(fuel:Nat)(hQ:∀c a d v w,Q (.panic c) (a.put d v) w->Q (.panic c) a w)
  (hm:P.follows .mixedOrders=true) (hn:(ux l.toArray && decide (l.length=fuel+is.length) && Yo .any l.toArray is (uJ l.toArray.size false))=true) (hS:S w.drew)
  (h:takes P l.toArray S (λa'=>Bw P .any l.toArray Q S fuel (gf (uJ l.toArray.size false) is) a' w.drew) is a):(Kl id l.toArray true).wp P Q a w:=by
 simp only[Bool.and_eq_true,decide_eq_true_eq]at hn;refine wp_region_held (S:=S) hm ?_;have h1:=Yp (Q:=Q) (md := .any) (ops:=l.toArray) hQ hn.1.1 hS is _ a hn.2 h;have h2:l.toArray.size=fuel+is.length:=by simpa using hn.1.2
 rw[h2];rw[h2]at h1;exact h1
def Mh{w:z7}(is:List Nat)(fuel:Nat){f:Nat}{listed:Array Bool}{a:Act}(hf:f=fuel+is.length)(hQ:∀c a d v w,Q (.panic c) (a.put d v) w->Q (.panic c) a w)
  (hs:ux ops=true) (hB:Yo md ops is listed=true) (hS:S w)
  (h:takes P ops S (λa'=>Bw P md ops Q S fuel (gf listed is) a' w) is a):Bw P md ops Q S f listed a w:=by
 subst hf;exact Yp hQ hs hS is listed a hB h
def Mw{l:List fG}{w:z7}(i:Nat){fuel:Nat}{listed:Array Bool}{a:Act}{o:fG}(hr:vD md l.toArray listed=[i])(ho:Z3 l i=some o)
  (h:∀K':Act->z7->Prop,Shut (∀a w,S w->(S w->Bw P md l.toArray Q S fuel (listed.setIfInBounds i true) a w)->K' a w)->if kg o (Bh l.toArray a.tmps)=true then XM P o a w K' Q else K' (a.put o.dst undef) w) :
  Bw P md l.toArray Q S (fuel+1) listed a w :=
 wpAnyH_ready hr (by simp) (uv ((Yb l i).symm.trans ho) h Ye)
end
end Go.Proofs.YtfcemhlpdcnckaaGreatDoor
