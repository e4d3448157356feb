import Derived.Test.YtpggmjffejgakaaGreatDoorJG0
import Derived.Deep.DeepAppendRoom
import Derived.Deep.DeepWitnessRowRef
import Derived.Deep.RegionHeld3
import Derived.LaidHandle
import Derived.Laws.EntriesVeiled
import Derived.Lib.AppendZerosOnto
import Derived.Lib.BytesEntry
import Derived.Lib.SlBytesRow
import Derived.Lib.SmallJoins
import Derived.PinnedBridge
import Derived.StillTailTactics
import Derived.Stop.Asserts
import Derived.WalkLawsBesides
import Derived.WalkSpells
import Derived.BigQuiet
import Derived.Deep.QuietTactic
import Derived.Lib.Hide
import Derived.Test.YtpggmjffejgakaaGreatDoorProg
import Derived.WalkKit
import Derived.Maps.AppendAt
import Derived.OneCell
import Derived.IntWalk
import Derived.Deep.LoopGhost
import Derived.Laws.Cover4
import Derived.WalkMore
import Derived.OwnWalk
import Derived.Maps.OwnSet
import Derived.Maps.Views
import Derived.Deep.DeepCutAuto
set_option linter.defProp false
set_option maxHeartbeats 64000000
open Go renaming Addr->yM,Calls->zC,Ending->xU,Oper->jk,Program->VI,TypeId->xm,World->z8,bodyPost_ret->yK,getD_set_ne->OT,plainElem_int->bK,ready_mono->xvf,results->yN,run_convert_runes->xj7,undef->eh,wpAnyH->Ua,wpAnyH_ready->ep,wpList->Ek,yielded->VN
open Go.Addr renaming add->bW,block->qd
open Go.AllReadyH renaming cons->vo,nil->Zq
open Array renaming getElem?_eq_none->Zu,getElem?_eq_some_iff->yO,getElem?_modify->vp,getElem?_toList->jA,replicate->xl,setIfInBounds_comm->OZ
open Go.RowKit renaming Below->yD
open Go.RowKit.Below renaming heap_setCell->yZ,refl->zv
open Bool renaming and_eq_true->zx,eq_iff_iff->xO,false_eq_true->Vx,false_ne_true->zzy,not_eq_true->VG,not_eq_true'->qu,or_assoc->OW,or_eq_true->vR
open Go.Builtin renaming append_->Vv
open ByteArray renaming data_append->LV,empty->Y5,ext->Qv,mk->vO
open Classical renaming byContradiction->yu
open Go.Code renaming region->Vz
open Go.Conv renaming runesFrom->V9
open Go.DataW.lit renaming injEq->EI
open Go.DataW renaming map->yf8
open Go.Instr renaming lookup->TZ
open Go.IntKind renaming bits->Ob,i64->vH,signed->Ey,wrap->yf7
open Go.Lib renaming decFrom->yf9,hid->Z
open List renaming all_append->uJ,all_cons->vh,all_eq_true->zi,drop_eq_getElem_cons->yY,drop_of_length_le->yI,eq_nil_of_length_eq_zero->zN,flatMap_cons->zh,foldl_cons->vB,getD_eq_getElem?_getD->ze,getElem?_drop->TR,getElem?_eq_getElem->zk,getElem?_eq_none->qT,getElem?_take->OY,getElem_mem->yf,length->xD,length_append->zy,length_cons->zY,length_drop->yh,length_nil->yF,length_take->uK,map_cons->vE,map_nil->zpd,map_toArray->JA,mem_append->zS,mem_iff_getElem->ql,mem_map->uQ,mem_range->Y0,mem_singleton->zJ,nil_append->xK,range->xB,setIfInBounds_toArray->QL,takeWhile_cons_of_neg->dU,takeWhile_cons_of_pos->vZ,take_length->fE,take_of_length_le->yr,take_succ_eq_append_getElem->yj
open Go.Lit.int renaming injEq->yzy
open Go.Maps renaming atKey_put_other->dT,atKey_put_same->UW,has_put_other->Od,has_put_same->QI,string_keyed->xE
open Nat renaming add_assoc->kh,add_mul->ki,le_add_right->bA,le_refl->Y,le_trans->zj,lt_of_lt_of_le->zD,lt_or_ge->uM,lt_succ_self->dQ,mul_comm->dY,mul_le_mul->Z2,mul_le_mul_right->qp,zero_add->uE,zero_le->zQ
open Go.Oper renaming wp->kd
open Option renaming getD_some->Ex,map_some->QM
open Prod.mk renaming injEq->Hi
open Go.Region renaming Mode->kG,binds->Vy,free->xvg,noSelect->vX,ready->vU,wanted->qC
open Go.Result renaming andThen->ym,andThen_ok->Xg
open Go.Sem renaming run_bind->js,run_pure->wj
open UInt8 renaming ofNat->uC,toNat_inj->dW
open Go.Utf8 renaming encode->Y1,runeError->Tb,valid->Dz
open Go.Value renaming bool->gI,int->yb,ownBlock->yl,slice->vL
open Go.WideAt renaming IsKeyLit->kJ
open Go.WideMaps renaming keyOf_string_mk->xu
open Go.World renaming block_lt_of_cell?->X,cell?->Fu,cell?_alloc_lt->zc,cell?_of_block->yE,cell?_setCell_other->yC,cell?_setCell_same->uX,frozen?_of_block->zV,frozen?_setCell->zO,ownsMap_made->Hl,ownsRow_nil->xx,setCell->xg
open Go.Proofs.Tryz
namespace Go.Proofs.YtpggmjffejgakaaGreatDoor
open Go Go.RowKit
set_option maxRecDepth 10000
def yG(c:UInt8):Bool:=48<=c && c<=57
def LF{a b:Value}(h:a=b):Ending.returned a = .returned b:=by rw[h]
def getElem_toList(s:ByteArray)(k:Nat)(h:k<s.size):s.data.toList[k]'(by simpa using h)=s[k]:=by
 simp[ByteArray.getElem_eq_getElem_data]
def vG(s:ByteArray):s.data.toList.length=s.size:=by simp
def DL(s:ByteArray):s.data.toList.take s.size=s.data.toList:=yr (by simp)
def Ho(s:ByteArray)(k:Nat)(h:k<s.size):s.data.toList.take (k+1)=s.data.toList.take k++[s[k]]:=by
 rw[yj (by simpa using h),getElem_toList s k h]
def xr(c:UInt8):yG c=true ↔ (48:Int)<=(c.toNat:Int)/\(c.toNat:Int)<=57:=by
 simp[yG,UInt8.le_iff_toNat_le];omega
def Oi(c:UInt8):yG c=false ↔ ((c.toNat:Int)<48\/(57:Int)<(c.toNat:Int)):=by
 rw[<-VG,xr];omega
def zzd{p:UInt8->Bool}{l:List UInt8}{c:UInt8}(h:l.all p=true)(hc:p c=true):(l++[c]).all p=true:=by
 simp[uJ,h,hc]
def LD{p:UInt8->Bool}(s:ByteArray)(k:Nat)(hk:k<s.size)(hc:p s[k]=false):s.data.toList.all p=false:=by
 rw[List.all_eq_false];exact⟨s[k],by rw[<-getElem_toList s k hk];exact yf _,by simp[hc]⟩
def extract_eq(s:ByteArray)(a b:Nat):s.extract a b=⟨((s.data.toList.drop a).take (b - a)).toArray⟩:=by
 apply Qv;apply Array.ext';simp[ByteArray.data_extract]
def fH(s:ByteArray)(b:Nat):s.extract 0 b=⟨(s.data.toList.take b).toArray⟩:=by
 rw[extract_eq];simp
def fI(s:ByteArray)(a:Nat):s.extract a s.size=⟨(s.data.toList.drop a).toArray⟩:=by
 rw[extract_eq,yr (by simp)]
def YO(a b:UInt8):((a.toNat:Int)==(b.toNat:Int))=decide (a=b):=by
 rw[xO,beq_iff_eq,decide_eq_true_eq];constructor
 .intro h;exact dW.1 (by omega)
 .intro h;rw[h]
def kH(d:Nat):UInt8:=uC (48+d)
def xd(n:Nat):List UInt8:=if n<10 then [kH n]else xd (n / 10)++[kH (n % 10)]
 termination_by n
 decreasing_by omega
def qq{n:Nat}(h:n<10):xd n=[kH n]:=by rw[xd,if_pos h]
def fL{n:Nat}(h:¬n<10):xd n=xd (n / 10)++[kH (n % 10)]:=by rw[xd,if_neg h]
def Ol(n:Nat):(xd n).length<=n+1:=by
 induction n using Nat.strongRecOn with
 |_ n ih =>
  by_cases h:n<10
  .rw[qq h];simp
  .rw[fL h];have:=ih (n / 10) (by omega);simp;omega
def size_mk(l:List UInt8):(ByteArray.mk l.toArray).size=l.length:=by simp[ByteArray.size]
def oU(s:ByteArray):ByteArray.mk s.data.toList.toArray=s:=by simp
def toList_mk(l:List UInt8):(ByteArray.mk l.toArray).data.toList=l:=by simp
def Jr(a b:List UInt8):vO a.toArray++vO b.toArray=vO (a++b).toArray:=by
 apply Qv;simp[LV]
def append_eq(s t:ByteArray):s++t=vO (s.data.toList++t.data.toList).toArray:=by
 apply Qv;simp[LV]
structure Y7(P:VI)(t e:xm)(z:Value)(size bytes:Nat):Prop where
 under:P.underlying t=some (.slice e)
 info:∃i,P.info? e=some i/\i.zero=some z/\i.size=size/\i.bytes=bytes
 Qg:z.cells.size=size
 pos:0<size
 small:bytes<=4096
def j9{P:VI}{t e:xm}{z:Value}{size bytes:Nat}(E:Y7 P t e z size bytes){w:z8}{ops:Array jk}{rest:List jk}{o:jk}{a:Act}{Q:Exit->Act->z8->Prop}
  (hgd:o.guard=none) (s x:Operand) (ho:o.op = .call { callee := .builtin .append,args:=#[s,x],argTypes:=#[t,t] })
  (base:Nat) (v:Value) (n:Nat) (xs:List Value) (hs:a.eval s=v) (uT:w.ownsRow base e size v n xs)
  (ad:yM) (m c:Nat) (news:List Value) (hx:a.eval x = .slice (some ad) m c) (hl:news.length=m*size) (Om:∀j u,news[j]? = some u->w.cell? (ad.add j)=some u) (h1:∀u∈news,u.oneCell'=true)
  (h31:n+m<=2147483648) (On:base<=w.heap.size)
  (h:∀v' w',w'.ownsRow base e size v' (n+m) (xs++news)->w.grownBy w' v.ownBlock->Ek P ops Q rest (a.put o.dst v') w'):Ek P ops Q (o::rest) a w:=by
 obtain⟨i,hi,hz,h2,h3⟩:=E.info;have Oo:=E.small;refine wpList_append_own w hgd s x t ho base e i z size bytes E.under hi hz h2 h3 E.Qg E.pos v n xs hs uT ad m c news hx hl Om h1 (by unfold maxLen;omega) ?_ On (λv' w' a b _=>h v' w' a b);exact zj (Z2 h31 Oo) (by decide)
def cells_one{w:z8}{b:Nat}{u:Value}(h:w.cell? ⟨b,0,none⟩=some u):∀j x,[u][j]? = some x->w.cell? ((⟨b,0,none⟩:yM).add j)=some x:=by
 intro j x hx;match j,hx with
 | 0,hx=>simp at hx;subst hx;exact h
def fY:Y7 prog 22 9 (.string ⟨#[]⟩) 1 16 :=
 ⟨underlying22,info_parts (by kernel_rfl),rfl,by decide,by decide⟩
abbrev zM(l:List UInt8):Value := .string ⟨l.toArray⟩
def Ta(w:z8)(row:Option Nat):w.grownBy w row:=⟨rfl,rfl,rfl,Y _,λ_ _ _=>rfl⟩
def zn{w:z8}{base size n:Nat}{e:xm}{v:Value}{xs:List Value}(h:w.ownsRow base e size v n xs):∃a cap,v = .slice a n cap:=by
 rcases h.2 with⟨hv,hn⟩|⟨g,cap,_,hv,_⟩
 .exact⟨none,0,by rw[hv,hn]⟩
 .exact⟨_,cap,hv⟩
def xf{w:z8}{base size n:Nat}{e:xm}{v:Value}{xs:List Value}(h:w.ownsRow base e size v n xs)(hn:0<n) :
  ∃g cap,v = .slice (some ⟨g,0,none⟩) n cap/\base<=g/\g<w.heap.size/\∀j,j<n*size->w.cell? ⟨g,j,none⟩=xs[j]? := by
 have uo:=h.lt;rcases h.2 with⟨_,h0⟩|⟨g,cap,cur,hv,hg,hh,_,_,_,ht⟩
 .omega
 .subst hv;exact⟨g,cap,rfl,hg,(uo g rfl).2,λj hj=>h.cellAt j hj⟩
def Js{P:VI}{c:Code}{Q:Exit->Act->z8->Prop}{a:Act}{w:z8}(h:∀W,W=w->Code.wp P c Q a W):Code.wp P c Q a w:=h w rfl
def yo{P:VI}{f:FuncId}{args:Array Value}{R:xU->z8->Prop}{w:z8}(h:∀W,W=w->zC P f args W R):zC P f args w R:=h w rfl
def gQ{P:VI}{ops:Array jk}{Q:Exit->Act->z8->Prop}{l:List jk}{a:Act}{w:z8}(h:∀W,W=w->Ek P ops Q l a W):Ek P ops Q l a w:=h w rfl
def below_drewN{B:Nat}{a w:z8}(h:yD B a w)(n:Nat):yD B a (w.drewN n):=⟨h.os,h.tape,h.output,h.size,h.block⟩
def zo(w:z8)(a b:yM)(v:Value):(w.setCell a v).cell? b=if a=b then (w.cell? b).map (λ_=>v)else w.cell? b:=by
 split
 next h =>
  subst h
  cases hc:w.cell? a with
  |some u =>
   rw[uX (h:=hc)];rfl
  |none =>
   cases hd:(w.setCell a v).cell? a with
   |none=>rfl
   |some u =>
    exfalso;unfold Fu xg at hd;unfold Fu at hc;simp only[vp,if_true]at hd
    cases hh:w.heap[a.block]? with
    |none=>simp[hh]at hd
    |some o =>
     simp only[hh]at hc;simp only[hh,QM]at hd
     cases o<;>simp_all
 next h=>exact yC (h:=h) ..
def addr_add(a:yM)(j:Nat):(a.add j).block=a.block:=by
 unfold bW;split<;>rfl
def vS(g j:Nat):(⟨g,0,none⟩:yM).add j=⟨g,j,none⟩:=by
 unfold bW;split
 .simp_all
 .simp
def zf(w:z8)(c:Array Value)(t:xm)(fr:Nat×Nat)(i:Nat):(w.alloc (.cells c t fr)).cell? ⟨w.heap.size,i,none⟩=c[i]? := by
 show(match (w.heap.push (.cells c t fr))[w.heap.size]? with|some (.cells c _ _)=>c[i]? |_=>none)=_;simp
abbrev Wd:=List UInt8
section
variable {P:VI} {ops:Array jk} {Q:Exit->Act->z8->Prop} {md:kG} {S:z8->Prop}
def ZC:List jk->Nat->Option jk
 |[],_=>none
 |o::_,0=>some o
 |_::l,n+1=>ZC l n
def YP:∀(l:List jk) (i:Nat),ZC l i=l.toArray[i]?
 |[],i=>by simp[ZC]
 |o::l,0=>by simp[ZC]
 |o::l,n+1=>by simpa[ZC]using YP l n
def takes(P:VI)(ops:Array jk)(S:z8->Prop)(K:Act->Prop):List Nat->Act->Prop
 |[],a=>K a
 |i::is,a=>∃o v,ops[i]? = some o/\YieldsIf P ops S o v a/\takes P ops S K is (a.put o.dst v)
def Xb(md:kG)(ops:Array jk):List Nat->Array Bool->Bool
 |[],_=>true
 |i::is,listed=>xvg md ops listed i && (vU md ops listed).contains i && Xb md ops is (listed.setIfInBounds i true)
def jF(listed:Array Bool)(is:List Nat):Array Bool:=is.foldl (λl i=>l.setIfInBounds i true) listed
def Jt{K:Act->Prop}{l:List jk}{i:Nat}{is:List Nat}{a:Act}{o:jk}{v:Value}(ho:ZC l i=some o)(hw:qC o (VN l.toArray a.tmps)=true)
  (hy:∀w,S w->(execOp a.eval o).run P w = .ok (.value v) w) (h:takes P l.toArray S K is (a.put o.dst v)):takes P l.toArray S K (i::is) a :=
 ⟨o,v,(YP l i).symm.trans ho,.inl ⟨hw,hy⟩,h⟩
def zzb{K:Act->Prop}{l:List jk}{i:Nat}{is:List Nat}{a:Act}{o:jk}(ho:ZC l i=some o)(hw:qC o (VN l.toArray a.tmps)=false)
  (h:takes P l.toArray S K is (a.put o.dst eh)):takes P l.toArray S K (i::is) a :=
 ⟨o,eh,(YP l i).symm.trans ho,.inr ⟨hw,rfl⟩,h⟩
def yS{K:Act->Prop}{a:Act}(h:K a):takes P ops S K [] a:=h
def XZ(hQ:∀c a d v w,Q (.panic c) (a.put d v) w->Q (.panic c) a w)(hs:vX ops=true){w:z8}(hS:S w){fuel:Nat} :
  ∀(is:List Nat) (listed:Array Bool) (a:Act),Xb md ops is listed=true ->
   takes P ops S (λa'=>Ua P md ops Q S fuel (jF listed is) a' w) is a->Ua P md ops Q S (fuel+is.length) listed a w
 |[],_,_,_,h=>h
 |i::is,listed,a,hB,⟨o,v,ho,hy,h⟩=>by
  simp only[Xb,zx]at hB;rw[zY,<-kh];exact wpAnyH_take ho hs hB.1.1 hB.1.2 (λc a w=>hQ c a o.dst v w) hy hS (XZ hQ hs hS is _ _ hB.2 h)
def qs{id:Nat}{l:List jk}{a:Act}{w:z8}(S:z8->Prop)(is:List Nat)(fuel:Nat)(hQ:∀c a d v w,Q (.panic c) (a.put d v) w->Q (.panic c) a w)
  (hm:P.follows .mixedOrders=true) (hn:(vX l.toArray && decide (l.length=fuel+is.length) && Xb .any l.toArray is (xl l.toArray.size false))=true) (hS:S w.drew)
  (h:takes P l.toArray S (λa'=>Ua P .any l.toArray Q S fuel (jF (xl l.toArray.size false) is) a' w.drew) is a):(Vz id l.toArray true).wp P Q a w:=by
 simp only[Bool.and_eq_true,decide_eq_true_eq]at hn;refine wp_region_held (S:=S) hm ?_;have h1:=XZ (Q:=Q) (md := .any) (ops:=l.toArray) hQ hn.1.1 hS is _ a hn.2 h;have h2:l.toArray.size=fuel+is.length:=by simpa using hn.1.2
 rw[h2];rw[h2]at h1;exact h1
def Ot{w:z8}(is:List Nat)(fuel:Nat){f:Nat}{listed:Array Bool}{a:Act}(hf:f=fuel+is.length)(hQ:∀c a d v w,Q (.panic c) (a.put d v) w->Q (.panic c) a w)
  (hs:vX ops=true) (hB:Xb md ops is listed=true) (hS:S w)
  (h:takes P ops S (λa'=>Ua P md ops Q S fuel (jF listed is) a' w) is a):Ua P md ops Q S f listed a w:=by
 subst hf;exact XZ hQ hs hS is listed a hB h
def Oh{l:List jk}{w:z8}(i:Nat){fuel:Nat}{listed:Array Bool}{a:Act}{o:jk}(hr:vU md l.toArray listed=[i])(ho:ZC l i=some o)
  (h:∀K':Act->z8->Prop,Shut (∀a w,S w->(S w->Ua P md l.toArray Q S fuel (listed.setIfInBounds i true) a w)->K' a w)->if qC o (VN l.toArray a.tmps)=true then kd P o a w K' Q else K' (a.put o.dst eh) w) :
  Ua P md l.toArray Q S (fuel+1) listed a w :=
 ep hr (by simp) (vo ((YP l i).symm.trans ho) h Zq)
end
section
variable {P:VI} {ops:Array jk} {Q:Exit->Act->z8->Prop} {md:kG} {S:z8->Prop}
def Uc(md:kG)(ops:Array jk)(L:Array Bool):Prop :=
 ∀j oj,ops[j]? = some oj->L.getD j false=true->∀e∈oj.after,Vy md e=true->L.getD e.on false=true
def LB(md:kG)(ops:Array jk)(L:Array Bool):Bool :=
 (xB ops.size).all λj => !L.getD j false ||((ops[j]?).map (·.after.all λe => !Region.binds md e ||L.getD e.on false)).getD true
def KH{L:Array Bool}(h:LB md ops L=true):Uc md ops L:=by
 intro j oj hj hl e he hb;unfold LB at h;rw[zi]at h;have h1:=h j (Y0.2 (yO.1 hj).1);rw[hl,hj]at h1;simp only[Bool.not_true,Bool.false_or,QM,Ex,Array.all_eq_true]at h1;obtain⟨n,hn,rfl⟩:=Array.mem_iff_getElem.1 he;have h2:=h1 n hn;rw[hb]at h2;simpa using h2
def Uc.step{L:Array Bool}{j:Nat}(hc:Uc md ops L)(hj:j∈vU md ops L):Uc md ops (L.setIfInBounds j true):=by
 intro x ox hx hl e he hb;by_cases hxj:j=x
 .subst hxj;obtain⟨_,o,ho,LC⟩:=mem_ready.1 hj;rw[hx]at ho
  cases ho;exact getD_set_true (LC e he hb)
 .rw[OT false hxj]at hl;exact getD_set_true (hc x ox hx hl e he hb)
def waits(md:kG)(ops:Array jk)(i:Nat):Nat->Nat->Bool
 | 0,_=>false
 |n+1,k=>((ops[k]?).map (·.after.any λe=>Vy md e && (e.on==i ||waits md ops i n e.on))).getD false
def DM{L:Array Bool}(hc:Uc md ops L){i:Nat}:∀(n k:Nat),waits md ops i n k=true->L.getD k false=true->L.getD i false=true
 | 0,_,h,_=>by cases h
 |n+1,k,h,hl=>by
  rw[waits]at h
  cases ho:ops[k]? with
  |none=>rw[ho]at h;cases h
  |some o =>
   rw[ho]at h;simp only[QM,Ex,Array.any_eq_true]at h;obtain⟨m,hm,h2⟩:=h;simp only[zx,vR,beq_iff_eq]at h2;have h3:=hc k o ho hl o.after[m] (Array.getElem_mem hm) h2.1;rcases h2.2 with h4|h4
   .rw[h4]at h3;exact h3
   .exact DM hc n _ h4 h3
def qX(P:VI)(md:kG)(ops:Array jk)(Q:Exit->Act->z8->Prop)(S:z8->Prop)(k:Nat):Nat->Array Bool->Act->z8->Prop
 | 0,listed,a,w=>vU md ops listed=[]/\Q .normal a w
 |fuel+1,listed,a,w =>
  (vU md ops listed=[]->Q .normal a w) /\
  ∀i∈vU md ops listed,wpOp P ops Q i (λa' w'=>((listed.setIfInBounds i true).getD k false=false->S w')/\qX P md ops Q S k fuel (listed.setIfInBounds i true) a' w') a w
def QO{k:Nat}:∀(fuel:Nat) (listed:Array Bool) (a:Act) (w:z8),qX P md ops Q S k fuel listed a w->wpAny P md ops Q fuel listed a w
 | 0,_,_,_,h=>h
 |fuel+1,_,_,_,h=>⟨h.1,λi hi=>wpOp_mono (λa' w' h'=>QO fuel _ a' w' h'.2) (h.2 i hi)⟩
def KI{i k n:Nat}{oi:jk}{v:Value}(hi:ops[i]? = some oi)(oQ:∀(j:Nat) (o:jk) cs b,ops[j]? = some o->o.op ≠ .select cs b)
  (hQ:∀c a w,Q (.panic c) (a.put oi.dst v) w->Q (.panic c) a w) (hk:waits md ops i n k=true) (hki:k≠i) :
  ∀(fuel:Nat) (listed:Array Bool) (a:Act) (w:z8),
   (∀j oj,ops[j]? = some oj->j≠i->listed.getD j true=false->(∀e∈oj.after,Vy md e=true->e.on≠i)->oi.apart ops oj=true) ->
   i∈vU md ops listed->Uc md ops listed->YieldsIf P ops S oi v a->S w ->
   qX P md ops Q S k fuel (listed.setIfInBounds i true) (a.put oi.dst v) w->qX P md ops Q S k (fuel+1) listed a w:=by
 intro fuel;induction fuel with
 |zero =>
  intro listed a w _ hr _ hy hS H;refine⟨λh=>(by rw[h]at hr;cases hr),λj hj=>?_⟩;by_cases OK:j=i
  .subst OK;exact hy.wpOp hi hS ⟨λ_=>hS,H⟩
  .have:=xvf hj OK;rw[H.1]at this
   cases this
 |succ fuel ih =>
  intro listed a w yd1 hr hc hy hS H;refine⟨λh=>(by rw[h]at hr;cases hr),λj hj=>?_⟩;by_cases OK:j=i
  .subst OK;exact hy.wpOp hi hS ⟨λ_=>hS,H⟩
  .have h1:=H.2 j (xvf hj OK);obtain⟨xju,oj,hoj,LC⟩:=mem_ready.1 hj;have hi0:=(mem_ready.1 hr).1;have hi1:listed.getD i false=false:=by
    rcases uM i listed.size with h' |h'
    .simp[h']at hi0|-;exact hi0
    .simp[Zu h']
   have vqx:∀e∈oj.after,Vy md e=true->e.on≠i:=λe he hb heq=>by
    have h1:=LC e he hb;rw[heq,hi1]at h1
    cases h1
   have h2:=wpOp_putIf hoj (yd1 j oj hoj OK xju vqx) (λcs b=>oQ i oi cs b hi) (λcs b=>oQ j oj cs b hoj) hQ hy h1;have yi1:∀k ok,ops[k]? = some ok->k≠i->(listed.setIfInBounds j true).getD k true=false ->
     (∀e∈ok.after,Vy md e=true->e.on≠i)->oi.apart ops ok=true:=λk ok hk hki hun hno=>by
    refine yd1 k ok hk hki ?_ hno;by_cases hjk:j=k
    .subst hjk;exact xju
    .rw[OT true hjk]at hun;exact hun
   have hcj:=hc.step hj;have hun:(listed.setIfInBounds j true).getD k false=false:=by
    cases hq:(listed.setIfInBounds j true).getD k false with
    |false=>rfl
    |true =>
     have h3:=DM hcj n k hk hq;rw[OT false OK,hi1]at h3
     cases h3
   have xjk:((listed.setIfInBounds i true).setIfInBounds j true).getD k false=false:=by
    rw[OZ _ _ (Ne.symm OK),OT false (Ne.symm hki)];exact hun
   refine wpOp_mono (λa' w' h3=>⟨λ_=>h3.2.1 xjk,ih (listed.setIfInBounds j true) a' w' yi1 (xvf hr (Ne.symm OK)) hcj h3.1 (h3.2.1 xjk) ?_⟩) h2;rw[OZ _ _ OK];exact h3.2.2
def bJ(md:kG)(ops:Array jk)(k:Nat):List Nat->Array Bool->Bool
 |[],_=>true
 |i::is,listed=>xvg md ops listed i && (vU md ops listed).contains i && LB md ops listed && waits md ops i ops.size k && !(k==i) && bJ md ops k is (listed.setIfInBounds i true)
def XY{k:Nat}(hQ:∀c a d v w,Q (.panic c) (a.put d v) w->Q (.panic c) a w)(hs:vX ops=true){w:z8}(hS:S w){fuel:Nat} :
  ∀(is:List Nat) (listed:Array Bool) (a:Act),bJ md ops k is listed=true ->
   takes P ops S (λa'=>qX P md ops Q S k fuel (jF listed is) a' w) is a->qX P md ops Q S k (fuel+is.length) listed a w
 |[],_,_,_,h=>h
 |i::is,listed,a,hB,⟨o,v,ho,hy,h⟩=>by
  simp only[bJ,zx,qu,beq_eq_false_iff_ne]at hB;rw[zY,<-kh];exact KI ho (Region.noSelect_spec hs) (λc a w=>hQ c a o.dst v w) hB.1.1.2 hB.1.2 (fuel+is.length) listed a w (Region.free_spec ho hB.1.1.1.1.1) (by simpa using hB.1.1.1.1.2) (KH hB.1.1.1.2) hy hS (XY hQ hs hS is _ _ hB.2 h)
def Jh{id:Nat}{l:List jk}{a:Act}{w:z8}(S:z8->Prop)(k:Nat)(is:List Nat)(fuel:Nat)(hQ:∀c a d v w,Q (.panic c) (a.put d v) w->Q (.panic c) a w)
  (hm:P.follows .mixedOrders=true) (hn:(vX l.toArray && decide (l.length=fuel+is.length) && bJ .any l.toArray k is (xl l.toArray.size false))=true) (hS:S w.drew)
  (h:takes P l.toArray S (λa'=>qX P .any l.toArray Q S k fuel (jF (xl l.toArray.size false) is) a' w.drew) is a):(Vz id l.toArray true).wp P Q a w:=by
 simp only[Bool.and_eq_true,decide_eq_true_eq]at hn;refine wp_region_any hm (QO (S:=S) (k:=k) _ _ _ _ ?_);have h1:=XY (Q:=Q) (md := .any) (ops:=l.toArray) hQ hn.1.1 hS is _ a hn.2 h;have h2:l.toArray.size=fuel+is.length:=by simpa using hn.1.2
 rw[h2];rw[h2]at h1;exact h1
def jL{w:z8}{k:Nat}(is:List Nat)(fuel:Nat){f:Nat}{listed:Array Bool}{a:Act}(hf:f=fuel+is.length)(hQ:∀c a d v w,Q (.panic c) (a.put d v) w->Q (.panic c) a w)
  (hs:vX ops=true) (hB:bJ md ops k is listed=true) (hS:S w)
  (h:takes P ops S (λa'=>qX P md ops Q S k fuel (jF listed is) a' w) is a):qX P md ops Q S k f listed a w:=by
 subst hf;exact XY hQ hs hS is listed a hB h
def Ow{l:List jk}{w:z8}{k:Nat}(i:Nat){fuel:Nat}{listed:Array Bool}{a:Act}{o:jk}(hr:vU md l.toArray listed=[i])(ho:ZC l i=some o)
  (h:∀K':Act->z8->Prop,Shut (∀a w,S w->(S w->qX P md l.toArray Q S k fuel (listed.setIfInBounds i true) a w)->K' a w)->if qC o (VN l.toArray a.tmps)=true then kd P o a w K' Q else K' (a.put o.dst eh) w) :
  qX P md l.toArray Q S k (fuel+1) listed a w:=by
 refine⟨λh0=>(by rw[hr]at h0;cases h0),λj hj=>?_⟩;rw[hr,zJ]at hj;subst hj;exact wpOp_step ((YP l _).symm.trans ho) λK' hK=>h K' λa w h1 h2=>hK a w ⟨λ_=>h1,h2 h1⟩
def P0{l:List jk}{w:z8}{k:Nat}(i:Nat){fuel:Nat}{listed:Array Bool}{a:Act}{o:jk}(hr:vU md l.toArray listed=[i])(hk:(listed.setIfInBounds i true).getD k false=true)(ho:ZC l i=some o)
  (h:∀K':Act->z8->Prop,Shut (∀a w,qX P md l.toArray Q S k fuel (listed.setIfInBounds i true) a w->K' a w)->if qC o (VN l.toArray a.tmps)=true then kd P o a w K' Q else K' (a.put o.dst eh) w) :
  qX P md l.toArray Q S k (fuel+1) listed a w:=by
 refine⟨λh0=>(by rw[hr]at h0;cases h0),λj hj=>?_⟩;rw[hr,zJ]at hj;subst hj;exact wpOp_step ((YP l _).symm.trans ho) λK' hK=>h K' λa w h2=>hK a w ⟨λh1=>(by rw[hk]at h1;cases h1),h2⟩
def P4{k:Nat}{listed:Array Bool}{a:Act}{w:z8}(hr:vU md ops listed=[])(h:Q .normal a w) :
  ∀fuel,qX P md ops Q S k fuel listed a w
 | 0=>⟨hr,h⟩
 |_+1=>⟨λ_=>h,by rw[hr];simp⟩
end
structure xI(p:Nat)(w w':z8):Prop where
 os:w'.os=w.os
 tape:w'.tape=w.tape
 output:w'.output=w.output
 size:w.heap.size<=w'.heap.size
 block:∀k,k<w.heap.size->k≠p->w'.heap[k]? = w.heap[k]?
def xI.refl(p:Nat)(w:z8):xI p w w:=⟨rfl,rfl,rfl,Y _,λ_ _ _=>rfl⟩
def xI.trans{p:Nat}{a b c:z8}(h:xI p a b)(k:xI p b c):xI p a c :=
 ⟨k.os.trans h.os,k.tape.trans h.tape,k.output.trans h.output,zj h.size k.size,λi hi hp=>(k.block i (zD hi h.size) hp).trans (h.block i hi hp)⟩
def xI.of{p:Nat}{w w':z8}(h:yD w.heap.size w w'):xI p w w':=⟨h.os,h.tape,h.output,h.size,λk hk _=>h.block k hk⟩
def xI.below{p:Nat}{w w' Vk:z8}(h:xI p w w')(hb:yD w'.heap.size w' Vk):xI p w Vk:=h.trans (xI.of hb)
def xI.set(p:Nat)(w:z8)(j:Nat)(u:Value):xI p w (w.setCell ⟨p,j,none⟩ u) :=
 ⟨rfl,rfl,rfl,by simp[xg],λk _ hp=>yZ _ _ _ _ hp⟩
def xI.drew{p:Nat}{w w':z8}(h:xI p w w'):xI p w w'.drew:=⟨h.os,h.tape,h.output,h.size,h.block⟩
def xI.cell{p:Nat}{w w':z8}(h:xI p w w'){a:yM}{v:Value}(hc:w.cell? a=some v)(ha:a.block≠p):w'.cell? a=some v :=
 (yE (h.block a.block (X w a hc) ha)).trans hc
def xI.low{p lo:Nat}{w w':z8}(h:xI p w w')(hlo:lo<=p)(h2:lo<=w.heap.size):yD lo w w':=⟨h.os,h.tape,h.output,h.size,λk hk=>h.block k (by omega) (by omega)⟩
def xh(lo hi:Nat)(w W:z8):Prop:=hi<=W.heap.size/\∀k,lo<=k->k<hi->W.heap[k]? = w.heap[k]?
def xh.below{lo hi:Nat}{w W W':z8}(h:xh lo hi w W)(hb:yD W.heap.size W W'):xh lo hi w W' :=
 ⟨zj h.1 hb.size,λk h1 h2=>(hb.block k (zD h2 h.1)).trans (h.2 k h1 h2)⟩
def xh.cell{lo hi:Nat}{w W:z8}(h:xh lo hi w W){p:yM}(h1:lo<=p.block)(h2:p.block<hi):W.cell? p=w.cell? p:=yE (w:=w) (h.2 p.block h1 h2)
def xh.via{lo hi lo' hi':Nat}{w w' W:z8}(h:xh lo' hi' w' W)(hk:xh lo hi w w')(h1:lo'<=lo)(h2:hi<=hi'):xh lo hi w W :=
 ⟨zj h2 h.1,λk a b=>(h.2 k (by omega) (by omega)).trans (hk.2 k a b)⟩
def vK{lo hi:Nat}{w:z8}(h:hi<=w.heap.size):xh lo hi w w:=⟨h,λ_ _ _=>rfl⟩
def vu{lo hi B:Nat}{w w':z8}(h:yD B w w')(hb:hi<=B)(h2:hi<=w.heap.size):xh lo hi w w':=⟨zj h2 h.size,λk _ hk=>h.block k (by omega)⟩
def zy0{P:VI}{t e:xm}{z:Value}{size bytes:Nat}(E:Y7 P t e z size bytes){w:z8}{ops:Array jk}{rest:List jk}{o:jk}{a:Act}{Q:Exit->Act->z8->Prop}
  (hgd:o.guard=none) (s x:Operand) (ho:o.op = .call { callee := .builtin .append,args:=#[s,x],argTypes:=#[t,t] })
  (base:Nat) (v:Value) (n:Nat) (xs:List Value) (hs:a.eval s=v) (uT:w.ownsRow base e size v n xs)
  (ad:yM) (m c:Nat) (news:List Value) (hx:a.eval x = .slice (some ad) m c) (hl:news.length=m*size) (Om:∀j u,news[j]? = some u->w.cell? (ad.add j)=some u) (h1:∀u∈news,u.oneCell'=true)
  (h31:n+m<=2147483648) (On:base<=w.heap.size)
  (h:∀v' w',w'.ownsRow base e size v' (n+m) (xs++news)->w.grownBy w' v.ownBlock->(v'.ownBlock=v.ownBlock\/v'.ownBlock=some w.heap.size)->Ek P ops Q rest (a.put o.dst v') w'):Ek P ops Q (o::rest) a w:=by
 obtain⟨i,hi,hz,h2,h3⟩:=E.info;have Oo:=E.small;refine wpList_append_own_at w hgd s x t ho base e i z size bytes E.under hi hz h2 h3 E.Qg E.pos v n xs hs uT ad m c news hx hl Om h1 (by unfold maxLen;omega) ?_ On (λv' w' a b _ d=>h v' w' a b d);exact zj (Z2 h31 Oo) (by decide)
def qt:Y7 prog 85 3 (.int .i64 0) 1 8 :=
 ⟨underlying85,info_parts (by kernel_rfl),rfl,by decide,by decide⟩
def yi3{P:VI}{t e:xm}{z:Value}{size bytes:Nat}(E:Y7 P t e z size bytes){w:z8}{o:jk}{a:Act}{K:Act->z8->Prop}{Q:Exit->Act->z8->Prop}
  (s x:Operand) (ho:o.op = .call { callee := .builtin .append,args:=#[s,x],argTypes:=#[t,t] })
  (base:Nat) (v:Value) (n:Nat) (xs:List Value) (hs:a.eval s=v) (uT:w.ownsRow base e size v n xs)
  (ad:yM) (m c:Nat) (news:List Value) (hx:a.eval x = .slice (some ad) m c) (hl:news.length=m*size) (Om:∀j u,news[j]? = some u->w.cell? (ad.add j)=some u) (h1:∀u∈news,u.oneCell'=true)
  (h31:n+m<=2147483648) (On:base<=w.heap.size)
  (h:∀v' w',w'.ownsRow base e size v' (n+m) (xs++news)->w.grownBy w' v.ownBlock->(v'.ownBlock=v.ownBlock\/v'.ownBlock=some w.heap.size)->K (a.put o.dst v') w'):o.wp P a w K Q:=by
 obtain⟨i,hi,hz,h2,h3⟩:=E.info;have Oo:=E.small;obtain⟨v',w',hr,k2,k3,k4,k5⟩:=run_append_own_at (P:=P) w base t o.type e i z size bytes E.under hi hz h2 h3 E.Qg E.pos v n xs uT ad m c news hl Om h1 (by unfold maxLen;omega) (zj (Z2 h31 Oo) (by decide)) On;unfold kd execOp;simp only[ho,resolve,invoke,builtin,js,wj,Xg,JA,vE,zpd,hs,hx,hr];exact h v' w' k2 k3 k5
structure Fr(F F':Nat->Prop)(w w':z8):Prop where
 os:w'.os=w.os
 tape:w'.tape=w.tape
 output:w'.output=w.output
 size:w.heap.size<=w'.heap.size
 keep:∀k,k<w.heap.size->¬F k->w'.heap[k]? = w.heap[k]?
 fp:∀k,F' k->F k\/w.heap.size<=k
namespace Fr
variable {F F' F'' G:Nat->Prop} {w w' Vk:z8}
def refl(F:Nat->Prop)(w:z8):Fr F F w w:=⟨rfl,rfl,rfl,Y _,λ_ _ _=>rfl,λ_ h => .inl h⟩
def trans(h:Fr F F' w w')(k:Fr F' F'' w' Vk):Fr F F'' w Vk :=
 ⟨k.os.trans h.os,k.tape.trans h.tape,k.output.trans h.output,zj h.size k.size,
  λi hi hn=>(k.keep i (zD hi h.size) (λhf=>(h.fp i hf).elim hn (λq=>by omega))).trans (h.keep i hi hn),
  λi hi=>(k.fp i hi).elim (h.fp i) (λq => .inr (zj h.size q))⟩
def wide(h:Fr F F' w w')(hF:∀k,F k->G k):Fr G G w w':=⟨h.os,h.tape,h.output,h.size,λk hk hn=>h.keep k hk (λq=>hn (hF k q)),λ_ q => .inl q⟩
def tg(h:Fr F F' w w')(hF:∀k,F'' k->F k\/w.heap.size<=k):Fr F F'' w w':=⟨h.os,h.tape,h.output,h.size,h.keep,hF⟩
def of(h:yD w.heap.size w w'):Fr F F w w':=⟨h.os,h.tape,h.output,h.size,λk hk _=>h.block k hk,λ_ q => .inl q⟩
def below(h:Fr F F' w w')(hb:yD w'.heap.size w' Vk):Fr F F' w Vk:=h.trans (of hb)
def KL{B:Nat}(h:Fr F F' w w')(hb:yD B w' Vk)(hB:w.heap.size<=B):Fr F F' w Vk :=
 ⟨hb.os.trans h.os,hb.tape.trans h.tape,hb.output.trans h.output,zj h.size hb.size,λk hk hn=>(hb.block k (by omega)).trans (h.keep k hk hn),h.fp⟩
def und(h:Fr F F' w.drew w'):Fr F F' w w':=⟨h.os,h.tape,h.output,h.size,h.keep,h.fp⟩
def drew(h:Fr F F' w w'):Fr F F' w w'.drew:=⟨h.os,h.tape,h.output,h.size,h.keep,h.fp⟩
def alloc(h:Fr F F' w w')(o:Obj):Fr F F' w (w'.alloc o):=h.below ((zv _ _).alloc (Y _) _)
def set(h:Fr F F' w w'){a:yM}(u:Value)(ha:F a.block\/w.heap.size<=a.block):Fr F F' w (w'.setCell a u) :=
 ⟨h.os,h.tape,h.output,by simpa[xg]using h.size,λk hk hn=>(yZ _ _ _ _ (λq=>by rcases ha with e|e;exact hn (q▸e);omega)).trans (h.keep k hk hn),h.fp⟩
def grown{r:Option Nat}(h:Fr F F' w w')(hg:w'.grownBy Vk r)(hr:∀g,r=some g->F g\/w.heap.size<=g):Fr F F' w Vk :=
 ⟨hg.os.trans h.os,hg.tape.trans h.tape,hg.output.trans h.output,zj h.size hg.size,λk hk hn=>(hg.block k (zD hk h.size) (λe=>(hr k e.symm).elim hn (λq=>by omega))).trans (h.keep k hk hn),h.fp⟩
def cell(h:Fr F F' w w'){a:yM}{v:Value}(hc:w.cell? a=some v)(ha:¬F a.block):w'.cell? a=some v :=
 (yE (h.keep a.block (X w a hc) ha)).trans hc
def frozen(h:Fr F F' w w'){a:yM}(hl:a.block<w.heap.size)(ha:¬F a.block):w'.frozen? a=w.frozen? a:=zV (h.keep a.block hl ha)
def low{B:Nat}(h:Fr F F' w w')(hF:∀k,F k->B<=k)(hB:B<=w.heap.size):yD B w w':=⟨h.os,h.tape,h.output,h.size,λk hk=>h.keep k (by omega) (λq=>by have:=hF k q;omega)⟩
def own{base size n:Nat}{e:xm}{v:Value}{xs:List Value}(h:Fr F F' w w')(ho:w.ownsRow base e size v n xs)(hv:∀g,v.ownBlock=some g->¬F g):w'.ownsRow base e size v n xs:=by
 obtain⟨h1,h2⟩:=ho;refine⟨h1,?_⟩;rcases h2 with hn|⟨g,cap,cur,e1,e2,e3,e4⟩
 .exact .inl hn
 .exact .inr ⟨g,cap,cur,e1,e2,(h.keep g (yO.1 e3).1 (hv g (by rw[e1];rfl))).trans e3,e4⟩
end Fr
abbrev yH(_:Nat):Prop:=False
abbrev zH(v:Value)(k:Nat):Prop:=v.ownBlock=some k
def Fr.app{v v':Value}{w w':z8}(hg:w.grownBy w' v.ownBlock)(hw:v'.ownBlock=v.ownBlock\/v'.ownBlock=some w.heap.size):Fr (zH v) (zH v') w w' :=
 ⟨hg.os,hg.tape,hg.output,hg.size,λk hk hn=>hg.block k hk (λe=>hn e.symm),λk hk=>by
  rcases hw with e|e
  .exact .inl (e.symm.trans hk)
  .exact .inr (by rw[zH,e]at hk;cases hk;exact Y _)⟩
def uj{w:z8}{base size n:Nat}{e:xm}{v:Value}{xs:List Value}(h:w.ownsRow base e size v n xs){g:Nat}(hg:zH v g):g<w.heap.size:=(h.lt g hg).2
def yy{w:z8}{a:yM}{v:Value}(h:w.cell? a=some v)(o:Obj):(w.alloc o).cell? a=some v:=(zc _ _ _ (X w a h)).trans h
def uH{w:z8}{a b:yM}{v:Value}(h:w.cell? a=some v)(u:Value)(hn:b.block≠a.block):(w.setCell b u).cell? a=some v:=by rw[zo,if_neg (λe=>hn (by rw[e]))];exact h
def yw{w:z8}{a:yM}{v:Value}(h:w.cell? a=some v)(u:Value):(w.setCell a u).cell? a=some u:=by rw[zo,if_pos rfl,h];rfl
def KM{P:VI}{t e te:xm}{z:Value}{size bytes:Nat}(E:Y7 P t e z size bytes){w:z8}{ops:Array jk}{rest:List jk}{o:jk}{a:Act}{Q:Exit->Act->z8->Prop}
  (news:List Value) (m:Nat) {s x:Operand} {v:Value} {n:Nat} {xs:List Value} (uT:w.ownsRow 0 e size v n xs)
  (h31:n+m<=2147483648) (h:∀v' w',w'.ownsRow 0 e size v' (n+m) (xs++news)->Fr (zH v) (zH v') w w'->Ek P ops Q rest (a.put o.dst v') w')
  (hgd:o.guard=none:=by rfl) (ho:o.op = .call { callee := .builtin .append,args:=#[s,x],argTypes:=#[t,t] }:=by rfl) (hs:a.eval s=v:=by rfl) (hx:a.eval x = .slice (some ⟨w.heap.size,0,none⟩) m m:=by rfl)
  (hl:news.length=m*size:=by rfl) (h1:∀u∈news,u.oneCell'=true:=by simp[Value.oneCell']):wpList P ops Q (o::rest) a (w.alloc (.cells news.toArray te)):=by
 have hb:yD w.heap.size w (w.alloc (.cells news.toArray te)):=(zv _ _).alloc (Y _) _;refine zy0 E hgd s x ho 0 v n xs hs ((Fr.of hb (F:=λ_=>False)).own uT (λ_ _ q=>q)) _ m m news hx hl (λj u hu=>by rw[vS,zf];simpa using hu) h1 h31 (zQ _) (λv' w' ho hg hw=>h v' w' ho ?_);have uo:=uT.lt;refine⟨hg.os.trans hb.os,hg.tape.trans hb.tape,hg.output.trans hb.output,zj hb.size hg.size,λk hk hn=>(hg.block k (zD hk hb.size) (λe=>hn e.symm)).trans (hb.block k hk),λk hk=>?_⟩;rcases hw with e|e
 .exact .inl (e.symm.trans hk)
 .exact .inr (by rw[zH,e]at hk;cases hk;exact hb.size)
def jf{P:VI}{t e te:xm}{z:Value}{size bytes:Nat}(E:Y7 P t e z size bytes){w:z8}{o:jk}{a:Act}{K:Act->z8->Prop}{Q:Exit->Act->z8->Prop}
  (news:List Value) (m:Nat) {s x:Operand} {v:Value} {n:Nat} {xs:List Value} (uT:w.ownsRow 0 e size v n xs)
  (h31:n+m<=2147483648) (h:∀v' w',w'.ownsRow 0 e size v' (n+m) (xs++news)->Fr (zH v) (zH v') w w'->K (a.put o.dst v') w')
  (ho:o.op = .call { callee := .builtin .append,args:=#[s,x],argTypes:=#[t,t] }:=by rfl) (hs:a.eval s=v:=by rfl) (hx:a.eval x = .slice (some ⟨w.heap.size,0,none⟩) m m:=by rfl)
  (hl:news.length=m*size:=by rfl) (h1:∀u∈news,u.oneCell'=true:=by simp[Value.oneCell']):o.wp P a (w.alloc (.cells news.toArray te)) K Q:=by
 have hb:yD w.heap.size w (w.alloc (.cells news.toArray te)):=(zv _ _).alloc (Y _) _;refine yi3 E s x ho 0 v n xs hs ((Fr.of hb (F:=λ_=>False)).own uT (λ_ _ q=>q)) _ m m news hx hl (λj u hu=>by rw[vS,zf];simpa using hu) h1 h31 (zQ _) (λv' w' ho hg hw=>h v' w' ho ?_);refine⟨hg.os.trans hb.os,hg.tape.trans hb.tape,hg.output.trans hb.output,zj hb.size hg.size,λk hk hn=>(hg.block k (zD hk hb.size) (λe=>hn e.symm)).trans (hb.block k hk),λk hk=>?_⟩;rcases hw with e|e
 .exact .inl (e.symm.trans hk)
 .exact .inr (by rw[zH,e]at hk;cases hk;exact hb.size)
section
variable {P:VI} {ops:Array jk} {Q:Exit->Act->z8->Prop} {md:kG} {S:z8->Prop}
def ty{K:Act->Prop}{l:List jk}{i:Nat}{is:List Nat}{a:Act}{o:jk}{v:Value}(h:takes P l.toArray S K is (a.put o.dst v))(ho:ZC l i=some o:=by rfl)(hw:qC o (VN l.toArray a.tmps)=true:=by rfl)
  (hy:∀w,S w->(execOp a.eval o).run P w = .ok (.value v) w:=by intro w' hS';(try dsimp only at hS');go_simp;try(with_reducible rfl)):takes P l.toArray S K (i::is) a:=Jt ho hw hy h
def tn{K:Act->Prop}{l:List jk}{i:Nat}{is:List Nat}{a:Act}{o:jk}(h:takes P l.toArray S K is (a.put o.dst eh))(ho:ZC l i=some o:=by rfl)(hw:qC o (VN l.toArray a.tmps)=false:=by rfl):takes P l.toArray S K (i::is) a:=zzb ho hw h
end
section
variable {P:VI} {Q:Exit->Act->z8->Prop} {id:Nat} {l:List jk} {a:Act} {w:z8}
def rt(S:z8->Prop)(is:List Nat)(fuel:Nat)(hS:S w.drew)
  (h:takes P l.toArray S (λa'=>Ua P .any l.toArray Q S fuel (jF (xl l.toArray.size false) is) a' w.drew) is a)
  (hQ:∀c a d v w,Q (.panic c) (a.put d v) w->Q (.panic c) a w:=by intro _ _ d _ _ h;cases d<;>exact h) (hm:P.follows .mixedOrders=true:=by kernel_rfl)
  (hn:(vX l.toArray && decide (l.length=fuel+is.length) && Xb .any l.toArray is (xl l.toArray.size false))=true:=by kernel_rfl):(Vz id l.toArray true).wp P Q a w:=qs S is fuel hQ hm hn hS h
def rk(S:z8->Prop)(k:Nat)(is:List Nat)(fuel:Nat)(hS:S w.drew)
  (h:takes P l.toArray S (λa'=>qX P .any l.toArray Q S k fuel (jF (xl l.toArray.size false) is) a' w.drew) is a)
  (hQ:∀c a d v w,Q (.panic c) (a.put d v) w->Q (.panic c) a w:=by intro _ _ d _ _ h;cases d<;>exact h) (hm:P.follows .mixedOrders=true:=by kernel_rfl)
  (hn:(vX l.toArray && decide (l.length=fuel+is.length) && bJ .any l.toArray k is (xl l.toArray.size false))=true:=by kernel_rfl):(Vz id l.toArray true).wp P Q a w:=Jh S k is fuel hQ hm hn hS h
end
def pl:(∀a d v,Act.put a (some d) v={ a with tmps:=a.tmps.setIfInBounds d v })/\(∀a v,Act.put a none v=a)/\(∀(l:List Value) i v,l.toArray.setIfInBounds i v=(l.set i v).toArray)/\(∀(a:Value) l v,(a::l).set 0 v=v::l)/\∀(a:Value) l n v,(a::l).set (n+1) v=a::l.set n v :=
 ⟨λ_ _ _=>rfl,λ_ _=>rfl,λ_ _ _=>QL ..,λ_ _ _=>rfl,λ_ _ _ _=>rfl⟩
def zr{α:Type}(a:α):∃x,a=x:=⟨a,rfl⟩
section
variable {P:VI} {Q:Exit->Act->z8->Prop} {md:kG} {S:z8->Prop} {l:List jk} {w:z8} {fuel:Nat} {listed:Array Bool} {a:Act} {o:jk}
def gX(i:Nat)(h:∀K':Act->z8->Prop,Shut (∀a w,S w->(S w->Ua P md l.toArray Q S fuel (listed.setIfInBounds i true) a w)->K' a w)->if qC o (VN l.toArray a.tmps)=true then kd P o a w K' Q else K' (a.put o.dst eh) w)
  (hr:vU md l.toArray listed=[i]:=by kernel_rfl) (ho:ZC l i=some o:=by rfl):Ua P md l.toArray Q S (fuel+1) listed a w:=Oh i hr ho h
def dJ{k:Nat}(i:Nat)(h:∀K':Act->z8->Prop,Shut (∀a w,S w->(S w->qX P md l.toArray Q S k fuel (listed.setIfInBounds i true) a w)->K' a w)->if qC o (VN l.toArray a.tmps)=true then kd P o a w K' Q else K' (a.put o.dst eh) w)
  (hr:vU md l.toArray listed=[i]:=by kernel_rfl) (ho:ZC l i=some o:=by rfl):qX P md l.toArray Q S k (fuel+1) listed a w:=Ow i hr ho h
def FT{k:Nat}(i:Nat)(h:∀K':Act->z8->Prop,Shut (∀a w,qX P md l.toArray Q S k fuel (listed.setIfInBounds i true) a w->K' a w)->if qC o (VN l.toArray a.tmps)=true then kd P o a w K' Q else K' (a.put o.dst eh) w)
  (hr:vU md l.toArray listed=[i]:=by kernel_rfl) (hk:(listed.setIfInBounds i true).getD k false=true:=by kernel_rfl) (ho:ZC l i=some o:=by rfl):qX P md l.toArray Q S k (fuel+1) listed a w:=P0 i hr hk ho h
def Y3(h:Q .normal a w)(n:Nat)(hr:vU md l.toArray listed=[]:=by kernel_rfl):Ua P md l.toArray Q S n listed a w:=wpAnyH_done hr h n
def FW{k:Nat}(h:Q .normal a w)(n:Nat)(hr:vU md l.toArray listed=[]:=by kernel_rfl):qX P md l.toArray Q S k n listed a w:=P4 hr h n
def Tc(is:List Nat)(n:Nat)(hS:S w)(h:takes P l.toArray S (λa'=>wpAnyH P md l.toArray Q S n (jF listed is) a' w) is a)(hQ:∀c a d v w,Q (.panic c) (a.put d v) w->Q (.panic c) a w:=by intro _ _ d _ _ h;cases d<;>exact h)
  (hf:fuel=n+is.length:=by rfl) (hs:vX l.toArray=true:=by kernel_rfl) (hB:Xb md l.toArray is listed=true:=by kernel_rfl):Ua P md l.toArray Q S fuel listed a w:=Ot is n hf hQ hs hB hS h
end
section
variable{P:VI}{Q:Exit->Act->z8->Prop}{id:Nat}{l:List jk}{a:Act}{w:z8}{md:kG}{listed:Array Bool}{n:Nat}{R:Prop}
def V1(S:World->Prop)(is:List Nat)(fuel:Nat)(hS:S w.drew)(k:R)(h:R->takes P l.toArray S (λa'=>wpAnyH P .any l.toArray Q S fuel (jF (Array.replicate l.toArray.size false) is) a' w.drew) is a:=by intro k;(repeat ((first|refine ty ?_|refine tn ?_);try simp only[pl]));refine yS ?_;exact k)
 (hQ:∀c a d v w,Q (.panic c) (a.put d v) w->Q (.panic c) a w:=by intro _ _ d _ _ h;cases d<;>exact h)(hm:P.follows .mixedOrders=true:=by kernel_rfl)
 (hn:(vX l.toArray&&decide (l.length=fuel+is.length)&&Xb .any l.toArray is (xl l.toArray.size false))=true:=by kernel_rfl):(Vz id l.toArray true).wp P Q a w:=rt S is fuel hS (h k) hQ hm hn
def DN(S:World->Prop)(j:Nat)(is:List Nat)(fuel:Nat)(hS:S w.drew)(k:R)(h:R->takes P l.toArray S (λa'=>qX P .any l.toArray Q S j fuel (jF (Array.replicate l.toArray.size false) is) a' w.drew) is a:=by intro k;(repeat ((first|refine ty ?_|refine tn ?_);try simp only[pl]));refine yS ?_;exact k)
 (hQ:∀c a d v w,Q (.panic c) (a.put d v) w->Q (.panic c) a w:=by intro _ _ d _ _ h;cases d<;>exact h)(hm:P.follows .mixedOrders=true:=by kernel_rfl)
 (hn:(vX l.toArray&&decide (l.length=fuel+is.length)&&bJ .any l.toArray j is (xl l.toArray.size false))=true:=by kernel_rfl):(Vz id l.toArray true).wp P Q a w:=rk S j is fuel hS (h k) hQ hm hn
def VO{S:World->Prop}{m:Nat}(is:List Nat)(n:Nat)(hS:S w)(k:R)(h:R->takes P l.toArray S (λa'=>wpAnyH P md l.toArray Q S n (jF listed is) a' w) is a:=by intro k;(repeat ((first|refine ty ?_|refine tn ?_);try simp only[pl]));refine yS ?_;exact k)(hQ:∀c a d v w,Q (.panic c) (a.put d v) w->Q (.panic c) a w:=by intro _ _ d _ _ h;cases d<;>exact h)
 (hf:m=n+is.length:=by rfl)(hs:vX l.toArray=true:=by kernel_rfl)(hB:Xb md l.toArray is listed=true:=by kernel_rfl):Ua P md l.toArray Q S m listed a w:=Tc is n hS (h k) hQ hf hs hB
end
def _root_.Go.RowKit.Hid.o{p:Prop}(h:Hid p):p:=h.out
instance(b o:Nat):CoeDep (Nat×Nat) (b,o) yM:=⟨⟨b,o,none⟩⟩
instance(b o:Nat):CoeDep (Nat×Nat) (b,o) (Option yM):=⟨some ⟨b,o,none⟩⟩
instance(w:z8)(o:Nat):CoeDep (z8×Nat) (w,o) yM:=⟨⟨w.heap.size,o,none⟩⟩
instance(w:z8)(o:Nat):CoeDep (z8×Nat) (w,o) (Option yM):=⟨some ⟨w.heap.size,o,none⟩⟩
instance:CoeOut z8 Nat:=⟨λw=>w.heap.size⟩
instance(b o:Nat):CoeDep (Nat×Nat) (b,o) Value:=⟨.pointer (some ⟨b,o,none⟩)⟩
instance(w:z8)(o:Nat):CoeDep (z8×Nat) (w,o) Value:=⟨.pointer (some ⟨w.heap.size,o,none⟩)⟩
instance:Coe Nat Value:=⟨λn=>.int .i64 n⟩
instance:Coe Int Value:=⟨λn=>.int .i64 n⟩
inductive yi4:z8->Nat->Nat->Value->Type
 |mk(w b o v):yi4 w b o v
inductive zy1:Nat->Nat->Type
 |mk(b o):zy1 b o
def zU(b o):zy1 b o:=.mk b o
inductive yi5:z8->z8->Type
 |mk(w v):yi5 w v
def zP(w v):yi5 w v:=.mk w v
instance(w v):CoeSort (yi5 w v) Prop:=⟨λ_=>yD w.heap.size w v⟩
def gwz{p:Program}{f:Nat}{g:Array Value}{w:World}{Q T:Ending->World->Prop}{R:Prop}(c:Hid (Calls p f g w Q))(k:∀e v,Q e v->T e v)(h:Hid (Calls p f g w T)->R:=by intro k;go_wp2_with fail;exact k.out):R:=h (c.out.mono k)
def gqz{P R:Prop}(k:R)(h:R->P:=by intro k;go_wp2_with fail;exact k):P:=h k
def yz{c:Prop}{h:Decidable c}(d:¬c){α:Sort _}{t e:α}:ite c t e=e:=if_neg d
def yV{c:Prop}{h:Decidable c}(d:c){α:Sort _}{t e:α}:ite c t e=t:=if_pos d
def vJ{p:Prop}[Decidable p]:(decide p=true)=p:=decide_eq_true_eq
def hdc{a b c:Prop}(x:a)(y:b)(z:c):Hid a/\Hid b/\Hid c:=⟨x,y,z⟩
def hdd{a b c d:Prop}(x:a)(y:b)(z:c)(u:d):Hid a/\Hid b/\Hid c/\Hid d:=⟨x,y,z,u⟩
def Jl{a b c d e:Prop}(x:a)(y:b)(z:c)(u:d)(v:e):Hid a/\Hid b/\Hid c/\Hid d/\Hid e:=⟨x,y,z,u,v⟩
def EZ{a b c d e f:Prop}(x:a)(y:b)(z:c)(u:d)(v:e)(w:f):Hid a/\Hid b/\Hid c/\Hid d/\Hid e/\Hid f:=⟨x,y,z,u,v,w⟩
def EY{a b c d e f g:Prop}(x:a)(y:b)(z:c)(u:d)(v:e)(w:f)(s:g):Hid a/\Hid b/\Hid c/\Hid d/\Hid e/\Hid f/\Hid g:=⟨x,y,z,u,v,w,s⟩
def OJ{a b c d e f g h:Prop}(x:a)(y:b)(z:c)(u:d)(v:e)(w:f)(s:g)(t:h):Hid a/\Hid b/\Hid c/\Hid d/\Hid e/\Hid f/\Hid g/\Hid h:=⟨x,y,z,u,v,w,s,t⟩
instance(b o):CoeOut (zy1 b o) yM:=⟨λ_=>⟨b,o,none⟩⟩
instance(b o):CoeOut (zy1 b o) (Option yM):=⟨λ_=>some ⟨b,o,none⟩⟩
instance(b o):CoeOut (zy1 b o) Value:=⟨λ_=>.pointer (some ⟨b,o,none⟩)⟩
def zu(w b o v):yi4 w b o v:=.mk w b o v
instance(w b o v):CoeSort (yi4 w b o v) Prop:=⟨λ_=>w.cell? ⟨b,o,none⟩=some v⟩
section
variable{P:Prop}
def xjj(h:P:=by
 rw[<-hD];clear a0 a1' a2 a3 a4 a5 a6 a7 a8 g0 g1 g2 g3 g4 g5 g6 EM hD hnx n0 n0' d0 d0';have oK:=EN.trans zy2;have hz6:(w:Nat)+2<=(W6:Nat):=by have:=zy2.size;omega
 have hT6:=DO hT oK;have HB3:=Z dD;have EX:=Z VD;clear dD VD;refine(Tryz.utf8_ValidString D W6 (by omega) hT6).mono ?_;rintro e W7 ⟨rfl,Xu⟩
 cases hv:zpf D.data.toList
 .have HF:=Z (HB3.o hv);clear hv;go_wp2;go_ret;refine⟨oK.trans (Xu.mono (by omega)),?_⟩;rw[HF.o];exact rfl
 .have ig:=Z hv;clear hv;have hR7:=hR6.below Xu (by omega);have yzd:zP w W7:=oK.trans (Xu.mono (by omega));have s37:V2 (w:Nat) W3 W7:=(s34.trans s46).trans (V2.below Xu);have hz7:(w:Nat)+2<=(W7:Nat):=by have:=Xu.size;omega
  obtain⟨a0,a1',a2,a3,a4,a5,a6,a7,a8⟩:=hR7.a;go_wp2_with fail;refine(Tryz.utf8_RuneCountInString D W7 (by omega)).mono ?_;rintro e W8 ⟨rfl,pos,rfl⟩;have hpt:(qV D.data.toList).2=D.data.toList.length:=(Jw _).1 ig.o;have wF:=YR D D.size 0 (by omega) (by omega) (by rw[qR,hpt,vG];simp);rw[qR]at wF;rw[show Lib.runeCount D=(qV D.data.toList).1.length from wF.1];have HCP:=Z wF;have HPT:=Z hpt;clear wF hpt;obtain⟨cnt,oJ⟩:∃n,(qV D.data.toList).1.length=n:=⟨_,rfl⟩;rw[oJ];have yi6:=Z oJ;clear oJ;by_cases wB:cnt=10
  .subst wB;have hrf:V9 D D.size 0 #[]=((xz D.data.toList).map (yb .i32)).toArray:=by have:=HCP.o.2 #[];simpa using this
   have wC:(xz D.data.toList).length=10:=by
    have:=congrArg xD (G0 _ D.data.toList (Y _));rw[vg,yi6.o]at this;exact this
   obtain⟨rs,Qf⟩:∃r:List Int,r=xz D.data.toList:=⟨_,rfl⟩;rw[<-Qf]at hrf wC;have hcv:∀W:z8,(convert 9 137 (.string D)).run prog W = .ok (.slice (zU (W:Nat) 0) 10 (grownCap W 10 0 21)) (W.drew.alloc (.cells ((rs.map (yb .i32)).toArray++xl (grownCap W 10 0 21 - 10) (.int .i32 0)) 21)):=by
    intro W;have:=run_runes_of_string (P:=prog) W 9 137 21 D underlying9 underlying137 underlying21 (by rw[hrf];simp;omega);rw[hrf]at this;simpa[wC]using this
   have HRF:=Z hrf;have HRS:=Z Qf;clear hrf Qf;go_wp2_with fail;have OG:(W7.iter D pos).drew.cell? (w,7)=some (.string D):=by
    show(W7.alloc _).cell? _=_;rw[zc _ _ _ (by simp;omega)];exact a7
   refine V1 (λW':z8=>zu W' (w:Nat) 7 (.string D)) [0,1,2,3,4,5] 2 OG ?_;refine gX 6 (λK hK=>?_);go_simp;refine hK.out _ _ ?_ λ_=>?_
   .show((W7.iter D pos).alloc _).cell? _=_;rw[P5 (by show _<(W7.alloc _).heap.size;simp;omega)];exact OG
   clear hK K;refine gX 7 (λK hK=>?_);go_simp;have vqu:(((W7.iter D pos).alloc (.cells ((rs.map (yb .i32)).toArray++xl (grownCap (W7.iter D pos).drew 10 0 21 - 10) (.int .i32 0)) 21)).drew.drew).heap[(w:Nat)+1]? = W7.heap[(w:Nat)+1]? := by
    show((W7.alloc _).alloc _).heap[(w:Nat)+1]? = _;rw[xZ _ _ _ (by simp;omega),xZ _ _ _ (by omega)]
   have hVB:=vqu.trans hR7.hB;have xjd:=zy5 (W7.iter D pos) rs (xl (grownCap (W7.iter D pos).drew 10 0 21 - 10) (.int .i32 0)) (grownCap (W7.iter D pos).drew 10 0 21) ((w:Nat)+1) wC hVB (by simp);rw[xjd];simp only[ym];refine hK.out _ _ ?_ λ_=>?_
   .rw[Of _ _ _ _ _ (λh=>absurd h (by simp))];show((W7.iter D pos).alloc _).cell? _=_;rw[P5 (by show _<(W7.alloc _).heap.size;simp;omega)];exact OG
   clear hK K;refine Y3 ?_ _;go_wp2;refine yK (v := .pointer ((w:Nat)+1,0)) ?_ rfl ?_
   .simp[yN,results26,go_sem]
   .have HK:=yy0 (fi:=fi) (ne:=ne) HDD.o r3 r4 r5 (p1 (by omega)) (p2 (by omega)) (p3 (by omega)) HPT.o yi6.o;rw[show ra=true from r1,show rb=true from r2];exact zy6 (nx:=nx) hR7 yzd hz7 wC HNX.out HRS.o HDD.o HK (s13.trans s37) s37 HZW.o EV hz1 Te HQ1.o HQ3.o
  .have ugq:((cnt:Int) !=10)=true:=by simp;omega
   have HF:=Z (EX.o (λh=>wB (yi6.o.symm.trans h)));go_wp2;go_ret;refine⟨yzd.trans (DR _ _ _ _ (by omega)),?_⟩;rw[HF.o];exact rfl):P:=h
def J(h:P:=by omega):P:=h
def xjb(h:P:=by
 cases b
 .have HR:=Y8;simp only[oq,LZ]at XX;go_wp2;all_goals first
   |(exfalso;rename_i hh;simp[Fg,hfr]at hh;omega)|(exfalso;rename_i hh;simp[Fg]at hh;omega)
   |skip
  refine yK (v := .tuple #[.agg #[.bool false,.slice ad (wh.length+fr.length) cap,(fr.length:Int)],.bool true]) ?_ rfl ?_
  .simp[yN,results35,go_sem,zo, *]
  .refine⟨_,_,_,by rw[XX.o],by first|exact⟨_,_,_,rfl⟩|exact HSV.o,?_,?_⟩
   .refine hB.trans ?_;(repeat(first|(with_reducible exact zv _ _)|(with_reducible refine below_drewN ?_ _)|(with_reducible refine kp ?_)|(with_reducible refine KY ?_ ?_ _;rotate_left;focus(first|(simp;done)|(simp;omega)))|(with_reducible refine ZD ?_ ?_ _;rotate_left;focus(first|(simp;done)|(simp;omega)))))
   .intro _;rw[HW.o,HF.o];refine⟨HB.o.symm,rfl,?_⟩;(repeat(with_reducible refine xp ?_ ib _))
    exact HR.o
 .simp only[gR]at XX;go_wp2_with fail;all_goals first
   |(exfalso;rename_i hh;simp[Fg,hfr]at hh;omega)|(exfalso;rename_i hh;simp[Fg]at hh;omega)
   |skip
  refine(Hp (wh++fr) (wh.length+fr.length) (by simp) ad cap true _ _ (by simp;omega) (((j6 Y8.o (by simp)).set ?_ _).set ?_ _)).mono ?_
  .intro q hq he;subst hq;exact ib (by simp[yl];exact he.symm)
  .intro q hq he;subst hq;exact ib (by simp[yl];exact he.symm)
  rintro e w2 ⟨rfl,qY⟩;have KN:(w:Nat)+1<=(w2:Nat):=by have:=qY.size;simp at this;omega
  have Dj:zP w w2:=((hB.setCell (p:=(zU (w:Nat) 1)) (Y _) _).setCell (p:=(zU (w:Nat) 2)) (Y _) _).trans (qY.mono (by simp;omega));have hd0:zu w2 (w:Nat) 0 (.bool true):=by rw[qY.cell (by simp;omega)];simp[zo,YZ]
  have Ti:zu w2 (w:Nat) 1 (.slice ad (wh.length+fr.length) cap):=by rw[qY.cell (by simp;omega)];simp[zo,Vj]
  have EO:zu w2 (w:Nat) 2 (fr.length:Int):=by rw[qY.cell (by simp;omega)];simp[zo,Xq]
  have he0:w2.frozen? (zU (w:Nat) 0)=false:=by rw[qY.frozen (by simp;omega)];go_simp
  have he1:w2.frozen? (zU (w:Nat) 1)=false:=by rw[qY.frozen (by simp;omega)];go_simp
  have TJ:w2.frozen? (zU (w:Nat) 2)=false:=by rw[qY.frozen (by simp;omega)];go_simp
  have HR:=Z (di (xp (xp Y8.o ib _) ib _) qY);clear qY YZ Vj Xq hf0 Ue ZE;generalize (wh++fr).all (· == 48)=z at XX|-
  cases z
  .simp only[LZ]at XX;go_wp2;refine yK (v := .tuple #[.agg #[.bool true,.slice ad (wh.length+fr.length) cap,(fr.length:Int)],.bool true]) ?_ rfl ?_
   .simp[yN,results35,go_sem,zo, *]
   .refine⟨_,_,_,by rw[XX.o],by first|exact⟨_,_,_,rfl⟩|exact HSV.o,?_,?_⟩
    .refine Dj.trans ?_;(repeat(first|(with_reducible exact zv _ _)|(with_reducible refine below_drewN ?_ _)|(with_reducible refine kp ?_)|(with_reducible refine KY ?_ ?_ _;rotate_left;focus(first|(simp;done)|(simp;omega)))|(with_reducible refine ZD ?_ ?_ _;rotate_left;focus(first|(simp;done)|(simp;omega)))))
    .intro _;rw[HW.o,HF.o];refine⟨HB.o.symm,rfl,?_⟩;(repeat(with_reducible refine xp ?_ ib _))
     exact HR.o
  .simp only[Bool.not_true]at XX;go_wp2;refine yK (v := .tuple #[.agg #[.bool true,.slice ad (wh.length+fr.length) cap,(fr.length:Int)],.bool false]) ?_ rfl ?_
   .simp[yN,results35,go_sem,zo, *]
   .refine⟨_,_,_,by rw[XX.o],by first|exact⟨_,_,_,rfl⟩|exact HSV.o,?_,?_⟩
    .refine Dj.trans ?_;(repeat(first|(with_reducible exact zv _ _)|(with_reducible refine below_drewN ?_ _)|(with_reducible refine kp ?_)|(with_reducible refine KY ?_ ?_ _;rotate_left;focus(first|(simp;done)|(simp;omega)))|(with_reducible refine ZD ?_ ?_ _;rotate_left;focus(first|(simp;done)|(simp;omega)))))
    .intro h;rw[XX.o]at h;cases h):P:=h
def yq(h:P:=by kernel_rfl):P:=h
def zZ(h:P:=by simp):P:=h
def vqq(h:P:=by (repeat(first|(with_reducible exact zv _ _)|(with_reducible refine below_drewN ?_ _)|(with_reducible refine kp ?_)|(with_reducible refine KY ?_ ?_ _;rotate_left;focus(first|(simp;done)|(simp;omega)))|(with_reducible refine ZD ?_ ?_ _;rotate_left;focus(first|(simp;done)|(simp;omega)))))):P:=h
def yJ(h:P:=by simp;omega):P:=h
def zR(h:P:=by decide):P:=h
def xc(h:P:=by cases h):P:=h
def XV(h:P:=by simpa[Fo.xJ]using h):P:=h
def iZ(h:P:=by first|(simp;done)|(simp;omega)):P:=h
def yd5(h:P:=by
 have zy7:bC n acc (t.drop m)=r:=by
  have h1:=G6.o;rw[yz (by rw[HK.o];decide),LH.o.1,LH.o.2]at h1;rw[yV HK.o]at h1;exact h1
 have yi7:=Z zy7;have dB:u.extract (m+1) u.size=⟨(t.drop m).toArray⟩:=by rw[fI,HUD.o];rfl
 have DS:u.extract 0 (m+1)=⟨(c::t.take m).toArray⟩:=by rw[fH,HUD.o];rfl
 have HX1:=Z DS;have HX2:=Z dB;clear zy7 DS dB;go_wp2;rw[HX2.o];go_roundg n
 case measure=>omega
 case rel=>exact⟨acc,t.drop m,rfl,HO.o,hb,by simp at Z4|-;omega,by simp at hla|-;omega,yi7.o⟩):P:=h
def P6(h:P:=by first|(have:=HDL.o;simp at hla;simp only[zy,zY,yF];omega)|(simp at hla|-;omega)):P:=h
def P7(h:P:=by rw[<-HR.o,Vg,HO.o];dsimp only;unfold P8;rw[HM.o,yV rfl,Zd]):P:=h
def yd7(h:P:=by
 obtain⟨va,t⟩:=q;rw[hn]at hq;obtain⟨rfl,iY⟩:=hq;have hva:=(dm hn).1;have kE:=VB.o;rw[hn]at kE;have G8:=Z kE;have Tl:=Z iY;have xg0:=Z (DT va va false w5 hva hva);clear kE hn iY;go_wp2_with fail;refine xg0.o.mono ?_;rintro e w6 ⟨⟨v,rfl,ht⟩,gT⟩;have P9:=Z ht;clear ht;go_wp2;go_ret2
 refine⟨?_,YS.below gT⟩;rw[G8.o];exact⟨⟨v,rfl,P9.o.keep (vK (Y _)) YS.size (Y _)⟩,Tl.o.below gT⟩):P:=h
def iX(h:P:=by rw[EM];(repeat(first|(with_reducible exact zv _ _)|(with_reducible refine ZD ?_ ?_ _;rotate_left;focus(first|(simp;done)|(simp;omega)))))):P:=h
def Qd(h:P:=by rw[hW];exact(zv _ _).alloc (Y _) _):P:=h
def xg1(h:P:=by rw[yz hw]at hq;have HT5:=Z (show R = .error (3,q)by rw[wE.o];show(uA rs 125 q).then _=_;unfold uA;rw[yz hw];rfl);have HQ:=Z hq;obtain⟨bf,rfl,_,_⟩:=hq;clear hw wE;go_wp2;exact⟨rfl,by rw[HT5.o];exact HQ.o,VD⟩):P:=h
def Hr(h:P:=by first|exact .inl rfl|exact .inr (.inl rfl)|exact .inr (.inr rfl)):P:=h
def Hs(h:P:=by show(if _ then _ else _:List _).length=(if _ then _ else _:List _).length;split<;>simp[h]):P:=h
def dO(h:P:=by unfold maxLen;omega):P:=h
def xg2(h:P:=by have iV:d=6:=HD.o.1 rfl;subst iV;go_wp2_with fail;refine(YT p 4 Jk x2 dn.o.Ht).mono ?_;rintro e x3 ⟨hf,hx3⟩;have HF:=Z hf;obtain⟨bf,rfl,_,_⟩:=hf;go_wp2;exact⟨rfl,by rw[EP.o];exact HF.o,qY.below hx3⟩):P:=h
def yd8(h:P:=by refine hK.out _ _ trivial λ_=>?_;clear hK K;refine VO [5,6,7,8,9,10,11,12,13,14,15,16,17,18,19,20] 0 (show True from trivial) ?_;refine Y3 ?_ _;go_wp2;go_ret;exact⟨by rw[HF.o,g1];simp,(zv _ _).drew⟩):P:=h
def xg3(h:P:=by rw[yz hw]at hq;have EP:=Z (show R = .error (3,Jk)by rw[HT.o];unfold uA;rw[yz hw];rfl);have HQ:=Z hq;obtain⟨bf,rfl,_,_⟩:=hq;clear hw HT;go_wp2;exact⟨rfl,by rw[EP.o];exact HQ.o,qY⟩):P:=h
def gK(h:P:=by rw[HF.o];rfl):P:=h
def Yy(h:P:=by rw[IntKind.wrap_i64];omega):P:=h
def VP(h:P:=by rw[size_mk];unfold maxLen;omega):P:=h
def yd9(h:P:=by clear oG;go_enter func166,ntmps166;go_wp2_with fail;refine HA.o.mono ?_;rintro e w1 ⟨rfl,qE⟩;obtain⟨j0,j1⟩:=HPS.o w1 qE;have wH:=Z (HP.o.below qE);go_wp2_with fail;refine(HCW.o _).mono ?_;rintro e w2 ⟨rfl,rfl⟩;go_wp2;go_ret;exact⟨⟨by rw[HSV.o];rfl,(wH.o.step j0).2 rfl⟩,(xI.of qE).trans (xI.set p _ 0 _)⟩):P:=h
def uU(h:P:=by go_simp):P:=h
def ydz(h:P:=by clear oG;go_enter func166,ntmps166;go_wp2_with fail;refine HA.o.mono ?_;rintro e w1 ⟨rfl,qE⟩;obtain⟨j0,j1⟩:=HPS.o w1 qE;have wH:=Z (HP.o.below qE);go_wp2_with fail;refine(HCW.o _).mono ?_;rintro e w2 ⟨rfl,rfl⟩;go_wp2;go_ret;exact⟨⟨by rw[HSV.o];rfl,(wH.o.step j0).1⟩,(xI.of qE).trans (xI.set p _ 0 _)⟩):P:=h
def ydy(h:P:=by have ha3:=hf.cell HP.o.q.a0 (λe=>HP.o.nR.2.1 e.symm);have Te:=(hf.frozen (a:=(zU A 0)) (X _ _ HP.o.q.a0) (λe=>HP.o.nR.2.1 e.symm)).trans HP.o.q.az;have HB3:=Z (HP.o.q.dG.trans (hf.low (λq e=>by rw[e];exact HP.o.lR) HP.o.q.dG.size));clear HN Df hf ho;go_wp2;exact KO HAe.o ha3 Te HO.o HB3.o HB.o):P:=h
def iU(h:P:=by go_wp2;refine zy8 HAe.o HE.o (λVk hb=>?_);unfold YY;rw[HB.o];exact⟨rfl,EX.o.trans (hb.mono EX.o.size)⟩):P:=h
def DW(h:P:=by rw[YW];exact(zv _ _).alloc (Y _) _):P:=h
def xg5(h:P:=by
 intro l h
 cases l with
 |nil=>simp[xy]
 |cons c t =>
  rw[xy.eq_def];dsimp only;by_cases hc:c=39
  .rw[yV hc]
   cases t with
   |nil=>simp
   |cons d u =>
    dsimp only;by_cases hd:d=39
    .rw[yV hd];have:=ih u (by simp at h;omega);simp;omega
    .rw[yz hd];simp
  .rw[yz hc];have:=ih t (by simp at h;omega);simp;omega):P:=h
def ZH(h:P:=by simp[xg]):P:=h
def ydx(h:P:=by
 obtain⟨T,t⟩:=q;rw[hn]at hq;obtain⟨⟨v,rfl,ht⟩,iY⟩:=hq;have kE:=VB.o;rw[hn]at kE;have G8:=Z kE;have P9:=Z ht;have Tl:=Z iY;clear kE hn ht iY;go_wp2;go_ret2
 refine⟨?_,Qb⟩;rw[G8.o];exact⟨⟨v,rfl,P9.o.keep (vK (Y _)) VR.size (Y _)⟩,Tl.o⟩):P:=h
def ydv(h:P:=by
 obtain⟨T,t⟩:=q;rw[hn]at hq;obtain⟨⟨v,rfl,ht⟩,iY⟩:=hq;have kE:=VB.o;rw[hn]at kE;have G8:=Z kE;have P9:=Z ht;have Tl:=Z iY;clear kE hn ht iY;go_wp2;go_ret2
 refine⟨?_,VR⟩;rw[G8.o];exact⟨⟨v,rfl,P9.o.keep (vK (Y _)) YS.size (Y _)⟩,Tl.o⟩):P:=h
def iQ(h:P:=by clear hn;go_enter func159,ntmps159;go_wp2;all_goals (first|(exfalso;omega)|(go_ret;exact⟨rfl,rfl⟩))):P:=h
def QZ(h:P:=by unfold dC;rw[dE];simp only[hc]):P:=h
def xg6(h:P:=by have h1:=G6.o;rw[yz (by rw[HK.o];decide),LH.o.1,LH.o.2]at h1;rw[yz (by rw[HK.o];decide)]at h1;exact h1):P:=h
def xg7(h:P:=by simp at hla;simp only[zy,zY,yF,yh];omega):P:=h
def ydu(h:P:=by
 have lt:∀(a:yM) (v:Value),w.cell? a=some v->a.block<(w:Nat):=λa v h=>X w a h
 refine⟨λc hc=>?_,λi hi=>⟨?_,?_⟩⟩
 .rw[hb.cell (lt _ _ (h.1 c hc))];exact h.1 c hc
 .rw[hb.cell (lt _ _ (h.2 i hi).1)];exact(h.2 i hi).1
 .rw[hb.cell (lt _ _ (h.2 i hi).2)];exact(h.2 i hi).2):P:=h
def ydq(h:P:=by rw[hn]at hq TF;obtain rfl:=hq;have VB:=Z TF;clear TF hn;go_wp2;refine⟨rfl,?_,Qb⟩;rw[VB.o]):P:=h
def zy9(h:P:=by go_wp2;go_ret;rw[HB.o];exact⟨rfl,(HF.o.trans (wI.o.wide (λ_ q=>q.elim) |>.tg (λ_ q => .inl q):Fr (· = M) (· = M) wr w5)).tg (λ_ q=>q.elim)⟩):P:=h
def ydk(h:P:=by rw[yz (by rw[oF.o];simp),HR.o];refine⟨_,q,g,mb,vC,vI,rs,cv,ov,rfl,⟨LI 0,LI 1,HPA.o.below KP,zD Fg LM.size,HX.o.below LM Fg,yiy.cell HC0.o id,yiy.cell HC1.o id⟩,λW hW=>HQC.o W (LM.trans (hW.mono LM.size)),λW hW=>HQO.o W (LM.trans (hW.mono LM.size))⟩):P:=h
def ydg(h:P:=by
 go_enter func166,ntmps166;go_wp2_with fail;refine HA.o.mono ?_;rintro e w1 ⟨⟨v,ev,rfl,hev⟩,qE⟩;rcases hev with rfl|⟨N,rfl⟩
 .go_wp2_with fail;refine(HCW.o _).mono ?_;rintro e w2 ⟨rfl,rfl⟩;go_wp2;exact⟨rfl,rfl,xI.of qE⟩
 .go_wp2;exact⟨rfl,rfl,xI.of qE⟩):P:=h
def xg8(h:P:=by exact⟨⟨⟨K,i,f,ma,mc,rfl,rfl,oD,vs,Y8.o.keep HKP.o qY.size HKP.o.1,yd.keep HKP.o qY.size HKP.o.1 _ _ G9.o⟩,HSF.o⟩,HBF.o⟩):P:=h
def ydf(h:P:=by rw[uD]at hq;obtain⟨ZI,rfl,ho⟩:=hq;have HE:=Z (show YA full l=none by rw[HIR.o,<-HQ.o,uD];rfl);have HO:=Z ho;have ER:=Z ((dn.o.1.drew.fr.tr gW.toFr (λq hq => .inl hq)));clear hJ uD gW ho dn;exact⟨rfl,KR HE.o HO.o ER.o⟩):P:=h
def zyz(h:P:=by
 induction l with
 |nil=>simp
 |cons a t ih=>have:=(XU a).1;simp only[zh,zy,zY];omega):P:=h
def xV(h:P:=by rfl):P:=h
def zyy(h:P:=by
 have h1:vs[i]? = some x0:=by rw[Pz.o,<-HUS.o];simp
 rw[zk (by have:=ig.o;omega)]at h1;exact zL h1):P:=h
def ydd(h:P:=by rw[uD]at hq;obtain⟨ZI,rfl,ho⟩:=hq;have HE:=Z (show YA full l=none by rw[HIR.o,<-HQ.o,uD];rfl);have HO:=Z ho;have ER:=Z ((dn.o.1.fr.tr gW.toFr (λq hq => .inl hq)));clear uD gW ho dn;exact⟨rfl,KR HE.o HO.o ER.o⟩):P:=h
def Hh(h:P:=by simp only[Fo.app,Fo.uB,Fo.ZL r g];omega):P:=h
def V3(h:P:=by rw[HN.o];exact uo):P:=h
def Ff(h:P:=by intro u hu;simp at hu;subst hu;rfl):P:=h
def zyv(h:P:=by have:=uT k hk;omega):P:=h
def kK(h:P:=by cases q):P:=h
def Fb(h:P:=by rw[yh];omega):P:=h
def gJ(h:P:=by cases e):P:=h
def iK(h:P:=by
 simp only[Fo.wf,Fo.app,zx]at h|-
 exact⟨h.1,Fo.Gz r g h.2 h2⟩):P:=h
def xg9(h:P:=by obtain⟨en1,en2⟩:=en;have HQ:=Z hq;obtain⟨bf,rfl,_,_⟩:=hq;go_wp2;exact⟨rfl,by rw[HT3.o];exact HQ.o,dD⟩):P:=h
def ydb(h:P:=by
 have hq:=yy5.o;rw[e6]at hq;have HP6:=Z hq;have E6:=Z e6;clear hq e6;have kE:r=none:=by
  rw[<-HR.o];simp[uw,E1.o,E2.o,E3.o,E4.o,E5.o,E6.o]
 have G8:=Z kE;clear kE;go_wp2;refine⟨rfl,?_,VR⟩;rw[G8.o]):P:=h
def xgz(h:P:=by rw[yj iJ,uJ,ES.o];simp[HK2.o,HK.o,hq]):P:=h
def iG(h:P:=by obtain⟨D,⟨es,clock,ho,_⟩,_⟩:=h;exact(yO.1 ho).1):P:=h
def zyu(h:P:=by rw[zc _ _ ⟨1,0,none⟩ (by simp<;>omega),zc _ _ ⟨1,0,none⟩ uo];exact hg):P:=h
def yb0(h:P:=by
 cases r with
 |nil=>exact⟨rfl,rfl⟩
 |text t r=>cases Fa
 |hash r=>cases Fa
 |put n a r=>cases Fa
 |num n a r=>cases Fa
 |br n a fo of cl bs r=>cases Fa
 |xR k0 a0 m0 r0=>exfalso;simp only[Fo.len]at Z4;omega):P:=h
def yb1(h:P:=by
 obtain⟨x,t,hx⟩:∃x t,rs.drop (i+1)=x::t:=by
  rw[h1]
  cases k.map zI with
  |nil=>exact⟨_,_,rfl⟩
  |cons x t=>exact⟨_,_,rfl⟩
 rw[EU hx]at k2;have h2:rs.drop i=32::x::t:=by rw[h0,<-h1,hx]
 exact Py h2 k2):P:=h
def iF(h:P:=by
 simp only[Fo.wf,Fo.app,zx]at h|-
 exact⟨h.1,LN r g h.2⟩):P:=h
def zyq(h:P:=by
 cases xs with
 |nil=>have h1:=ig.o;rw[Pz.o]at h1;have:=HUS.o;simp at h1;omega
 |cons a b=>exact⟨a,b,rfl⟩):P:=h
def yb2(h:P:=by
 refine⟨?_,?_,?_,?_⟩
 .rw[zc _ _ _ uo,<-hA];exact zf _ _ _ _ _
 .rw[<-h1];exact zf _ _ _ _ _
 .rw[zV (xZ _ _ _ uo)];subst hA;simp
 .rw[<-h1];simp):P:=h
def xgy(h:P:=by rw[HF.o];have hk:xh (w1:Nat) (w2:Nat) w2 w3:=⟨dD.size,λk _ hk=>dD.block k hk⟩;exact⟨[],ma,mc,vs,rfl,Y8.o.keep hk (Y _) dD.size,yd.keep hk (Y _) dD.size _ _ G9.o,rfl⟩):P:=h
def yb3(h:P:=by subst hx;simp only[↓reduceIte];exact⟨by rw[QI hi (show kJ (.string m)from trivial)];simp,by rw[UW hi (show kJ (.string m)from trivial)];simp⟩):P:=h
def yb4(h:P:=by
 obtain⟨n,hn⟩:=List.mem_iff_getElem?.1 hx;rw[qh]at hn;split at hn
 .obtain⟨y,hy,rfl⟩:=Option.map_eq_some_iff.1 hn;exact h y (zW hy)
 .exact h x (zW hn)):P:=h
def zyk(h:P:=by
 rcases uM t.block (w:Nat)with h|h
 .exact h
 .simp[Fu,Zu h]at ht0):P:=h
def Ya(h:P:=by rw[h1];rfl):P:=h
def yb5(h:P:=by refine⟨Qq,?_⟩;rw[yz (by rw[oF.o];simp),HR.o];exact⟨P,q,g,mb,vC,vI,rs,cv,ov,rfl,iD.o,λW hW=>HQ.o.1 W (qY.trans (hW.mono qY.size)),λW hW=>HQ.o.2 W (qY.trans (hW.mono qY.size))⟩):P:=h
def yb6(h:P:=by
 simp only[hx,↓reduceIte];have gM:(Lit.string x) ≠ .string m:=λq=>hx (by cases q;rfl)
 exact⟨by rw[Od gM];exact(h3 x).1,by rw[dT gM];exact(h3 x).2⟩):P:=h
def Hw(h:P:=by rw[<-hA];exact(Fr.refl _ _).alloc _):P:=h
def zyj(h:P:=by exact⟨MkS.le_trans (s.yiq _ _) a,by simp only[Fo.keys,Fo.cw,MkS.ur,yF];omega⟩):P:=h
def yb7(h:P:=by exact⟨rfl,KR HE.o HO.o ER.o⟩):P:=h
def xgx(h:P:=by
 have kE:r=none:=by rw[<-HR.o,Vg,HO.o];dsimp only;unfold P8;rw[HM.o,yV rfl,HN.o];simp[hm0]
 have G8:=Z kE;subst hm0;clear kE;go_wp2;refine⟨rfl,?_,zyg⟩;rw[G8.o]):P:=h
def xgv(h:P:=by obtain⟨en1,en2⟩:=en;have HQ:=Z hq;obtain⟨bf,rfl,_,_⟩:=hq;have HTE:=Z (show R = .error (en1,en2)from I0.o);go_wp2;exact⟨rfl,by rw[HTE.o];exact HQ.o,QP⟩):P:=h
def Yc(h:P:=by exact Y _):P:=h
def yb8(h:P:=by have hf:Fr yH yH w w':=Fr.of hb;exact⟨hf.cell h.p0 id,hf.cell h.p1 id,h.prog.below hb,zD h.gl hb.size,h.loc.below hb h.gl,hf.cell h.g0 id,hf.cell h.g1 id⟩):P:=h
def zyf(h:P:=by simp[yf7,Ey,Ob];omega):P:=h
def QY(h:P:=by simpa using h):P:=h
def iB(h:P:=by go_wp2;go_ret;rw[HB.o];exact⟨rfl,I3.o.tg (λ_ q=>q.elim)⟩):P:=h
def I4(h:P:=by simp[app,len,jD r g];omega):P:=h
def Px(h:P:=by intro u hu;simp at hu;rcases hu with rfl|rfl<;>rfl):P:=h
def xgu(h:P:=by
 calc (10*v+(c.toNat - 48)+1)*10 ^ t.length<=((v+1)*10)*10 ^ t.length:=qp _ h3
  _=(v+1)*10 ^ (t.length+1):=by rw[Zw,LY,dY 10]):P:=h
def zyd(h:P:=by exact⟨⟨[],rfl,rfl⟩,QR.more HG.o HI.o ((Fr.refl yH _).alloc _) (λ_ q=>q.elim)⟩):P:=h
def zyb(h:P:=by obtain⟨D,⟨es,clock,ho,rest⟩,h2⟩:=h;exact⟨D,⟨es,clock,hb.trans ho,rest⟩,h2⟩):P:=h
def DA(h:P:=by go_wp2;go_ret;exact⟨rfl,rfl⟩):P:=h
def iC(h:P:=by have:=Fo.Ui r;simp only[Fo.cw,Fo.uB];omega):P:=h
def Pv(h:P:=by
 go_wp2;go_ret2
 refine⟨?_,yik⟩;rw[HRN.o];rfl):P:=h
def yb9(h:P:=by
 rcases hk with h|h|h|h
 .exact .inl (.inl h)
 .exact .inl (.inr (.inl h))
 .exact .inl (.inr (.inr (.inl h)))
 .exact(hs' k h).imp (λq => .inr (.inr (.inr q))) id):P:=h
def Da(h:P:=by rw[zy];omega):P:=h
def zx0(h:P:=by rw[kz I5.o,kz HSR.o];omega):P:=h
def zx1(h:P:=by simp[Lit.wf,IntKind.min,IntKind.max,Ey,Ob];omega):P:=h
def I6(h:P:=by simp[xF,uW,ua]):P:=h
def Gy(h:P:=by rw[zw Fc];rfl):P:=h
def zx2(h:P:=by rw[zk (by have:=Pu.o;omega)]at h1;exact zL h1):P:=h
def Gx(h:P:=by simp at h;omega):P:=h
def zx3(h:P:=by exact zf _ _ _ _ _):P:=h
def LO(h:P:=by simp only[Fo.app,Fo.cnt,Fo.Ul r g];omega):P:=h
def Tn(h:P:=by rw[To,og,zk hj]at hu;simpa using hu):P:=h
def LP(h:P:=by have:=Fe.lt;omega):P:=h
def LR(h:P:=by have:=Vf.lt;omega):P:=h
def Dc(h:P:=by rw[YW];exact zf _ _ _ _ _):P:=h
def yig(h:P:=by rw[HBB.o];have e1:=HA1.o;have e2:=HA.o;have e3:=HNW.o;have e4:=HLW.o;have e5:=HLF.o;have e6:=HL.o;subst e1 e2 e4 e5 e6;unfold VS;rw[<-e3];try simp):P:=h
def yif(h:P:=by rw[fI,HUD.o];rfl):P:=h
def yid(h:P:=by rw[fH,HUD.o];rfl):P:=h
def Tp(h:P:=by have:=LS cl bs [] [];have:=HF.o.few;simp only[yF]at *;omega):P:=h
def yib(h:P:=by unfold De;simp only[ze,zk yl0,Ex,hm,VH,zk hmd]):P:=h
def yl1(h:P:=by unfold De;simp only[ze,zk yl2,Ex,hm,VH,zk hmd]):P:=h
def Tr(h:P:=by simp only[zY,zy,yF,Fo.uB];omega):P:=h
def zx6(h:P:=by obtain⟨vt,b,rfl,l1,l2,c0,c1,hr⟩:=h;obtain⟨us,xs,rfl,h1,h2⟩:=yd.split r vt hr;exact⟨_,xs,rfl,⟨us,b,rfl,l1,l2,c0,c1,h1⟩,h2⟩):P:=h
def LW(h:P:=by
 go_wp2_with fail;go_meet
 case rel=>exact⟨rfl,rfl⟩):P:=h
def zx7(h:P:=by rw[hn]at hq;obtain rfl:=hq;have kE:=VB.o;rw[hn]at kE;have G8:=Z kE;clear kE hn;go_wp2;refine⟨rfl,?_,Qb⟩;rw[G8.o];rfl):P:=h
def zx8(h:P:=by rw[hn]at hq;obtain rfl:=hq;have kE:=VB.o;rw[hn]at kE;have G8:=Z kE;clear kE hn;go_wp2;refine⟨rfl,?_,VR⟩;rw[G8.o];rfl):P:=h
def zx9(h:P:=by rw[hn]at hq;obtain rfl:=hq;have kE:=VB.o;rw[hn]at kE;have G8:=Z kE;clear kE hn;go_wp2;refine⟨rfl,?_,YS⟩;rw[G8.o];rfl):P:=h
def Tt(h:P:=by intro u hu;simp only[vz,uQ]at hu;obtain⟨c,_,rfl⟩:=hu;rfl):P:=h
def VT(h:P:=by rw[yp];simp):P:=h
def Th(h:P:=by obtain⟨k1,k2⟩:=XQ ht r h.2.2 h.2.1;exact⟨⟨h.1,k2,k1⟩,k2⟩):P:=h
def Tw(h:P:=by have wL:u.size=t.length+1:=Zb.o;omega):P:=h
def LA(h:P:=by simp only[Fo.app,Fo.sq,Fo.VW n r g]):P:=h
def La(h:P:=by simp only[binOp];simp[Op.equal,Op.maxDepth,h 9999]):P:=h
def Wz(h:P:=by
 cases b;all_goals
  go_wp2;go_meet
 all_goals exact⟨by rw[HE.o],rfl⟩):P:=h
def Di(h:P:=by rw[zw qY];rfl):P:=h
def zxz(h:P:=by
 go_enter func56,ntmps56;go_wp2_with fail;refine HP.o.mono ?_;rintro e w' ⟨rfl,rfl⟩;go_wp2;go_ret2
 exact⟨rfl,rfl⟩):P:=h
def Wy(h:P:=by have:=(zF.1 hu).1;simpa[vz,xG]using this):P:=h
def Wx(h:P:=by rw[<-hW];exact(zv _ _).alloc (Y _) _):P:=h
def zxy(h:P:=by
 unfold MkS.kZ;split
 .exact I.xH _ _ _ h
 .exact MkS.qw P _ (λs c h=>by split;exact I.xH _ _ _ h;exact h) _ _ h):P:=h
def Wv(h:P:=by rw[Lc];exact(zv _ _).alloc (Y _) _):P:=h
def zxx(h:P:=by rw[size_mk];exact uo):P:=h
def Wu(h:P:=by have:=uT k h2.symm;omega):P:=h
def Le(h:P:=by subst hr;exact⟨.nil,_,rfl,rfl,rfl,rfl,rfl⟩):P:=h
def zxv(h:P:=by
 intro l h' hh hg g e;rcases wM with q|q
 .exact hg g (q▸e)
 .rw[q]at e
  cases e;exact .inr (zj hh hb.size)):P:=h
def Dl(h:P:=by simp[Fo.len,yd.count r vt hr hm]):P:=h
def Li(h:P:=by rw[zk hn,e]):P:=h
def yl3(h:P:=by
 exfalso;rw[Fu,Zu h]at hg
 cases hg):P:=h
def Dm(h:P:=by first|rfl|simp):P:=h
def zxu(h:P:=by rw[oF.o];simp):P:=h
def Wq(h:P:=by simp only[Fo.app,Fo.hs,Fo.VA b r g,and_assoc]):P:=h
def zxq(h:P:=by
 have:(vz l++zX k (yb .u8 0)).length=(n+k)*1:=by simp[vz,Pq]
 rw[<-this];exact oZ):P:=h
def zxk(h:P:=by
 cases t with
 |nil=>simp[uS]at h
 |cons d u =>
  simp[uS]at h;obtain⟨rfl,rfl⟩:=h;rfl):P:=h
def Gv(h:P:=by simp at hj;omega):P:=h
def zxj(h:P:=by
 cases hv:v.ownBlock with
 |none=>exact .inl rfl
 |some g=>exact .inr (λe=>by have:=(h.lt g hv).1;cases e;omega)):P:=h
def Wk(h:P:=by rw[He];omega):P:=h
def Gu(h:P:=by rw[vG];omega):P:=h
def Wj(h:P:=by rw[List.dropLast_concat_getLast]):P:=h
def Wf(h:P:=by show(w.heap.push _)[(w:Nat)]? = _;simp):P:=h
def zxg(h:P:=by obtain⟨vt,rfl,hr⟩:=h;obtain⟨us,xs,rfl,h1,h2⟩:=yd.split r vt hr;exact⟨_,xs,rfl,⟨us,rfl,h1⟩,h2⟩):P:=h
def Wb(h:P:=by unfold Fi;rw[MkS.KS _ (λs i=>XK s i 0)];omega):P:=h
def WZ(h:P:=by clear hp;go_wp2;go_ret;refine⟨EN,?_⟩;rw[HF.o];exact rfl):P:=h
def zxf(h:P:=by rw[xO,beq_iff_eq,beq_iff_eq];rw[xO,beq_iff_eq,vJ]at h2;rw[<-h2];omega):P:=h
def zxd(h:P:=by
 have kE:r=none:=by rw[<-G6.o,yV HK.o]
 have G8:=Z kE;clear kE;go_wp2;refine⟨rfl,?_,hb⟩;rw[G8.o]):P:=h
def QS(h:P:=by simpa using uo):P:=h
def zxb(h:P:=by have HQ:=Z hq;obtain⟨bf,rfl,_,_⟩:=hq;clear Zd;go_wp2;exact⟨rfl,by rw[EP.o];exact HQ.o,qE⟩):P:=h
def Ll(h:P:=by exact .inr (by rw[e];exact h.WY)):P:=h
def Lm(h:P:=by have:=h.WY;have:=h.KT;omega):P:=h
def Gq(h:P:=by simp only[Fo.tb];omega):P:=h
def zv0(h:P:=by
 rcases hO.2 with⟨hv,_⟩|⟨g2,Gk,cur,hv,_,hh,_⟩
 .cases hv
 .cases hv;exact uy hh j):P:=h
def zv1(h:P:=by rw[<-hV,zc _ _ _ (by show A<_;omega),<-hA];exact zf _ _ _ _ _):P:=h
def WX(h:P:=by simp only[Fo.app,Fo.tb,Fo.fM r g];omega):P:=h
def Ln(h:P:=by rw[HN.o];exact Y _):P:=h
def zv2(h:P:=by unfold dC;rw[dE];simp only[hc];generalize Qk E t r.gs=z;rcases z with⟨n,g'⟩|⟨v,g'⟩<;>rfl):P:=h
def zv3(h:P:=by rw[show((48:Int))=(((48:UInt8).toNat:Nat):Int)from rfl,YO];simpa using λe=>oG ⟨V4,e⟩):P:=h
def Va(h:P:=by simp at h):P:=h
def YX(h:P:=by cases hk):P:=h
def WV(h:P:=by rw[e]at hc;revert hc;cases num<;>decide):P:=h
def zv4(h:P:=by show((xy (rs.drop (i+1))).1.flatMap enc).length+4*i<=4*(i+1+(xy (rs.drop (i+1))).2);omega):P:=h
def WU(h:P:=by rw[<-hW,<-hA];exact zf _ _ _ _ _):P:=h
def WQ(h:P:=by simp only[Fo.app,Fo.hs,Fo.VA b r g]):P:=h
def zv5(h:P:=by
 rcases b with b|b|b
 .rw[b,tM]at t;cases t
 .rw[ty q b]at t;simp at t
 .rw[b,h.tQ]at t;simp at t):P:=h
def Lo(h:P:=by simp[Fo.keys];omega):P:=h
def Dn(h:P:=by rw[Ev];omega):P:=h
def zv6(h:P:=by have h2:(De ds l k).length<=4:=Ye _;simp only[zy];split<;>simp<;>omega):P:=h
def Lp(h:P:=by go_wp2;exact⟨rfl,HQ.o⟩):P:=h
def WK(h:P:=by unfold MkS.sz at hs;omega):P:=h
def WJ(h:P:=by simp[xF,uW,ua,vy]):P:=h
def Lr(h:P:=by unfold maxLen at h2;omega):P:=h
def zv7(h:P:=by
 have:j<3:=hj;match j,this with
 | 0,_=>(go_simp;rfl)
 | 1,_=>(go_simp;rfl)
 | 2,_=>(go_simp;rfl)):P:=h
def WG(h:P:=by simp only[Fo.app,Fo.tb,Fo.fM r g]):P:=h
def zv8(h:P:=by obtain⟨vt,b,rfl,l1,l2,c0,c1,hr⟩:=h;exact⟨_,b,rfl,l1,l2,c0,c1,yd.app hg r vt hr⟩):P:=h
def zv9(h:P:=by rcases hg with hg|hg<;>cases hg;have:=Um.base;show L1.B<=(w1:Nat);omega):P:=h
def zvz(h:P:=by rw[hD,HL.o]at h;exact h):P:=h
def zvy(h:P:=by
 obtain⟨e,he,rfl⟩:=uQ.1 hp;rcases a2 e he with q|q
 .cases q
 .show e≠i;omega):P:=h
def WD(h:P:=by rw[<-hB];exact(Fr.refl _ _).alloc _):P:=h
def WB(h:P:=by rw[<-hC];exact(Fr.refl _ _).alloc _):P:=h
def zvx(h:P:=by obtain⟨e1,e2⟩:=KE.1 e;exact hz.2 ⟨xgk.o e1,by subst e2;rfl⟩):P:=h
def Ls(h:P:=by unfold XJ at h2;omega):P:=h
def Lt(h:P:=by have:=dn.o.1.KT;omega):P:=h
def yl4(h:P:=by rw[show q.add 0=q by unfold bW;simp]at dP;exact dP):P:=h
def WC(h:P:=by exact⟨rfl,by rw[this.2];exact key _ this.1⟩):P:=h
def WE(h:P:=by cases r<;>simp[Fo.len]at Z4<;>first|rfl|omega):P:=h
def zvv(h:P:=by obtain⟨k,cap,hv,he,hc⟩:=h;exact⟨k,cap,hv,he,λW hW=>hc W (hW.via hk h1 h2)⟩):P:=h
def zvu(h:P:=by rw[zo,yz (λe=>hAB (congrArg qd e).symm)];exact hB):P:=h
def zvq(h:P:=by rw[hXr.len];exact yy7):P:=h
def yl5(h:P:=by have:=V5.o;rw[show(j==0)=false by simpa using hj0]at this;simpa using this):P:=h
def yl6(h:P:=by
 have:=hw.2
 cases hl:vQ l with
 |nil=>rw[hl]at this;cases this
 |cons a b=>simp):P:=h
def zvk(h:P:=by have:=(XU (zt rs i)).1;show(enc (zt rs i)).length+4*i<=4*(i+1);omega):P:=h
def zvj(h:P:=by
 rcases hq with hq|hq|hq
 .exact Ue.fp q hq
 .cases hq;exact .inr Ue.size
 .cases hq):P:=h
def zvg(h:P:=by have:=congrArg xD h;rw[yh,zy]at this;omega):P:=h
def yl7(h:P:=by simp[yN,results178,go_sem,k0,k1,k2]):P:=h
def Lh(h:P:=by constructor<;>kernel_rfl):P:=h
def WH(h:P:=by simp[xF,uW,ua,vy,j7]):P:=h
def WI(h:P:=by rcases hg with hg|hg<;>cases hg):P:=h
def zvf(h:P:=by rw[<-HR.o,HN.o];show(match pOr ws with|some (T,[])=>some T|_=>none)=_;rw[HPO.o]):P:=h
def zvd(h:P:=by
 rcases hf.fp k hk with h|h
 .exact hF k h
 .exact hE.gA k (by have:=hE.gb;omega)):P:=h
def zvb(h:P:=by rw[zO];exact(hf.frozen (a:=(zU A j)) lA nA).trans (h.z j)):P:=h
def WL(h:P:=by simp only[Fo.cnt,Fo.wt];omega):P:=h
def zu0(h:P:=by unfold uv;rw[XG,zy];exact Dp):P:=h
def WM(h:P:=by have:=h.WY;have:=h.Jm;omega):P:=h
def M0(h:P:=by have:=Vc.o.size;omega):P:=h
def zu1(h:P:=by simpa using V5.o):P:=h
def M3(h:P:=by have:=OD.o.1;omega):P:=h
def zu2(h:P:=by have:=ET.lt;omega):P:=h
def zu3(h:P:=by have:=EW.lt;omega):P:=h
def M4(h:P:=by simpa using hj):P:=h
def zu4(h:P:=by unfold zt;rw[ze,zk h];rfl):P:=h
def Dr(h:P:=by simpa using ho):P:=h
def WN(h:P:=by rw[hW];constructor<;>go_simp):P:=h
def zu5(h:P:=by
 rw[<-e]
 cases hq:gN f with
 |nil=>rfl
 |cons a t=>rw[hq]at h;cases h):P:=h
def zu6(h:P:=by rw[show runN jt rs i=ky rs i from rfl,hN];exact hk):P:=h
def Ve(h:P:=by cases hf):P:=h
def zu7(h:P:=by exact(hf.tg (F'':=F r.gs) (λk hk => .inl hk)).wide (λk hk=>hF k hk)):P:=h
def WO(h:P:=by cases hh;exact⟨rfl,rfl⟩):P:=h
def zu8(h:P:=by go_wp2;go_ret;exact⟨by rw[HB.o];simp[h0,h1],(Fr.refl yH w).alloc _⟩):P:=h
def zu9(h:P:=by show q≠B+1;omega):P:=h
def zuz(h:P:=by have:=cQD.lt;omega):P:=h
def WR(h:P:=by split;exact Ds _;simp):P:=h
def zuy(h:P:=by
 split
 .exact⟨x.Un _ _,XK _ _ _⟩
 .exact MkS.yl8 _ _ _ _):P:=h
def zux(h:P:=by rcases h with rfl|rfl|rfl<;>simp[xF,uW,ua,vy]):P:=h
def WS(h:P:=by rw[uK];omega):P:=h
def M5(h:P:=by have:=HN1.o;omega):P:=h
def M6(h:P:=by rw[zw this];rfl):P:=h
def yl9(h:P:=by have hk2:g2=k:=zL hk;have:=I7.1;omega):P:=h
def M7(h:P:=by constructor<;>intro h<;>omega):P:=h
def WT(h:P:=by simp[ByteArray.getElem_eq_getElem_data]):P:=h
def zuv(h:P:=by simp only[Fo.wf,zx]at w;exact Fo.Vi b r w.2 o t2 h):P:=h
def ylz(h:P:=by have:=HD.o.2 e;cases this):P:=h
def zuu(h:P:=by obtain⟨vt,e,hr⟩:=h;exact⟨vt,e,yd.keep hk h1 h2 r vt hr⟩):P:=h
def WW(h:P:=by simp[uS]at h;subst h;rfl):P:=h
def zuq(h:P:=by simp only[Fo.app,Fo.sq,Fo.VW n r g,and_assoc]):P:=h
def M8(h:P:=by have:=hR.1;omega):P:=h
def zuk(h:P:=by rw[yj h,List.any_append,h0];simp[hT]):P:=h
def zuj(h:P:=by simp only[Fo.keys,Fo.uB,yF];omega):P:=h
def Dt(h:P:=by simp only at this;omega):P:=h
def zug(h:P:=by rw[he]at b2;exact⟨a2.1.trans b2.1.symm,a2.2.trans b2.2.symm⟩):P:=h
def zuf(h:P:=by simp only[Fo.keys,Fo.cw,yF];omega):P:=h
def yly(h:P:=by have:=Ye gr;rw[zy];omega):P:=h
def ylx(h:P:=by have:=Ye po;rw[zy];omega):P:=h
def zud(h:P:=by go_wp2;go_ret;exact⟨by rw[HB.o];rfl,(Fr.refl yH w).alloc _⟩):P:=h
def zub(h:P:=by obtain⟨vt,rfl,hr⟩:=h;exact⟨_,rfl,yd.app hg r vt hr⟩):P:=h
def WA(h:P:=by simp[yN,results130,go_sem]):P:=h
def Wa(h:P:=by rw[hch];exact⟨rfl,HF.o⟩):P:=h
def zq0(h:P:=by rw[zo,yz (ne j hj)];exact hf.cell hc nA):P:=h
def zq1(h:P:=by rw[zh,zy,zY];omega):P:=h
def ylu(h:P:=by have:=yv.2 (Uo r);omega):P:=h
def M9(h:P:=by exact(Gj h).trans s1):P:=h
def zq2(h:P:=by go_wp2;go_ret;rw[HB.o];exact⟨rfl,HF.o.tg (λ_ q=>q.elim)⟩):P:=h
def zq3(h:P:=by exact(List.prefix_iff_eq_take.1 (KX _)).symm):P:=h
def zq4(h:P:=by have:=(XU 39).1;show(enc 39).length+4*i<=4*(i+2);omega):P:=h
def zq5(h:P:=by have:=(XU 39).1;show(enc 39).length+4*i<=4*(i+1);omega):P:=h
def zq6(h:P:=by
 have:=KW.o
 cases r2<;>simp[Fo.len]at EA<;>first|rfl|omega):P:=h
def zq7(h:P:=by have:=wN.o;simp[Fo.wf]at this;exact this.1):P:=h
def zq8(h:P:=by rw[hb.cell (X w _ h2)];exact h2):P:=h
def zq9(h:P:=by
 rcases yX.1 hz with rfl|hz
 .exact b2
 .exact a5 z hz):P:=h
def zqz(h:P:=by have:=Zb.o;have:=xgd.o;simp at this;omega):P:=h
def ylq(h:P:=by rw[hlw]at hx;exact List.mem_of_mem_take hx):P:=h
def ylk(h:P:=by rw[hlf]at hx;exact dV hx):P:=h
def Wc(h:P:=by cases h;exact⟨ha,Y _⟩):P:=h
def ylj(h:P:=by simp[yl]at e;have qE:=ybx.o;have:=HBq.o;omega):P:=h
def ylg(h:P:=by simp[yl]at e;have:=HBq.o;omega):P:=h
def zqy(h:P:=by exact .inr ⟨k',q1,by rw[fN];exact q2,Dd q3,q4⟩):P:=h
def We(h:P:=by unfold gN;rw[hs]):P:=h
def ylf(h:P:=by have:=Pk gr fi ne ds lw k;simp;omega):P:=h
def zqx(h:P:=by dsimp only[uq];rw[zy];simpa[bo]using ho):P:=h
def yld(h:P:=by simp[yl]at e;have:=HQ.o;omega):P:=h
def zqv(h:P:=by have:=ty _ q;rw[h.tA]at this;simp at this):P:=h
def zqu(h:P:=by have:=ty _ q;rw[h.tQ]at this;simp at this):P:=h
def Mz(h:P:=by rw[bne,j1];rfl):P:=h
def zqq(h:P:=by have:=yv.2 h1;simp;omega):P:=h
def zqk(h:P:=by cases hg;exact kD _ (Um.lt q)):P:=h
def zqj(h:P:=by have:=hF g q;have:=(h.all g hg).2.1;omega):P:=h
def zqg(h:P:=by rw[Od gM];exact(h3 k).1):P:=h
def ylb(h:P:=by
 intro L;refine ep (rs:=[1,3,4]) yq (by simp) (vo rfl (λK hK=>?_) (vo rfl (λK hK=>?_) (vo rfl (λK hK=>?_) Zq)))
 .skip
  go_simp;refine(Wi.o wD FZ HPD.o).mono ?_;rintro e Yx ⟨hq,My⟩;obtain⟨q0,Zd⟩:=zr (gG (t).tail);rw[Zd]at hq
  cases q0 with
  |none =>
   obtain rfl:=hq;refine⟨rfl,?_,FZ.trans My⟩;exact P7
  |some q0 =>
   obtain⟨mv,t3⟩:=q0;have HN:=Z Zd;obtain⟨rfl,iE⟩:=hq;have Pj:=Z iE;have gy:=FZ.trans My;have Fe:=cQD.but My Ea;clear Zd;clear iE;refine hK.out _ _ Fe.c λ_=>?_;clear hK K;refine ep (rs:=[3,4]) yq (by simp) (vo rfl (λK hK=>?_) (vo rfl (λK hK=>?_) Zq))
   .skip
    go_simp;have FA:∃N,N=Yx.alloc (.cells #[(.int .i64 0)] 3)/\xI p Yx N/\vP N (Yx:Nat) (.int .i64 0):=⟨_,rfl,(xI.refl _ _).alloc _,vP.made _ _ _ zR⟩;obtain⟨bp,hW,ZM,ET⟩:=FA;have Ec:∀o,o=qH (Yx,0)->o=o:=λ_ _=>rfl
    rw[<-hW];have Dh:=Z (Pj.o.below (show yD Yx Yx bp by rw[hW];exact(zv _ _).alloc (Y _) _));have jz:=gy.trans ZM;have Vf:=Fe.but ZM Ea;have dR:(w:Nat)<=(Yx:Nat):=gy.size;have XF:(Yx:Nat)≠Q:=λe=>LP
    clear hW Ec;obtain⟨k4,KJ⟩:∃k,k=(Yx:Nat):=⟨_,rfl⟩;rw[<-KJ]at ET dR XF|-
    have Vd:k4≠p:=J
    have HK4:=Z KJ;clear KJ;refine hK.out _ _ Vf.c λ_=>?_;clear hK K;refine gX 4 (λK hK=>?_);go_simp;have FA:∃N,N=bp.alloc (.cells #[.nilFunc] 294)/\xI p bp N/\vP N (bp:Nat) .nilFunc:=⟨_,rfl,(xI.refl _ _).alloc _,vP.made _ _ _ zR⟩;obtain⟨Pg,hW,dh,QT⟩:=FA;have Ec:∀o,o=qH (bp,0)->o=o:=λ_ _=>rfl
    rw[<-hW];have Gg:=Z (Dh.o.below (show yD bp bp Pg by rw[hW];exact(zv _ _).alloc (Y _) _));have dw:=jz.trans dh;have Yi:=Vf.but dh Ea;have dS:(w:Nat)<=(bp:Nat):=jz.size;have XD:(bp:Nat)≠Q:=λe=>LR
    clear hW Ec;have Vb:=ET.but dh Vd;have Dw:(bp:Nat)≠k4:=λe=>zu2
    obtain⟨k5,Db⟩:∃k,k=(bp:Nat):=⟨_,rfl⟩;rw[<-Db]at QT dS XD|-
    rw[<-Db]at Dw;have VZ:k5≠p:=J
    have HK5:=Z Db;clear Db;refine hK.out _ _ Yi.c λ_=>?_;clear hK K;refine Up (m:=#[true,true,true,true,true,false,false]) (by kernel_rfl) ?_;exact L Pg k4 k5 mv ⟨⟨t3,HN.o,Gg.o⟩,dw,Yi,Vb,QT,dR,dS,J,Vd,VZ,XF,XD⟩
   .skip
    go_simp;have FA:∃N,N=Yx.alloc (.cells #[.nilFunc] 294)/\xI p Yx N/\vP N (Yx:Nat) .nilFunc:=⟨_,rfl,(xI.refl _ _).alloc _,vP.made _ _ _ zR⟩;obtain⟨bp,hW,ZM,EW⟩:=FA;have Ec:∀o,o=qH (Yx,0)->o=o:=λ_ _=>rfl
    rw[<-hW];have Dh:=Z (Pj.o.below (show yD Yx Yx bp by rw[hW];exact(zv _ _).alloc (Y _) _));have jz:=gy.trans ZM;have Vf:=Fe.but ZM Ea;have dS:(w:Nat)<=(Yx:Nat):=gy.size;have XD:(Yx:Nat)≠Q:=λe=>LP
    clear hW Ec;obtain⟨k5,Db⟩:∃k,k=(Yx:Nat):=⟨_,rfl⟩;rw[<-Db]at EW dS XD|-
    have VZ:k5≠p:=J
    have HK5:=Z Db;clear Db;refine hK.out _ _ Vf.c λ_=>?_;clear hK K;refine gX 3 (λK hK=>?_);go_simp;have FA:∃N,N=bp.alloc (.cells #[(.int .i64 0)] 3)/\xI p bp N/\vP N (bp:Nat) (.int .i64 0):=⟨_,rfl,(xI.refl _ _).alloc _,vP.made _ _ _ zR⟩;obtain⟨Pg,hW,dh,Vb⟩:=FA;have Ec:∀o,o=qH (bp,0)->o=o:=λ_ _=>rfl
    rw[<-hW];have Gg:=Z (Dh.o.below (show yD bp bp Pg by rw[hW];exact(zv _ _).alloc (Y _) _));have dw:=jz.trans dh;have Yi:=Vf.but dh Ea;have dR:(w:Nat)<=(bp:Nat):=jz.size;have XF:(bp:Nat)≠Q:=λe=>LR
    clear hW Ec;have QT:=EW.but dh VZ;have Dw:(bp:Nat)≠k5:=λe=>zu3
    obtain⟨k4,KJ⟩:∃k,k=(bp:Nat):=⟨_,rfl⟩;rw[<-KJ]at Vb dR XF|-
    rw[<-KJ]at Dw;have Vd:k4≠p:=J
    have HK4:=Z KJ;clear KJ;refine hK.out _ _ Yi.c λ_=>?_;clear hK K;refine Up (m:=#[true,true,true,true,true,false,false]) (by kernel_rfl) ?_;exact L Pg k4 k5 mv ⟨⟨t3,HN.o,Gg.o⟩,dw,Yi,Vb,QT,dR,dS,J,Vd,VZ,XF,XD⟩
 .skip
  go_simp;have FA:∃N,N=wD.alloc (.cells #[(.int .i64 0)] 3)/\xI p wD N/\vP N (wD:Nat) (.int .i64 0):=⟨_,rfl,(xI.refl _ _).alloc _,vP.made _ _ _ zR⟩;obtain⟨Yx,hW,My,yy9⟩:=FA;have Ec:∀o,o=qH (wD,0)->o=o:=λ_ _=>rfl
  rw[<-hW];have Pj:=Z (HPD.o.below (show yD wD wD Yx by rw[hW];exact(zv _ _).alloc (Y _) _));have gy:=FZ.trans My;have Fe:=cQD.but My Ea;have dR:(w:Nat)<=(wD:Nat):=FZ.size;have XF:(wD:Nat)≠Q:=λe=>zuz
  clear hW Ec;obtain⟨k4,KJ⟩:∃k,k=(wD:Nat):=⟨_,rfl⟩;rw[<-KJ]at yy9 dR XF|-
  have Vd:k4≠p:=J
  have HK4:=Z KJ;clear KJ;refine hK.out _ _ Fe.c λ_=>?_;clear hK K;refine ep (rs:=[1,4]) yq (by simp) (vo rfl (λK hK=>?_) (vo rfl (λK hK=>?_) Zq))
  .skip
   go_simp;refine(Wi.o Yx gy Pj.o).mono ?_;rintro e bp ⟨hq,ZM⟩;obtain⟨q0,Zd⟩:=zr (gG (t).tail);rw[Zd]at hq
   cases q0 with
   |none =>
    obtain rfl:=hq;refine⟨rfl,?_,gy.trans ZM⟩;exact P7
   |some q0 =>
    obtain⟨mv,t3⟩:=q0;have HN:=Z Zd;obtain⟨rfl,iE⟩:=hq;have Dh:=Z iE;have jz:=gy.trans ZM;have Vf:=Fe.but ZM Ea;clear Zd;have ET:=yy9.but ZM Vd;clear iE;refine hK.out _ _ Vf.c λ_=>?_;clear hK K;refine gX 4 (λK hK=>?_);go_simp;have FA:∃N,N=bp.alloc (.cells #[.nilFunc] 294)/\xI p bp N/\vP N (bp:Nat) .nilFunc:=⟨_,rfl,(xI.refl _ _).alloc _,vP.made _ _ _ zR⟩;obtain⟨Pg,hW,dh,QT⟩:=FA;have Ec:∀o,o=qH (bp,0)->o=o:=λ_ _=>rfl
    rw[<-hW];have Gg:=Z (Dh.o.below (show yD bp bp Pg by rw[hW];exact(zv _ _).alloc (Y _) _));have dw:=jz.trans dh;have Yi:=Vf.but dh Ea;have dS:(w:Nat)<=(bp:Nat):=jz.size;have XD:(bp:Nat)≠Q:=λe=>LR
    clear hW Ec;have Vb:=ET.but dh Vd;have Dw:(bp:Nat)≠k4:=λe=>zu2
    obtain⟨k5,Db⟩:∃k,k=(bp:Nat):=⟨_,rfl⟩;rw[<-Db]at QT dS XD|-
    rw[<-Db]at Dw;have VZ:k5≠p:=J
    have HK5:=Z Db;clear Db;refine hK.out _ _ Yi.c λ_=>?_;clear hK K;refine Up (m:=#[true,true,true,true,true,false,false]) (by kernel_rfl) ?_;exact L Pg k4 k5 mv ⟨⟨t3,HN.o,Gg.o⟩,dw,Yi,Vb,QT,dR,dS,J,Vd,VZ,XF,XD⟩
  .skip
   go_simp;have FA:∃N,N=Yx.alloc (.cells #[.nilFunc] 294)/\xI p Yx N/\vP N (Yx:Nat) .nilFunc:=⟨_,rfl,(xI.refl _ _).alloc _,vP.made _ _ _ zR⟩;obtain⟨bp,hW,ZM,EW⟩:=FA;have Ec:∀o,o=qH (Yx,0)->o=o:=λ_ _=>rfl
   rw[<-hW];have Dh:=Z (Pj.o.below (show yD Yx Yx bp by rw[hW];exact(zv _ _).alloc (Y _) _));have jz:=gy.trans ZM;have Vf:=Fe.but ZM Ea;have dS:(w:Nat)<=(Yx:Nat):=gy.size;have XD:(Yx:Nat)≠Q:=λe=>LP
   clear hW Ec;have ET:=yy9.but ZM Vd;have Dw:(Yx:Nat)≠k4:=λe=>by have:=yy9.lt;omega
   obtain⟨k5,Db⟩:∃k,k=(Yx:Nat):=⟨_,rfl⟩;rw[<-Db]at EW dS XD|-
   rw[<-Db]at Dw;have VZ:k5≠p:=J
   have HK5:=Z Db;clear Db;refine hK.out _ _ Vf.c λ_=>?_;clear hK K;refine gX 1 (λK hK=>?_);go_simp;refine(Wi.o bp jz Dh.o).mono ?_;rintro e Pg ⟨hq,dh⟩;obtain⟨q0,Zd⟩:=zr (gG (t).tail);rw[Zd]at hq
   cases q0 with
   |none =>
    obtain rfl:=hq;refine⟨rfl,?_,jz.trans dh⟩;exact P7
   |some q0 =>
    obtain⟨mv,t3⟩:=q0;have HN:=Z Zd;obtain⟨rfl,iE⟩:=hq;have Gg:=Z iE;have dw:=jz.trans dh;have Yi:=Vf.but dh Ea;clear Zd;have Vb:=ET.but dh Vd;have QT:=EW.but dh VZ;clear iE;refine hK.out _ _ Yi.c λ_=>?_;clear hK K;refine Up (m:=#[true,true,true,true,true,false,false]) (by kernel_rfl) ?_;exact L Pg k4 k5 mv ⟨⟨t3,HN.o,Gg.o⟩,dw,Yi,Vb,QT,dR,dS,J,Vd,VZ,XF,XD⟩
 .skip
  go_simp;have FA:∃N,N=wD.alloc (.cells #[.nilFunc] 294)/\xI p wD N/\vP N (wD:Nat) .nilFunc:=⟨_,rfl,(xI.refl _ _).alloc _,vP.made _ _ _ zR⟩;obtain⟨Yx,hW,My,yyz⟩:=FA;have Ec:∀o,o=qH (wD,0)->o=o:=λ_ _=>rfl
  rw[<-hW];have Pj:=Z (HPD.o.below (show yD wD wD Yx by rw[hW];exact(zv _ _).alloc (Y _) _));have gy:=FZ.trans My;have Fe:=cQD.but My Ea;have dS:(w:Nat)<=(wD:Nat):=FZ.size;have XD:(wD:Nat)≠Q:=λe=>zuz
  clear hW Ec;obtain⟨k5,Db⟩:∃k,k=(wD:Nat):=⟨_,rfl⟩;rw[<-Db]at yyz dS XD|-
  have VZ:k5≠p:=J
  have HK5:=Z Db;clear Db;refine hK.out _ _ Fe.c λ_=>?_;clear hK K;refine ep (rs:=[1,3]) yq (by simp) (vo rfl (λK hK=>?_) (vo rfl (λK hK=>?_) Zq))
  .skip
   go_simp;refine(Wi.o Yx gy Pj.o).mono ?_;rintro e bp ⟨hq,ZM⟩;obtain⟨q0,Zd⟩:=zr (gG (t).tail);rw[Zd]at hq
   cases q0 with
   |none =>
    obtain rfl:=hq;refine⟨rfl,?_,gy.trans ZM⟩;exact P7
   |some q0 =>
    obtain⟨mv,t3⟩:=q0;have HN:=Z Zd;obtain⟨rfl,iE⟩:=hq;have Dh:=Z iE;have jz:=gy.trans ZM;have Vf:=Fe.but ZM Ea;clear Zd;have EW:=yyz.but ZM VZ;clear iE;refine hK.out _ _ Vf.c λ_=>?_;clear hK K;refine gX 3 (λK hK=>?_);go_simp;have FA:∃N,N=bp.alloc (.cells #[(.int .i64 0)] 3)/\xI p bp N/\vP N (bp:Nat) (.int .i64 0):=⟨_,rfl,(xI.refl _ _).alloc _,vP.made _ _ _ zR⟩;obtain⟨Pg,hW,dh,Vb⟩:=FA;have Ec:∀o,o=qH (bp,0)->o=o:=λ_ _=>rfl
    rw[<-hW];have Gg:=Z (Dh.o.below (show yD bp bp Pg by rw[hW];exact(zv _ _).alloc (Y _) _));have dw:=jz.trans dh;have Yi:=Vf.but dh Ea;have dR:(w:Nat)<=(bp:Nat):=jz.size;have XF:(bp:Nat)≠Q:=λe=>LR
    clear hW Ec;have QT:=EW.but dh VZ;have Dw:(bp:Nat)≠k5:=λe=>zu3
    obtain⟨k4,KJ⟩:∃k,k=(bp:Nat):=⟨_,rfl⟩;rw[<-KJ]at Vb dR XF|-
    rw[<-KJ]at Dw;have Vd:k4≠p:=J
    have HK4:=Z KJ;clear KJ;refine hK.out _ _ Yi.c λ_=>?_;clear hK K;refine Up (m:=#[true,true,true,true,true,false,false]) (by kernel_rfl) ?_;exact L Pg k4 k5 mv ⟨⟨t3,HN.o,Gg.o⟩,dw,Yi,Vb,QT,dR,dS,J,Vd,VZ,XF,XD⟩
  .skip
   go_simp;have FA:∃N,N=Yx.alloc (.cells #[(.int .i64 0)] 3)/\xI p Yx N/\vP N (Yx:Nat) (.int .i64 0):=⟨_,rfl,(xI.refl _ _).alloc _,vP.made _ _ _ zR⟩;obtain⟨bp,hW,ZM,ET⟩:=FA;have Ec:∀o,o=qH (Yx,0)->o=o:=λ_ _=>rfl
   rw[<-hW];have Dh:=Z (Pj.o.below (show yD Yx Yx bp by rw[hW];exact(zv _ _).alloc (Y _) _));have jz:=gy.trans ZM;have Vf:=Fe.but ZM Ea;have dR:(w:Nat)<=(Yx:Nat):=gy.size;have XF:(Yx:Nat)≠Q:=λe=>LP
   clear hW Ec;have EW:=yyz.but ZM VZ;have Dw:(Yx:Nat)≠k5:=λe=>by have:=yyz.lt;omega
   obtain⟨k4,KJ⟩:∃k,k=(Yx:Nat):=⟨_,rfl⟩;rw[<-KJ]at ET dR XF|-
   rw[<-KJ]at Dw;have Vd:k4≠p:=J
   have HK4:=Z KJ;clear KJ;refine hK.out _ _ Vf.c λ_=>?_;clear hK K;refine gX 1 (λK hK=>?_);go_simp;refine(Wi.o bp jz Dh.o).mono ?_;rintro e Pg ⟨hq,dh⟩;obtain⟨q0,Zd⟩:=zr (gG (t).tail);rw[Zd]at hq
   cases q0 with
   |none =>
    obtain rfl:=hq;refine⟨rfl,?_,jz.trans dh⟩;exact P7
   |some q0 =>
    obtain⟨mv,t3⟩:=q0;have HN:=Z Zd;obtain⟨rfl,iE⟩:=hq;have Gg:=Z iE;have dw:=jz.trans dh;have Yi:=Vf.but dh Ea;clear Zd;have Vb:=ET.but dh Vd;have QT:=EW.but dh VZ;clear iE;refine hK.out _ _ Yi.c λ_=>?_;clear hK K;refine Up (m:=#[true,true,true,true,true,false,false]) (by kernel_rfl) ?_;exact L Pg k4 k5 mv ⟨⟨t3,HN.o,Gg.o⟩,dw,Yi,Vb,QT,dR,dS,J,Vd,VZ,XF,XD⟩):P:=h
def zqf(h:P:=by
 have HBB:=Z OB;clear OB;have hX1:=hX.below qE hg;have oB:=hB.KL qE (by intro q hq;cases hq;exact hgd);refine(yyy gd od n cap sc _ l _ hl hs Pf J oB).mono ?_;rintro e w2 ⟨⟨a1,cp1,rfl,ha1,hI⟩,qY⟩;obtain⟨nw,hnw⟩:∃k:Nat,k=n - sc:=⟨_,rfl⟩;obtain⟨lw,hlw⟩:∃k:List Int,k=l.take nw:=⟨_,rfl⟩;rw[<-hnw]at hI|-
 rw[<-hlw]at hI;have hlen:lw.length=nw:=by rw[hlw];simp;omega
 have hdw:∀x∈lw,0<=x/\x<=9:=λx hx=>hd x ylq
 have xf1:=IsBuilder.later ym1 qY;have EV:(w:Nat)+2<=(w2:Nat):=by have:=qY.size;omega
 have Wl:zP w w2:=qE.trans (qY.mono J);have hd0:zu w2 (w:Nat) 0 (.bool bb):=by rw[HBB.o,qY.cell (by simp;omega)];exact YZ
 have Ti:zu w2 (w:Nat) 1 (.slice (zU gd od) n cap):=by rw[qY.cell yJ];exact Vj
 have EO:zu w2 (w:Nat) 2 sc:=by rw[qY.cell yJ];exact Xq
 clear YZ Vj Xq ym1 qE oB hX1 qY xf2;have HNW:=Z hnw;have HLW:=Z hlw;have uf2:nw<=10000:=J
 have QX:=Z hlen;have HL:=Z hl;clear hnw hlw hlen hl;go_wp2;go_loopw [22] (λi wr=>∃k:Nat,k<=nw/\i = .int .i64 k/\xP 113 5 ((w:Nat)+1) ((w:Nat)+1) (yx (Ee++VY gr fi ne ds lw k)) wr/\yD ((w:Nat)+1) w2 wr) (λi _=>nw - (intOf i).toNat)
 case atStart=>exact⟨0,J,rfl,by simpa[VY]using xf1,zv _ _⟩
 case round =>
  obtain⟨k,hk,rfl,iH,Ei⟩:=hrel;have XB:zP w wr:=Wl.trans (Ei.mono J);have hXr:=hX.below XB hg;have hIr:=hI.KL Ei (by intro q hq;have:=ha1 q hq;omega);have hzr:(w:Nat)+2<=(wr:Nat):=by have:=Ei.size;omega
  have KP:(Ee++VY gr fi ne ds lw k).length<=200000:=ylf
  by_cases uo:k<nw
  .have yl0:k<lw.length:=by rw[QX.o];exact uo
   obtain⟨q,rfl,dP⟩:=hIr k yl0;obtain⟨m,hm,yy7⟩:=KA (hdw lw[k] (yf yl0));rw[hm]at dP;have hmd:m<ds.length:=zvq
   have hdm:=hXr.c7 m hmd;have c4:=hXr.c4;have oC:(nw:Int) - (k:Int)=((nw - k:Nat):Int):=J
   have QV:=I8 gr fi ne ds lw k;have zqd:De ds lw k=yA ds[m]:=yib
   rw[zqd,QX.o]at QV;have V5:=Z QV;have oE:=hds ds[m] (yf hmd);have hxm:(0:Int)<=(m:Int):=J
   have xf3:m<10:=yy7;clear hm zqd QV;by_cases iI:0<k
   .go_wp2_with fail;refine(Wm g mi po gr fi ne ds (nw - k) _ hXr J hfi gM vk0).mono ?_;rintro e w3 ⟨rfl,nq,rfl⟩;obtain⟨pb,hpb⟩:∃p,Yl gr fi ne (nw - k)=p:=⟨_,rfl⟩;rw[hpb];have ZN:=V5.o;rw[hpb]at ZN;have xf5:decide (0<k)=true:=by simpa using iI
    rw[xf5,gR]at ZN;have V6:=Z ZN;have xf6:=IsBuilder.later iH (below_drewN (zv _ _) nq);have hbq:=below_drewN (zv ((w:Nat)+1) wr) nq;have hdq:zu (wr.drewN nq) g (7+m) (.int .i32 ds[m]):=hdm;clear V5 ZN xf5 hpb
    cases pb
    .go_wp2_with fail;refine(Vl _ _ _ _ oE _ xf6 J (by simp;omega)).mono ?_;rintro e w4 ⟨⟨v,rfl⟩,Mx,VD⟩;have Gf:xP 113 5 ((w:Nat)+1) ((w:Nat)+1) (yx (Ee++VY gr fi ne ds lw (k+1))) w4:=by
      rw[V6.o];simpa using Mx
     have hbf:=Ei.trans (hbq.trans VD);go_wp2;go_roundw
     case rel=>exact⟨k+1,J,by go_num,Gf,hbf⟩
     case measure=>simp[intOf];omega
    .go_wp2_with fail;refine(Vl _ _ _ _ Pd _ xf6 J (by simp;omega)).mono ?_;rintro e w4 ⟨⟨v,rfl⟩,Mx,VD⟩;have xf7:=VD.size;have vk1:zu w4 g (7+m) (.int .i32 ds[m]):=by rw[VD.cell (by simp;omega)];exact hdq
     have vk2:(Ee++VY gr fi ne ds lw k++yA gr).length<=300000:=yly
     go_wp2_with fail;refine(Vl _ _ _ _ oE _ Mx J (by simp at xf7;omega)).mono ?_;rintro e w5 ⟨⟨v5,rfl⟩,ym2,ZZ⟩;have Gf:xP 113 5 ((w:Nat)+1) ((w:Nat)+1) (yx (Ee++VY gr fi ne ds lw (k+1))) w5:=by
      rw[V6.o];simpa using ym2
     have hbf:=Ei.trans (hbq.trans (VD.trans ZZ));go_wp2;go_roundw
     case rel=>exact⟨k+1,J,by go_num,Gf,hbf⟩
     case measure=>simp[intOf];omega
   .have vk3:k=0:=by omega
    subst vk3;clear iI;have ym3:wr.cell? q=some (.int .u8 m):=yl4
    have ZN:VY gr fi ne ds lw 1=VY gr fi ne ds lw 0++yA ds[m]:=zu1
    have V6:=Z ZN;clear ZN dP V5;go_wp2_with fail;refine(Vl _ _ _ _ oE _ iH J (by omega)).mono ?_;rintro e w4 ⟨⟨v,rfl⟩,Mx,VD⟩;have Gf:xP 113 5 ((w:Nat)+1) ((w:Nat)+1) (yx (Ee++VY gr fi ne ds lw 1)) w4:=by
     rw[V6.o];simpa using Mx
    have hbf:=Ei.trans VD;go_wp2;go_roundw
    case rel=>exact⟨1,J,by go_num,Gf,hbf⟩
    case measure=>simp[intOf];omega
  .have hk':k=nw:=by omega
   subst hk';clear hIr hI uo;have he0:zu wr (w:Nat) 0 (.bool bb):=by rw[Ei.cell zZ];exact hd0
   have he1:zu wr (w:Nat) 1 (.slice (zU gd od) n cap):=by rw[Ei.cell zZ];exact Ti
   have TJ:zu wr (w:Nat) 2 sc:=by rw[Ei.cell zZ];exact EO
   have hBr:=hB.KL XB (by intro q hq;cases hq;exact hgd);go_wp2_with fail;refine(zqb gd od n cap sc _ l _ HL.o hs Pf J hBr).mono ?_;rintro e w3 ⟨⟨a2,cp2,rfl,ha2,hF⟩,dD⟩;rw[<-HNW.o]at hF;obtain⟨lf,hlf⟩:∃x:List Int,x=l.drop k:=⟨_,rfl⟩;rw[<-hlf]at hF;have hlen:lf.length=sc:=by rw[hlf];simp;have:=HL.o;have:=HNW.o;omega
   have EZ:∀x∈lf,0<=x/\x<=9:=λx hx=>hd x ylk
   have xf8:=IsBuilder.later iH dD;have Te:(w:Nat)+2<=(w3:Nat):=by have:=dD.size;omega
   have vk4:zP w w3:=XB.trans (dD.mono J);obtain⟨oH,ym4⟩:∃x:List UInt8,x=Ee++VY gr fi ne ds lw k:=⟨_,rfl⟩;rw[<-ym4]at xf8 KP;have HLF:=Z hlf;have HFN:=Z hlen;have HA1:=Z ym4;clear hlf hlen ym4 iH dD he0 he1 TJ hd0 Ti EO Ei XB hXr hzr hBr xf1 Wl EV;have hsc:sc<=10000:=by omega
   go_wp2;go_loopw [53] (λi wr=>∃k:Nat,k<=sc/\i = .int .i64 k/\xP 113 5 ((w:Nat)+1) ((w:Nat)+1) (yx (oH++fO po ds lf k)) wr/\yD ((w:Nat)+1) w3 wr) (λi _=>sc - (intOf i).toNat)
   case atStart=>exact⟨0,J,rfl,by simpa[fO]using xf8,zv _ _⟩
   case round =>
    obtain⟨j,hj,rfl,iH,Ei⟩:=hrel;have XB:zP w wr:=vk4.trans (Ei.mono J);have hXr:=hX.below XB hg;have hFr:=hF.KL Ei (by intro q hq;have:=ha2 q hq;omega);have hzr:(w:Nat)+2<=(wr:Nat):=by have:=Ei.size;omega
    have ym5:(oH++fO po ds lf j).length<=400000:=by have:=I9 po ds lf j;simp;omega
    by_cases uo:j<sc
    .have yl2:j<lf.length:=by rw[HFN.o];exact uo
     obtain⟨q,rfl,dP⟩:=hFr j yl2;obtain⟨m,hm,yy7⟩:=KA (EZ lf[j] (yf yl2));rw[hm]at dP;have hmd:m<ds.length:=zvq
     have hdm:=hXr.c7 m hmd;have c3:=hXr.c3;have QV:=B0 po ds lf j;have zqd:De ds lf j=yA ds[m]:=yl1
     rw[zqd]at QV;have V5:=Z QV;have oE:=hds ds[m] (yf hmd);have hxm:(0:Int)<=(m:Int):=J
     have xf3:m<10:=yy7;clear hm zqd QV;by_cases hj0:j=0
     .subst hj0;have ym3:wr.cell? q=some (.int .u8 m):=by rw[show q.add 0=q by unfold bW;simp]at dP;exact dP
      have ZN:fO po ds lf 1=fO po ds lf 0++(yA po++yA ds[m]):=zu1
      have V6:=Z ZN;clear ZN dP V5;go_wp2_with fail;refine(Vl _ _ _ _ hpo _ iH J (by omega)).mono ?_;rintro e w4 ⟨⟨v,rfl⟩,Mx,VD⟩;have xf7:=VD.size;have vk1:zu w4 g (7+m) (.int .i32 ds[m]):=by rw[VD.cell (by simp;omega)];exact hdm
      have vk2:(oH++fO po ds lf 0++yA po).length<=500000:=ylx
      go_wp2_with fail;refine(Vl _ _ _ _ oE _ Mx J (by omega)).mono ?_;rintro e w5 ⟨⟨v5,rfl⟩,ym2,ZZ⟩;have Gf:xP 113 5 ((w:Nat)+1) ((w:Nat)+1) (yx (oH++fO po ds lf 1)) w5:=by
       rw[V6.o];simpa using ym2
      have hbf:=Ei.trans (VD.trans ZZ);go_wp2;go_roundw
      case rel=>exact⟨1,J,by go_num,Gf,hbf⟩
      case measure=>simp[intOf];omega
     .have uf4:((j:Int)==0)=false:=by simpa using hj0
      have ZN:fO po ds lf (j+1)=fO po ds lf j++yA ds[m]:=yl5
      have V6:=Z ZN;clear ZN V5;go_wp2_with fail;refine(Vl _ _ _ _ oE _ iH J (by omega)).mono ?_;rintro e w4 ⟨⟨v,rfl⟩,Mx,VD⟩;have Gf:xP 113 5 ((w:Nat)+1) ((w:Nat)+1) (yx (oH++fO po ds lf (j+1))) w4:=by
       rw[V6.o];simpa using Mx
      have hbf:=Ei.trans VD;go_wp2;go_roundw
      case rel=>exact⟨j+1,J,by go_num,Gf,hbf⟩
      case measure=>simp[intOf];omega
    .have hj':j=sc:=by omega
     subst hj';clear hFr hF uo;have Gf:oH++fO po ds lf j=VS bb l j mi po gr fi ne ds:=yig
     rw[HBB.o]at Gf;have XX:=Z Gf;clear Gf;go_wp2_with fail;refine(Tryz.Builder_String_any _ _ _ _ iH J).mono ?_;rintro e w5 ⟨rfl,ZZ⟩;go_wp2;go_ret;exact⟨by rw[<-XX.o];rfl,XB.trans (ZZ.mono (by omega))⟩):P:=h
def Wn(h:P:=by
 have HL:=HLK;have HS:=HSK;have Fc:=Wo;clear HLK HSK Wo;obtain⟨Jk,hJ⟩:=zr (yt rs j);rw[hJ]at HT;have HJ:=Z hJ;clear hJ;refine(ji p rs j d Xk HS.out).mono ?_;rintro e x1 ⟨rfl,V4,DS⟩;rw[HJ.o]at V4;have qE:=Fc.trans DS;have KG:=Z V4;have Pb:=Z (HL.out.but DS J);have g5:=V4.at_;clear V4 DS HJ HL HS Fc;go_wp2_with fail;refine(ZO p rs Jk d 123 x1 KG.o (by decide)).mono ?_;rintro e x2 ⟨hq,dB⟩;have qY:=qE.trans dB;have HL2:=Z (Pb.o.but dB (by omega));clear g5;by_cases hw:zt rs Jk=123
 .rw[yV hw]at hq;obtain⟨rfl,Ym⟩:=hq;have dn:=Z Ym;have g6:=Ym.deep;have EP:=Z (show R=Ka rs msg Wp K i Jk (Jk+1)by rw[HT.o];unfold uA;rw[yV hw];rfl);clear Ym hw HT
  cases msg with
  |none =>
   exact xg2
  |some m =>
   have iV:d≠6:=λe=>ylz
   have uf5:((d:Int)==6)=false:=yJ
   have iL:=HMC.o m rfl Wp (Jk+1) x2 dn.o (oI.o.but qY);obtain⟨r,hr⟩:=zr (m Wp (Jk+1));rw[hr]at iL;rw[PZ]at iL;have B1:=Z iL;have HT3:=Z (show R=r.then λf q=>(uA rs 125 q).then λ_ z => .ok (.xR K i f .nil,yt rs z)by rw[EP.o,<-hr];rfl);clear iL hr EP;go_wp2_with fail;refine B1.o.mono ?_;rintro e x3 ⟨hq,hx3⟩;have dD:=qY.trans hx3;have HL3:=Z (HL2.o.but hx3 J)
   cases r with
   |error en =>
    exact xg9
   |ok fq =>
    obtain⟨f,q⟩:=fq;obtain⟨⟨ma,mc,rfl,vs,Y9,Fl⟩,oD,hs3⟩:=hq;obtain⟨wE,Y8,G9,PY⟩:=hdd (show R=(uA rs 125 q).then λ_ z => .ok (.xR K i f .nil,yt rs z)from HT3.o) Y9 Fl hs3;have z2:=HL3.o.z 2;have q2:=HL3.o.c2;have HSK:=Z (PY.o.own (B:=B) J 2 (.slice ma f.len mc));have HLK:=Z (HL3.o.vk7 (u := .slice ma f.len mc));have Wo:xI p w (x3.setCell (zU B 2) (.slice ma f.len mc)):=dD.own (by have:=HB.o;omega) 2 _;obtain⟨Yk,hY⟩:=zr (x3.setCell (zU B 2) (.slice ma f.len mc));rw[hY]at HSK HLK Wo;have HY:=Z hY;clear Y9 Fl hs3 HT3 B1 hY;go_wp2_with fail;rw[HY.o];refine(ZO p rs q d 125 Yk HSK.o (by decide)).mono ?_;rintro e x4 ⟨hq,hx4⟩;have VD:=Wo.trans hx4;have HL4:=Z (HLK.o.but hx4 (by omega));by_cases hw:zt rs q=125
    .rw[yV hw]at hq;obtain⟨rfl,Oo⟩:=hq;have I5:=Z Oo;obtain⟨J2,hJ2⟩:=zr (yt rs (q+1));have HT5:=Z (show R = .ok (.xR K i f .nil,J2)by rw[wE.o,<-hJ2];show(uA rs 125 q).then _=_;unfold uA;rw[yV hw];rfl);have HJ2:=Z hJ2;clear Oo hw hJ2 wE;go_wp2_with fail;refine(ji p rs (q+1) d x4 I5.o).mono ?_;rintro e x5 ⟨rfl,hs5,hx5⟩;rw[HJ2.o]at hs5;have ZZ:=VD.trans hx5;have Wr:=Z (HL4.o.but hx5 J);have wO:=Z hs5;have k0:=Wr.o.c0;have k1:=Wr.o.c1;have k2:=Wr.o.c2;have y0:=Wr.o.z 0;have y1:=Wr.o.z 1;have y2:=Wr.o.z 2;clear hs5;have B2:B<(x2:Nat):=X _ _ HL2.o.c0;have HKP:=Z (((((((vK (lo:=(x2:Nat)) (Y (x3:Nat))).put B2 2 (.slice ma f.len mc))).but (by rw[HY.o];exact hx4) (by omega)).but hx5 (by omega)).put B2 0 (zM K)).put B2 1 i |>.put B2 2 (.slice ma f.len mc));have HBF:=Z (((ZZ.own (B:=B) (by have:=HB.o;omega) 0 (zM K)).own (B:=B) (by have:=HB.o;omega) 1 i).own (B:=B) (by have:=HB.o;omega) 2 (.slice ma f.len mc));have HSF:=Z (((wO.o.own hpB 0 (zM K)).own hpB 1 i).own hpB 2 (.slice ma f.len mc));go_wp2;rw[HT5.o];refine yK (v := .agg #[zM K,i,.slice ma f.len mc]) ?_ rfl ?_
     .exact yl7
     exact xg8
    .exact xg1
 .exact xg3):P:=h
def zk2(h:P:=by
 intro v5 w5 XC Vm _;have hBg:some B≠(vL (g2,0) (xd r).length Gk).ownBlock:=λe=>ylg
 have hqg:some q≠(vL (g2,0) (xd r).length Gk).ownBlock:=λe=>yld
 have xf9:some (B+1)≠(vL (g2,0) (xd r).length Gk).ownBlock:=λe=>ylj
 have PX:0<(xd r).length+x.2.length:=ylu
 obtain⟨g5,Kc,rfl,uf9,ufz,_⟩:=xf XC PX;have b0:=Vm.cell a0 hBg;have b1:=Vm.cell a1 hBg;have b2:=Vm.cell a2 hBg;have r0:=Vm.cell p0 hqg;have r1:=Vm.cell p1 hqg;have r2:=Vm.cell p2 hqg;have hq4:q<(w4:Nat):=X w4 _ p0;have f0:=(zV (a:=(q,0)) (Vm.block q hq4 hqg)).trans x0;have f1:=(zV (a:=(q,1)) (Vm.block q hq4 hqg)).trans x1;have f2:=(zV (a:=(q,2)) (Vm.block q hq4 hqg)).trans x2;have hr5:=El.grown Vm xf9;have xfz:zP w w5:=EN.grown Vm EN.size (λk hk=>yl9);have ufy:B+1<q:=by have:=ybx.o;have:=HBq.o;have:=HQ.o;omega
 have hBw:(w:Nat)<=B:=by have:=HBq.o;omega
 simp only[Act.put,QL,List.set_cons_zero,List.set_cons_succ];refine hK.out _ _ ⟨b0,b1,b2⟩ λ_=>?_;clear hK K a0 a1 a2 p0 p1 p2 x0 x1 x2 El EN Dp hB4 Vm hBg hqg xf9 hi hz;refine VO [7] 3 ⟨b0,b1,b2⟩ ?_;refine gX 8 (λK hK=>?_);go_simp;have ufx:¬q=B:=J
 refine hK.out _ _ ⟨by rw[yC (h:=by first|(simp;done)|(simp;omega))];exact b0,by rw[yC (h:=by first|(simp;done)|(simp;omega))];exact b1,by rw[yC (h:=by first|(simp;done)|(simp;omega))];exact b2⟩ λ_=>?_;clear hK K;have t0:zu (w5.setCell (zU q 1) (.slice (zU g5 0) ((xd r).length+x.2.length) Kc)) q 0 (.bool false):=by rw[yC (h:=zZ)];exact r0
 have t1:zu (w5.setCell (zU q 1) (.slice (zU g5 0) ((xd r).length+x.2.length) Kc)) q 1 (.slice (zU g5 0) ((xd r).length+x.2.length) Kc):=by rw[uX (h:=r1)]
 have t2:zu (w5.setCell (zU q 1) (.slice (zU g5 0) ((xd r).length+x.2.length) Kc)) q 2 (.int .i64 0):=by rw[yC (h:=zZ)];exact r2
 have u2:(w5.setCell (q,1) (.slice (g5,0) ((xd r).length+x.2.length) Kc)).frozen? (q,2)=false:=by simpa using f2
 have c0:zu (w5.setCell (zU q 1) (.slice (zU g5 0) ((xd r).length+x.2.length) Kc)) B 0 (.bool b):=by rw[yC (h:=iZ)];exact b0
 have c1:zu (w5.setCell (zU q 1) (.slice (zU g5 0) ((xd r).length+x.2.length) Kc)) B 1 (.slice (zU g go) (x.1.length+x.2.length) cap):=by rw[yC (h:=iZ)];exact b1
 have c2:zu (w5.setCell (zU q 1) (.slice (zU g5 0) ((xd r).length+x.2.length) Kc)) B 2 (.int .i64 x.2.length):=by rw[yC (h:=iZ)];exact b2
 have Ke:=hr5.set (a:=(q,1)) zu9 (.slice (g5,0) ((xd r).length+x.2.length) Kc);have oK:=xfz.setCell (p:=(q,1)) (show (w:Nat)<=q by omega) (.slice (g5,0) ((xd r).length+x.2.length) Kc);have xfy:g5≠q:=λe=>by
  subst e;exact Mv XC (Uo r) r0
 have Jn:=xp (p:=(zU q 1)) XC (λe=>xfy (by simpa[yl,eq_comm]using e)) (.slice (zU g5 0) ((xd r).length+x.2.length) Kc);clear b0 b1 b2 r0 r1 r2 f0 f1 f2 hr5 xfz XC;generalize w5.setCell (zU q 1) (.slice (zU g5 0) ((xd r).length+x.2.length) Kc)=w6 at *;refine VO [9] 1 ⟨c0,c1,c2⟩ ?_;refine gX 10 (λK hK=>?_);go_simp;refine hK.out _ _ ⟨by rw[yC (h:=by first|(simp;done)|(simp;omega))];exact c0,by rw[yC (h:=by first|(simp;done)|(simp;omega))];exact c1,by rw[yC (h:=by first|(simp;done)|(simp;omega))];exact c2⟩ λ_=>?_;clear hK K;have d0:zu (w6.setCell (zU q 2) (.int .i64 x.2.length)) q 0 (.bool false):=by rw[yC (h:=zZ)];exact t0
 have d1:zu (w6.setCell (zU q 2) (.int .i64 x.2.length)) q 1 (.slice (zU g5 0) ((xd r).length+x.2.length) Kc):=by rw[yC (h:=zZ)];exact t1
 have d2:zu (w6.setCell (zU q 2) (.int .i64 x.2.length)) q 2 (.int .i64 x.2.length):=by rw[uX (h:=t2)]
 have PV:=Ke.set (a:=(q,2)) zu9 (.int .i64 x.2.length);have yzd:=oK.setCell (p:=(q,2)) (show (w:Nat)<=q by omega) (.int .i64 x.2.length);have ho7:=xp (p:=(q,2)) Jn (λe=>xfy (by simpa[yl,eq_comm]using e)) (.int .i64 x.2.length);clear t0 t1 t2 u2 c0 c1 c2 Ke oK Jn;generalize w6.setCell (q,2) (.int .i64 x.2.length)=w7 at *;refine Y3 ?_ _;have e0:=PV.c0;have e1:=PV.c1;have e2:=PV.c2;have z0:=PV.z0;have z1:=PV.z1;have z2:=PV.z2;have HO7:=Z ho7;have HR7:=Z PV;clear ho7 PV;go_wp2;refine yK (v := .agg #[.bool false,.slice (g5,0) ((xd r).length+x.2.length) Kc,.int .i64 x.2.length]) ?_ rfl ?_
 .simp[yN,results168,go_sem,e0,e1,e2]
 rw[<-HR.o];refine Gd (w:=w) ?_ HR7.o J yzd;have hdd:vz (xd r)++vz x.2=vz (xd r++x.2):=by simp[vz]
 have ho8:=HO7.o;rw[hdd]at ho8;have bh:=jM 9 r J;exact Ki (w:=w) (x:=(xd r,x.2)) rfl (by simp) (bE ho8 (by omega)) ⟨Kl r,HO.o.zk4,Uo r,by show(xd r).length<=100;omega,hl2⟩):P:=h
def ym8(h:P:=by
 rintro Pg k4 k5 mv ⟨⟨t3,Zd,hp3⟩,dw,Yi,Vb,QT,dR,dS,ybj,Vd,VZ,XF,XD⟩;have HN:=Z Zd;have hmv:=(dm Zd).1;have oC:=Vn Zd;have Gg:=Z hp3;clear Zd hp3;refine gX 5 (λK hK=>?_);have y4:=Vb.c;have y4z:=Vb.z;go_simp;refine hK.out _ _ (Yi.other (j:=k4) XF.symm _).c λ_=>?_;clear hK K y4 y4z;have c4S:=Vb.same mv;have c5S:=QT.other (j:=k4) ybj.symm mv;have cQS:=Yi.other (j:=k4) XF.symm mv;have ybg:=dw.put dR mv;have HPS:=Z (Gg.o.put Vd Vb.n mv);generalize Pg.setCell (k4,0) mv=wS at c4S c5S cQS ybg HPS|-
 refine gX 6 (λK hK=>?_);have y5:=c5S.c;have y5z:=c5S.z;go_simp;refine hK.out _ _ (cQS.other (j:=k5) XD.symm _).c λ_=>?_;clear hK K y5 y5z;have c4T:=c4S.other (j:=k5) ybj (.func (.func kf) #[] KF);have c5T:=c5S.same (.func (.func kf) #[] KF);have cQT:=cQS.other (j:=k5) XD.symm (.func (.func kf) #[] KF);have zyg:=ybg.put dS (.func (.func kf) #[] KF);have HPT:=Z (HPS.o.put VZ c5S.n (.func (.func kf) #[] KF));generalize wS.setCell (k5,0) (.func (.func kf) #[] KF)=wT at c4T c5T cQT zyg HPT|-
 refine Y3 ?_ _;have y4:=c4T.c;have yQ:=cQT.c;have yQz:=cQT.z;by_cases hm0:mv=0
 .exact xgx
 .have hmz:((mv:Int)==0)=false:=by simp;omega
  have hre:Vg (c::t)=match uw t3 with
    |none=>none
    |some ((i,nt),v)=>some ((λx=>i (oL F mv x) !=nt),v):=by
   rw[Vg,HO.o];dsimp only;unfold P8;rw[HM.o,yV rfl,HN.o];simp only[yz hm0];rfl
  have HRE:=Z hre;have Um:0<mv:=J
  clear hre hm0;have cU:=cQT.same (.func (.func 167) #[] #[(k5,0),(k4,0)]);have PU:=zyg.put (show (w:Nat)<=Q by have:=HQ.o;omega) (.func (.func 167) #[] #[(k5,0),(k4,0)]);have HPU:=Z (HPT.o.put Ea cQT.n (.func (.func 167) #[] #[(k5,0),(k4,0)]));have c4U:=c4T.other (j:=Q) XF (.func (.func 167) #[] #[(k5,0),(k4,0)]);have c5U:=c5T.other (j:=Q) XD (.func (.func 167) #[] #[(k5,0),(k4,0)]);go_wp2_with fail;generalize wT.setCell (Q,0) (.func (.func 167) #[] #[(k5,0),(k4,0)])=wU at cU PU HPU c4U c5U|-
  have hFU:OpR (w:Nat) (wU:Nat) wU (.func (.func 167) #[] #[(k5,0),(k4,0)]) (oL F mv) :=
   ⟨167,_,rfl,λargs w=>enters_of func167 yq rfl args w,λW hW nv x hx =>
    zk5 nv x k5 k4 _ mv F 0 0 W hx hmv Um ((hW.cell (p:=(k5,0)) dS c5U.lt).trans c5U.c) ((hW.cell (p:=(k4,0)) dR c4U.lt).trans c4U.c) (HFV.o 0 0 W) (zQ _)⟩
  have HFU:=Z hFU;have cQ:=cU;clear hFU y4 yQ yQz;have ym9:=Z (PK p (t3) wU HPU.o (λx h=>HX.o x (uk _ (xi (oC.mem x h)))) (HT.o.but PU) (by have hz1:=oC.len;have EV:(t).tail.length<=(t).length:=zZ;omega));go_wp2_with fail;refine ym9.o.mono ?_;rintro e w7 ⟨hq,Xu⟩;have Qb:=PU.trans Xu;have TF:r=match uw (t3) with
    |none=>none
    |some ((i,nt),v)=>some ((λx=>i ((oL F mv) x) !=nt),v):=by
   rw[<-HR.o];exact HRE.o
  cases hn:uw (t3) with
  |none =>
   exact ydq
  |some q =>
   obtain⟨⟨Tm,nt⟩,t'⟩:=q;rw[hn]at hq TF;obtain⟨⟨v,rfl,htm⟩,hp7⟩:=hq;have VB:=Z TF;have HTM:=Z htm;have HP7:=Z hp7;have cQ7:=cQ.but Xu Ea;have hQ7:=cQ7.lt;have HF7:=Z (OpR.keep (lo':=(w:Nat)) (hi':=(w7:Nat)) HFU.o (Xu.keep uo (Y _)) (Y _) Xu.size);obtain⟨kt,cpt,rfl,_⟩:=htm;clear TF hn hp7;go_wp2;go_ret;have hbA:=Qb.alloc (.cells #[.func (.func kt) #[] cpt] 177);have hbB:=hbA.alloc (.cells #[.bool nt] 4);have hsA:(w7.alloc (.cells #[.func (.func kt) #[] cpt] 177)).heap.size=(w7:Nat)+1:=zZ
   have hsB:((w7.alloc (.cells #[.func (.func kt) #[] cpt] 177)).alloc (.cells #[.bool nt] 4)).heap.size=(w7:Nat)+2:=zZ
   have zk6:yD w7 w7 ((w7.alloc (.cells #[.func (.func kt) #[] cpt] 177)).alloc (.cells #[.bool nt] 4)):=((zv _ _).alloc (Y _) _).alloc (by simp) _;refine⟨?_,hbB⟩;rw[VB.o];have hQw:=HQ.o;have hw7:=Qb.size;refine⟨⟨_,rfl,170,_,rfl,λargs w=>enters_of func170 (by kernel_rfl) rfl args w,λW hW nv x hx=>?_⟩,HP7.o.below zk6⟩;rw[hsB]at hW;have iM:xh w.heap.size (w7:Nat) w7 W:=hW.via (vu zk6 (Y _) (Y _)) (Y _) J;refine PJ nv x _ _ _ _ _ nt Tm ((oL F mv)) w.heap.size (w7:Nat) W hx ((hW.cell ?_ ?_).trans ?_) ((iM.cell ?_ hQ7).trans cQ7.c) ((hW.cell ?_ ?_).trans ?_) (HTM.o.keep (iM.via (vK (Y _)) (by have:=PU.size;omega) (Y _)) (by have:=PU.size;omega) (Y _)) (HF7.o.keep iM (Y _) (Y _)) iM.1;all_goals first|(show w.heap.size<=(w7:Nat);omega)|(show (w7:Nat)<(w7:Nat)+2;omega)|(show w.heap.size<=(w7:Nat)+1;omega)|(show (w7:Nat)+1<(w7:Nat)+2;omega)|(show w.heap.size<=Q;omega)|(go_simp;done)):P:=h
def zk7(h:P:=by
 obtain⟨r,hr⟩:=zr (bH rs msg NB j);rw[hr]at ht;obtain⟨B1,I0,HLT,Yn,xd0⟩:=Jl (λW hs hE=>(hr▸HBR.o NB j W hs hE:zC prog 178 #[(zU p 0),.bool NB] W (xd2 p rs d r W))) ht (λf q (e:r = .ok (f,q))=>iO hu.o (hr.trans e)) (HGR.o.but (xI.of (p:=p) qE) J) (oI.o.but Fc);have hw1:=qE.size;have hN:=Z hn';clear ht hr hn';go_wp2_with fail;refine DN (λW':z8=>zu W' C 4 (.slice ga acc.len gc)) 13 [0,1,2,3,4,5,6,7] 6 HB1.o.c4 ?_;refine dJ 8 (λK hK=>?_);go_simp;rw[vkd.o];refine(B1.o w1.drew (KG.o.below (zv _ _).drew) (xd0.o.but (xI.refl _ _).drew)).mono ?_;rintro e w2 ⟨hq,dB⟩;have dB:xI p w1 w2:=(xI.refl p w1).drew.trans dB;have QP:=Fc.trans dB
 cases r with
 |error en =>
  exact xgv
 |ok fq =>
  obtain⟨f,q⟩:=fq;obtain⟨⟨k,pl,m,ma,mc,hf,rfl,Em,vs,Y9,Fl⟩,Ym⟩:=hq;obtain⟨Y8,G9,dn,oM,Km,EP⟩:=EZ Y9 Fl Ym (HB1.o.but dB J) (Yn.o.but dB (by omega)) (show R=(q9 rs msg NB n' (acc.app f) q).then G from I0.o);have hjq:=HLT.o f q rfl;have HF:=Z hf;have HMM:=Z Em;have xd3:=Ym.here;have hwx:=dB.size;have q4':=oM.o.c4;clear Y9 Fl Ym dB hf HLT I0 Em B1;refine hK.out _ _ oM.o.c4 λ_=>?_;clear hK K;refine dJ 9 (λK hK=>?_);go_simp;have q43:=(oM.o.but (xI.of (p:=p) ((zv (w2:Nat) w2).alloc (Y _) (.cells #[zM k,pl,.slice ma m.len mc] 221))) (by omega)).c4;refine hK.out _ _ q43 λ_=>?_;clear q43;clear hK K;have dD:yD w2 w2 (w2.alloc (.cells #[zM k,pl,.slice ma m.len mc] 221)):=(zv _ _).alloc (Y _) _;have HC3:=Z (λi=>zf w2 #[zM k,pl,.slice ma m.len mc] 221 (0,0) i);obtain⟨w3,hw3⟩:=zr (w2.alloc (.cells #[zM k,pl,.slice ma m.len mc] 221));rw[hw3]at dD HC3|-
  have HB3:=Z (oM.o.but (xI.of (p:=p) dD) J);have PY:=Z (dn.o.below dD);have vj0:=Z (Km.o.but (xI.of (p:=p) dD) (by omega));have En:=QP.below dD;have yyj:=dD.size;have zk9:acc.len<=2000000:=by
   have:=xd4.o;have:=HH.o.len;omega
  clear hw3;refine dJ 10 (λK hK=>?_);rw[yV (by rfl)];refine yyg PG _ _ rfl (C+1) (w1:Nat) _ acc f ws rfl vj0.o ⟨(w2:Nat),0,none⟩ 1 1 [zM k,.int .i64 pl,.slice ma m.len mc] rfl rfl ?c1 ?c2 ?c3 J ?c4 (by rw[HF.o];rfl) (by omega) (by omega) ?c5
  case c1 =>
   intro jj u hu;rw[vS,HC3.o];simpa using hu
  case c2 =>
   intro u hu;simp at hu;rcases hu with rfl|rfl|rfl<;>rfl
  case c3 =>
   exact xgy
  case c4 =>
   intro kk oN;exact(Yn.o.lt kk oN).2
  case c5 =>
   intro v' w4 VC Pd;have Ws:=Z VC;have oO:=Z (λkk oN=>(Yn.o.lt kk oN).1);have EX:=Z (HB3.o.grown Pd (λe=>by have:=oO.o C e.symm;omega));have I5:=Z (PY.o.grown Pd (λq hq=>by have:=oO.o q hq;omega));have Wt:=En.grown Pd (λq hq=>by have:=oO.o q hq;omega);have uff:=Pd.size;obtain⟨ga',gc',hv',_⟩:=VC.row;subst hv';clear VC Pd;refine hK.out _ _ EX.o.c4 λ_=>?_;clear hK K;have q44:=EX.o.c4;have z44:=EX.o.z 4;refine jL [11,12] 1 rfl (by intro _ _ d _ _ h;cases d<;>exact h) yq (by kernel_rfl) EX.o.c4 ?_;(iterate 2 ((first|refine ty ?_|refine tn ?_);try simp only[pl]))
   refine yS ?_;refine FT 13 (λK hK=>?_);go_simp;refine hK.out _ _ ?_;clear hK K;refine FW ?_ _;go_wp2;go_roundw
   case rel =>
    refine⟨acc.app f,q,n',_,_,I5.o.own hpC 4 _,Wt.own hwC 4 _,EX.o.vj3,Ws.o.but (xI.set C _ 4 _) J,Fo.gi _ _ HLG.o (by rw[HF.o];rfl),EP.o,by have:=hN.o;omega,?_⟩;rw[Fo.jD,show f.len=1 by rw[HF.o];rfl];have:=xd4.o;omega
   case measure =>
    rw[kz (I5.o.own hpC 4 _),kz HSR.o];omega):P:=h
def zkz(h:P:=by
 have zy7:bC n (acc++[c::t.take m]) (t.drop m)=r:=xg6
 have yi7:=Z zy7;have dB:u.extract (m+1) u.size=⟨(t.drop m).toArray⟩:=yif
 have DS:u.extract 0 (m+1)=⟨(c::t.take m).toArray⟩:=yid
 have HX1:=Z DS;have HX2:=Z dB;clear zy7 DS dB;go_wp2_with (at_builtin;refine j9 fY rfl _ _ rfl (w:Nat) _ _ _ rfl (HO.o.alloc _) ⟨(wr:Nat),0,none⟩ 1 1 [.string (u.extract 0 (m+1))] rfl rfl (by exact cells_one (zf _ _ _ _ _)) (by first|rfl|(intro x hx;simp at hx;subst hx;rfl)) J (by have:=hb.size;simp;omega) ?_);intro iP w5 XC Vm;have ZZ:zP w w5:=(hb.alloc hb.size _).grown Vm (by have:=hb.size;simp;omega) (λq hq=>(HO.o.lt q hq).1);obtain⟨a5,c5,rfl⟩:=zn XC;rw[HX1.o]at XC;have oP:=Z XC;clear XC Vm;go_wp2;rw[HX2.o];go_roundg n
 case measure=>omega
 case rel=>exact⟨acc++[c::t.take m],t.drop m,rfl,by simpa using oP.o,ZZ,by simp at Z4|-;omega,xg7,yi7.o⟩):P:=h
def ymx(h:P:=by
 have KD:=iD.o;rw[hm]at KD;have HQ2:=Z KD;have HM:=Z hm;clear KD hm;have cQ:=cQ2;obtain⟨Q,hQ⟩:∃Q,Q=(w:Nat):=⟨_,rfl⟩;rw[<-hQ]at cQ cQ2 Ea|-
 have HQ:=Z hQ;clear hQ;have ym9:=Z (PK p (t) w2 HQ2.o (λx h=>HX.o x (by simp[h])) (HT.o.but PF) J);go_wp2_with fail;refine ym9.o.mono ?_;rintro e w7 ⟨hq,Xu⟩;have Qb:=PF.trans Xu;have TF:r=match uw (t) with
   |none=>none
   |some ((i,nt),v)=>some ((λx=>i (F x) !=nt),v):=by
  rw[<-HR.o];rw[Vg,HO.o];dsimp only;unfold P8;rw[HM.o];rfl
 cases hn:uw (t) with
 |none =>
  exact ydq
 |some q =>
  obtain⟨⟨Tm,nt⟩,t'⟩:=q;rw[hn]at hq TF;obtain⟨⟨v,rfl,htm⟩,hp7⟩:=hq;have VB:=Z TF;have HTM:=Z htm;have HP7:=Z hp7;have cQ7:=cQ.but Xu Ea;have hQ7:=cQ7.lt;have HF7:=Z (OpR.keep (lo':=(w:Nat)) (hi':=(w7:Nat)) (HFV.o (w:Nat) (w2:Nat) w2) (Xu.keep uo (Y _)) (Y _) Xu.size);obtain⟨kt,cpt,rfl,_⟩:=htm;clear TF hn hp7;go_wp2;go_ret;have hbA:=Qb.alloc (.cells #[.func (.func kt) #[] cpt] 177);have hbB:=hbA.alloc (.cells #[.bool nt] 4);have hsA:(w7.alloc (.cells #[.func (.func kt) #[] cpt] 177)).heap.size=(w7:Nat)+1:=zZ
  have hsB:((w7.alloc (.cells #[.func (.func kt) #[] cpt] 177)).alloc (.cells #[.bool nt] 4)).heap.size=(w7:Nat)+2:=zZ
  have zk6:yD w7 w7 ((w7.alloc (.cells #[.func (.func kt) #[] cpt] 177)).alloc (.cells #[.bool nt] 4)):=((zv _ _).alloc (Y _) _).alloc (by simp) _;refine⟨?_,hbB⟩;rw[VB.o];have hQw:=HQ.o;have hw7:=Qb.size;refine⟨⟨_,rfl,170,_,rfl,λargs w=>enters_of func170 (by kernel_rfl) rfl args w,λW hW nv x hx=>?_⟩,HP7.o.below zk6⟩;rw[hsB]at hW;have iM:xh w.heap.size (w7:Nat) w7 W:=hW.via (vu zk6 (Y _) (Y _)) (Y _) J;refine PJ nv x _ _ _ _ _ nt Tm (F) w.heap.size (w7:Nat) W hx ((hW.cell ?_ ?_).trans ?_) ((iM.cell ?_ hQ7).trans cQ7.c) ((hW.cell ?_ ?_).trans ?_) (HTM.o.keep (iM.via (vK (Y _)) (by have:=PF.size;omega) (Y _)) (by have:=PF.size;omega) (Y _)) (HF7.o.keep iM (Y _) (Y _)) iM.1;all_goals first|(show w.heap.size<=(w7:Nat);omega)|(show (w7:Nat)<(w7:Nat)+2;omega)|(show w.heap.size<=(w7:Nat)+1;omega)|(show (w7:Nat)+1<(w7:Nat)+2;omega)|(show w.heap.size<=Q;omega)|(go_simp;done)):P:=h
def zky(h:P:=by
 have I5:=Z (PY.o.grown QW (λk hk=>zyv));have Wt:=En.grown QW (λk hk=>by have:=uT k hk;omega);have PB4:=QW.cell PB3 (λe=>by have:=uT B e.symm;omega);have Ws:=Z VC;obtain⟨ga',gc',rfl,_⟩:=VC.row;clear VC QW uT;go_wp2;go_roundw
 case rel=>exact⟨acc.app (.text t .nil),q,n',_,I5.o,Wt,PB4,Ws.o,(Fo.kI _ _ HM.o rfl),EP.o,by have:=HN.o;omega,by have:=HN.o;omega,by rw[Fo.jD,(show Fo.len (.text t .nil)=1 from rfl)];omega,λs e=>by rw[gF _ zZ acc]at e;cases e;omega⟩
 case measure =>
  exact zx0):P:=h
def zkx(h:P:=by
 go_wp2_with fail;refine HTX.o.mono ?_;rintro e w2 ⟨rfl,Ym,dB⟩;have QP:=Eo.trans dB;have Iz:zu w2 B 0 (p,0):=dB.cell PB1 (by show B≠p;omega);have Km:=Z (Yn.o.but dB J);have dn:=Z Ym;have KN:=dB.size;have hlc:zu w2 g (acc.len - 1) (.iface 206 (zM s)):=dB.cell yyb (by show g≠p;omega);have hzc:w2.frozen? (g,acc.len - 1)=false:=Km.o.1.frozenAt _;clear Ym dB;have HJ:=Z (Km.o.Wh HM.o HL.o QA hul t);go_wp2;have ymq:acc.len - 1=us.length:=by omega
 rw[Jr,ymq];have hj:=HJ.o;rw[HJ.o.2]at hj;have hS3:=dn.o.own (B:=g) J us.length (.iface 206 (zM (s++t)));go_roundw
 case rel=>exact⟨acc.ye t,q,n',_,hS3,QP.own J _ _,by rw[zo,yz (λe=>by have:=congrArg qd e;simp at this;omega)];exact Iz,hj.1,(iR HM.o HL.o t).1,I0.o,by have:=HN.o;omega,by have:=HN.o;omega,by rw[HJ.o.2];omega,λx e=>by rw[(iR HM.o HL.o t).2]at e;cases e;rw[zy];omega⟩
 case measure =>
  rw[kz hS3,kz HSR.o];omega):P:=h
def zkv(h:P:=by refine(B3 (w:Nat) _).mono ?_;rintro e u' Vk ⟨rfl,rfl,hb⟩;have hc:zu Vk (w:Nat) 0 (.pointer none):=(hb.cell (X _ _ HE.o.1)).trans HE.o.1;simp[UA,Eu,yN,results32,go_sem,hc];exact(HE.o.2.below hb).low (λ_ q=>q.elim) (Y _)):P:=h
def Mu(h:P:=by
 have ym5:(t.take (m+1)).all (λd=>yi d==yi c)=true:=xgz
 have vj4:=Z ym5;clear hq ym5;go_wp2;exact⟨⟨m+1,J,by go_num,vj4.o⟩,by simp[intOf];omega⟩):P:=h
def bw(h:P:=by have:=hb.size;simp;omega):P:=h
def zku(h:P:=by
 simp only[ue,FY,zx,vR,vJ]at h;have hw:=h.1.1.1.1;have hf:=h.1.1.1.2;simp only[uf,zx]at hw;refine⟨hw.1,?_,?_,h.1.1.2⟩
 .rcases hf with hf|hf
  .have hp:¬(Kn l).idxOf 46<(Kn l).length:=by simpa[Vo]using hf
   have:ud l=[]:=by unfold ud;exact yI J
   rw[this];rfl
  .simp only[uf,zx]at hf;exact hf.1
 .exact yl6):P:=h
def zkq(h:P:=by
 clear uD Fm hck hwk hih hd0 Ti EO hd3 hd4 hd5 B4 Fp k1' k2' k3' k4' k5' k6' k7' k8' B5;go_wp2_with fail;refine HBR.o.mono ?_;rintro e w2 ⟨rfl,L2,Ko,KD,ZE⟩;have EK:=Z Ko;have VE:=Z ZE;clear Ko ZE HBR;go_wp2;go_roundw
 case rel=>exact zkk.o _ _ r _ L2 w2 rfl Pz.o DZ.o EJ.o iT.o.2.2.2.2.2.2.2 HWQ.o QX.o (by have:=Zb.o;simp at this;omega) EK.o KD VE.o G6.o J
 case measure=>simp only[intOf];omega):P:=h
def Gb(h:P:=by exact⟨.text x pre,by rw[h1];rfl,λm=>h2 m,λt=>by rw[Fo.ye,h3];rfl;simp⟩):P:=h
def zkj(h:P:=by
 go_wp2_with fail;refine HLV.o.mono ?_;rintro e w3 ⟨rfl,iW,PD⟩;have Fs:=Z iW;have oR:=Z PD;have vj7:=PD.cell wP nW;clear iW PD HLV;go_wp2;go_roundw
 case rel=>exact⟨j+1,s'.xH idx j,by go_num,J,HG.o.symm,Fs.o,HF'.o.trans oR.o,HI'.o.fr oR.o,MkS.le_trans HLE.o (s'.Un _ _),by rw[XK];exact Zb.o,vj7⟩
 case measure=>simp only[intOf];omega):P:=h
def B6(h:P:=by first|(have:=HDL.o;simp at Z4;omega)|(simp at Z4|-;omega)|(simp at Z4|-;exact Z4)):P:=h
def zkg(h:P:=by
 have hDs:D.size<=1000000:=by rw[hD];decide
 have HDD:=Z (show D.data.toList=Kp L by rw[hD,d0];rfl);have dD:zpf D.data.toList=false->xS ra rb mi po gr fi ne L=false:=λh=>absurd h (by rw[hD];decide)
 have VD:¬(qV D.data.toList).1.length=10->xS ra rb mi po gr fi ne L=false:=λh=>absurd (by rw[hD];exact oS) h
 exact xjj):P:=h
def zkf(h:P:=by
 have hDs:D.size<=1000000:=by rw[hD];exact hd
 have HDD:=Z (show D.data.toList=Kp L by rw[hD,HL.o];unfold Kp;rw[yz d0]);have dD:zpf D.data.toList=false->xS ra rb mi po gr fi ne L=false:=λh=>oT zvz
 have VD:¬(qV D.data.toList).1.length=10->xS ra rb mi po gr fi ne L=false:=λh=>oW d0 zvz
 exact xjj):P:=h
def uN(h:P:=by go_num):P:=h
def zkd(h:P:=by
 intro j v hj;have hj3:j<3:=by
  apply yu;intro hc;rw[qT yJ]at hj
  cases hj
 refine⟨by have:=Pu.o;omega,?_⟩;have h1:ws[i2*3+j]? = some v:=by
  rw[PC.o,<-Pu.o,xq J,D9,<-hj];match j,hj3 with
  | 0,_=>rfl
  | 1,_=>rfl
  | 2,_=>rfl
 exact zx2):P:=h
def ymd(h:P:=by
 intro l;induction l with
 |nil=>intro v _;simp
 |cons c t ih =>
  intro v h;simp only[vh,zx]at h;have hc:=(xr c).1 h.1;have:=ih (10*v+(c.toNat - 48)) h.2;rw[vB,zY];refine zD this ?_;have h3:10*v+(c.toNat - 48)+1<=(v+1)*10:=J
  exact xgu):P:=h
def Ww(h:P:=by have:=congrArg qd e;simp at this;omega):P:=h
def kL(h:P:=by simp[go_sem]):P:=h
def Mq(h:P:=by
 go_enter func72,ntmps72;go_wp2_with fail;go_quiet (fail)
 go_wp2;go_ret;exact⟨gK,nq,rfl⟩):P:=h
def zkb(h:P:=by obtain⟨rfl,hi2⟩:=hq;have B7:=Z (show R = .TD c s2 from OC.o);go_wp2;refine⟨rfl,?_⟩;rw[B7.o];exact⟨rfl,Iy.o _ _ _ _ hi2 J⟩):P:=h
def zj1(h:P:=by have h1:=congrArg xD ymb.o;have h2:=HFL.o;simp only[zy,zY,yF]at h1;simp;omega):P:=h
def GZ(h:P:=by have:=Zb.o;simp at this;omega):P:=h
def zj2(h:P:=by have B7:=Z (show R = .go false s2 from OC.o);go_wp2;go_ret;rw[B7.o];exact⟨rfl,Iy.o _ _ _ _ HIX.o J⟩):P:=h
def Mk(h:P:=by rw[hW];exact((zv _ _).alloc (Y _) _).alloc zZ _):P:=h
def zj3(h:P:=by intro l h' hh hg;refine⟨zj hh (zj hb.size Z3.size),λk k1 k2=>?_⟩;rw[Z3.block k (by have:=hb.size;omega) (λe=>by rcases hg k e.symm with q|q<;>omega)];exact hb.block k J):P:=h
def Mj(h:P:=by rw[zO];exact h.z j):P:=h
def Mg(h:P:=by show B<_;omega):P:=h
def A1(h:P:=by exact⟨c,by simp only[Fo.keys,Fo.uB,MkS.ur,yF];omega⟩):P:=h
def B8(h:P:=by rw[Fo.ye,qy r t XV];rfl):P:=h
def Mf(h:P:=by rw[beq_eq_false_iff_ne];rintro rfl;exact absurd hc.1 zR):P:=h
def Qa(h:P:=by first|rfl|simp[go_sem]):P:=h
def zj4(h:P:=by exact Z5 (by rw[hD,yz (λq=>h ⟨q.1.2,q.2⟩)]) (by rw[hS,yz (λq=>h ⟨q.1,by have:=q.2.1;simp[least]at this;omega,q.2.2⟩)]) J):P:=h
def zj5(h:P:=by
 intro n;induction n with
 |zero =>
  intro l h;have:l=[]:=zN J;subst this;simp[xy]
 |succ n ih =>
  exact xg5):P:=h
def zj6(h:P:=by refine⟨b,_,_,by rw[XX.o],by first|exact⟨_,_,_,rfl⟩|exact HSV.o,?_,λh=>by rw[XX.o]at h;cases h⟩;refine hB.trans ?_;exact vqq):P:=h
def Vp(h:P:=by cases hg):P:=h
def zj7(h:P:=by have:=(OE.drop (n:=3) (by omega:l.length<=c)).drop (n:=k - 4) (cap:=c - 3) Fb;rw[e4,Bz,yz (λq=>gM q.symm)]at this;exact this):P:=h
def A2(h:P:=by
 cases m with
 |zero=>rfl
 |succ k=>exact congrArg (yb .i64) J):P:=h
def zj8(h:P:=by
 rcases hs' k hk with h|h
 .exact hS k h
 .exact⟨J,λq=>by have:=uj hO.row q;omega,λq=>by have:=uj ZN q;omega⟩):P:=h
def zj9(h:P:=by have HO:=Z ho;have ER:=Z ((iA.o.1.drew.fr.tr gW.toFr (λq hq => .inl hq)));clear hJ uD gW ho iA;exact yb7):P:=h
def Vr(h:P:=by simp<;>omega):P:=h
def Md(h:P:=by exact⟨⟨h.1,λ_ _ e=>gJ,k2,k1⟩,k2⟩):P:=h
def yn0(h:P:=by refine yS ?_;refine gX 4 (λK hK=>?_);go_simp;refine(HD.o _).mono ?_;rintro e w' ⟨rfl,rfl⟩;exact yd8):P:=h
def By(h:P:=by show B≠p;omega):P:=h
def A3(h:P:=by rw[yZ _ _ _ _ zZ];exact h.hA):P:=h
def Mb(h:P:=by rw[OS];exact h.2):P:=h
def zjz(h:P:=by simp only[Fo.uB]at m;simp only[Fo.wf,zx]at w;exact⟨h.1.1,Fo.Yv r h.2 w.2 J o⟩):P:=h
def Qe(h:P:=by cases hx):P:=h
def Bx(h:P:=by exact Gd HNV.o hr J OB):P:=h
def zjy(h:P:=by
 have h1:=MZ HOW.o m J (.int .u8 ((d:Nat):Int));rw[Bv _ _ _ hd]at h1;try rw[HDD.o]
 exact h1):P:=h
def A4(h:P:=by rw[<-hJ];exact ya rs _):P:=h
def MY(h:P:=by simp only[Fo.cw]at hw;omega):P:=h
def zjx(h:P:=by have:=OH.o.2.2;simp only[zy,zY,yF];omega):P:=h
def Bu(h:P:=by have:=Qi.size;omega):P:=h
def zjv(h:P:=by
 rcases ho.2 with⟨hv,_⟩|⟨g2,Gk,cur,hv,_,_,hh,hh2,_⟩
 .cases hv
 .cases hv;exact⟨hh,hh2⟩):P:=h
def zju(h:P:=by
 rw[yz zZ]at Ft;subst Ft;clear hb qE;go_wp2;go_ret2
 refine⟨XE,?_⟩;rw[yV oF.o];rfl):P:=h
def zjq(h:P:=by go_wp2_with fail;refine HS.o.mono ?_;rintro e w' ⟨rfl,rfl⟩;go_wp2;go_ret;exact⟨gK,rfl⟩):P:=h
def zjk(h:P:=by rw[hW];exact⟨zf _ _ _ _ _,zf _ _ _ _ _,zf _ _ _ _ _,λj=>uU⟩):P:=h
def A5(h:P:=by rw[zO];exact h.z0):P:=h
def A6(h:P:=by rw[xy];exact Y _):P:=h
def zjj(h:P:=by
 clear hf hc;go_wp2;all_goals (first|(exfalso;omega)|skip)
 go_ret;exact⟨gK,zjg⟩):P:=h
def A7(h:P:=by have:=qE.size;omega):P:=h
def zjf(h:P:=by rw[zc _ _ ⟨(w:Nat),0,none⟩ yJ];simp):P:=h
def A8(h:P:=by refine⟨Qq,?_⟩;rw[yz zxu,HR.o];rfl):P:=h
def A9(h:P:=by go_wp2;go_ret;exact⟨rfl,zv _ _⟩):P:=h
def zjd(h:P:=by rintro e w' ⟨N,rfl,_,_,hb⟩;exact⟨⟨_,_,rfl,.inr ⟨_,rfl⟩⟩,hb⟩):P:=h
def Bq(h:P:=by simpa using h2):P:=h
def zjb(h:P:=by
 apply yu;intro hc;rw[kM J]at h2
 cases h2):P:=h
def zg0(h:P:=by rw[dP (acc.len - 1) J,QA,show acc.len - 1=us.length by omega];simp):P:=h
def Az(h:P:=by go_wp2;go_ret;rw[HR.o];exact⟨rfl,rfl⟩):P:=h
def zg1(h:P:=by simp only[zh,zy,List.take_succ_cons];omega):P:=h
def zg2(h:P:=by
 rcases hq with e|e|e
 .exact .inl e
 .exact Ll
 .exact .inr (h.lo q e)):P:=h
def zg3(h:P:=by exact⟨rfl,((zv _ _).alloc (Y _) _).alloc zZ _⟩):P:=h
def Ay(h:P:=by rw[hb.frozen zZ];go_simp):P:=h
def MX(h:P:=by rw[HG.o];exact hb):P:=h
def zg4(h:P:=by simp[hy]):P:=h
def MV(h:P:=by simpa using Bk):P:=h
def zg5(h:P:=by unfold Ql;exact zj xrj zZ):P:=h
def Ax(h:P:=by intro q hq;cases hq;rfl):P:=h
def Av(h:P:=by clear hold hI ie h1 h2;exact Lp):P:=h
def zg6(h:P:=by
 have:(b.add 0)=b:=by simp[bW]
 rw[this]at il;exact il):P:=h
def Au(h:P:=by have:=zg7.size;omega):P:=h
def Aq(h:P:=by simp[jN,kN]):P:=h
def zg8(h:P:=by rw[World.cell?_alloc_at _ _ _ _ zZ];rfl):P:=h
def Ak(h:P:=by simp[yl]):P:=h
def zg9(h:P:=by have:=fX (rs:=rs) (show i<=j by omega);exact Gq):P:=h
def Aj(h:P:=by
 intro v6 W6 gW hg6;have HF6:=Z gW;have uT:∀k,(vL fa1 (s1).2.length fc1).ownBlock=some k->B+3<=k:=λk hk=>(HQ3.o.lt k hk).1
 have gM:∀k,k<B+3->(some k:Option Nat)≠(vL fa1 (s1).2.length fc1).ownBlock:=λk h1 h2=>Wu
 have q7:=hg6.cell q5 (gM B J);have q8:W6.frozen? (zU B 0)=false:=(zV (a:=(zU B 0)) (hg6.block B (X _ _ q5) (gM B J))).trans z5;have hI6:=MU (room':=room) HI5.o hg6 uT gW (by have:=LS cl bs [] [];simp only[yF]at this;omega);obtain⟨fa6,fc6,rfl⟩:=zn gW;refine hK.out _ _ q7 λ_=>?_;clear hK K;refine FT 4 (λK hK=>?_);go_simp;refine hK.out _ _ ?_;clear hK K;refine FW ?_ _;rw[zy]at hI6;have HI6:=Z hI6;clear hI6;go_wp2;go_ret;have hch:gD s (.br n a fo of cl bs r) = .go true (s1.1,s1.2++Qm cl [] [] bs):=by
  show Out.go true ((ub s n a (jB (.br n a fo of cl bs r))).1,(ub s n a (jB (.br n a fo of cl bs r))).2++Qm cl [] [] bs)=_;rw[wR.o,V6.o]
 rw[hch];exact⟨rfl,HI6.o⟩):P:=h
def zgz(h:P:=by
 rw[yx0];clear yx0 Ep;refine HIM.o.mono ?_;rintro e w2 ⟨rfl,hp2,qY⟩;have PF:=PE.trans qY;have Ea:(w:Nat)≠p:=J
 have cQ2:=cQ1.but qY Ea;have iD:=Z hp2;clear hp2 cQ1
 cases hm:Ag (t.headD [])
 .exact ymx
 .have KD:=iD.o;rw[hm]at KD;have HQ2:=Z KD;have HM:=Z hm;clear KD hm;have cQ:=cQ2;obtain⟨Q,hQ⟩:∃Q,Q=(w:Nat):=⟨_,rfl⟩;rw[<-hQ]at cQ cQ2 Ea|-
  have HQ:=Z hQ;clear hQ;have Wi:=Z (λW (hb:xI p w W) (hp:dF W p t.tail)=>ZP p t.tail W hp (λx h=>HX.o x (uk _ (xi h))) (HT.o.but hb));have OG:zu w2.drew Q 0 (.func (.func kf) #[] KF):=cQ2.c;have FZ:=PF.drew;have HPD:=Z (show dF w2.drew p t.tail from HQ2.o.below (zv _ w2).drew);have cQD:vP w2.drew Q (.func (.func kf) #[] KF):=⟨cQ2.c,cQ2.z,cQ2.n⟩;clear PE;go_wp2_with fail;refine V1 (λW':z8=>zu W' Q 0 (.func (.func kf) #[] KF)) [0,2] 5 OG ?_;generalize w2.drew=wD at FZ HPD cQD|-
  apply xdz (P:=λ(W:z8) (k4 k5 mv:Nat)=>(∃t3,gG (t).tail=some (mv,t3)/\dF W p t3)/\xI p w W/\vP W Q (.func (.func kf) #[] KF)/\vP W k4 (.int .i64 0)/\vP W k5 .nilFunc/\(w:Nat)<=k4/\(w:Nat)<=k5/\k4≠k5/\k4≠p/\k5≠p/\k4≠Q/\k5≠Q)
  case h2 =>
   exact ylb
  case h1 =>
   exact ym8):P:=h
def zgy(h:P:=by
 have im:=OI.o;rw[vx,PH]at im;have OC:=Z im.symm;rw[PH]at HCC;clear PH im OI YZ Vs;go_wp2_with fail;refine HCC.o.mono ?_;rintro e w2 hq
 cases o1 with
 |TD c s2 =>
  exact zkb
 |go b s2 =>
  obtain⟨rfl,hi2⟩:=hq;have HIX:=Z hi2;clear hi2
  cases b with
  |false =>
   exact zj2
  |true =>
   have B7:=Z (show vx F r s2=R from OC.o.symm);go_wp2;go_roundw
   case rel=>exact⟨i+1,us++[y],_,r,s2,zZ,J,DZ.o,EJ.o,Af.o,by simp[HUS.o],by rw[Pz.o,yk];rfl,by have:=QX.o;omega,by have:=Zb.o;omega,HIX.o,B7.o⟩
   case measure=>simp only[intOf];omega):P:=h
def zgx(h:P:=by
 have DZ:=Z uD;clear uD;have Af:=Z (show r.wf 2000000=true from Af.o);have EJ:=Z (show r.yT=true from EJ.o);have QX:=Z (show i+(r.len+1)=L from Z4);have B7:=Z (show vx F r s1=R from OI.o);have Zb:=Z (show zE r<=zE f by have:=Zb.o;simp at this;omega);go_wp2;go_roundw
 case rel=>exact⟨i+1,us++[y],_,r,s1,zZ,J,DZ.o,EJ.o,Af.o,by simp[HUS.o],by rw[Pz.o,yk];rfl,by have:=QX.o;omega,by have:=Zb.o;omega,Jo.o,B7.o⟩
 case measure=>simp only[intOf];omega):P:=h
def ZR(h:P:=by intro _ _ d _ _ h;cases d<;>exact h):P:=h
def zgv(h:P:=by have HE:=Z (show(W.setCell (w,0) (.pointer none)).cell? (w,0)=some (.pointer none)/\Fr yH yH w (W.setCell (w,0) (.pointer none)) from⟨yw Vc.o.1 _,HF.o.set _ (.inr (Y _))⟩);clear HC hk h3;go_wp2;refine qb (f:=55) (args:=#[(w,0)]) zZ (by simp[go_sem]) ?_;exact zkv):P:=h
def Bj(h:P:=by rw[Pz.o,yk];rfl):P:=h
def zgu(h:P:=by
 have b7:=Qn (p:=λd=>yi d==yi c) hm ES.o (λh=>absurd h iJ);have LH:=Z b7;have b2:¬((m:Int)+1<(u.size:Int)):=by have wL:u.size=t.length+1:=Zb.o;omega
 have b1:¬(m+1<u.size):=J
 have b3:m+1<=u.size:=Tw
 clear b7 iJ;exact zkz):P:=h
def zgq(h:P:=by
 have hb:∀(l:Wd) (v:Nat),l.all yG=true->l.foldl (λv c=>10*v+(c.toNat - 48)) v<(v+1)*10 ^ l.length:=ymd
 have h1:=hb l 0 hd;have h2:10 ^ l.length<=10 ^ 9:=Nat.pow_le_pow_right zR h;have h3:(10:Nat) ^ 9=1000000000:=zR
 unfold yg;omega):P:=h
def Qp(h:P:=by exact cells_one (zf _ _ _ _ _)):P:=h
def zgk(h:P:=by
 go_wp2;go_roundw
 case rel=>exact⟨i+1,c3+1,_,uN,J,HM9.o,by have:=Fs.o.2.1;omega,HB.o,λy e he=>by
  split at he
  .cases he;exact hD6
  .exact Fs.o.2.2 y e he,oR.o.trans HF9.o⟩
 case measure=>simp only[intOf];omega):P:=h
def Ad(h:P:=by
 go_wp2;go_roundw
 case rel=>exact⟨k+1,J,uN,HF.o,OB⟩
 case measure=>simp[intOf];omega):P:=h
def zgj(h:P:=by obtain⟨k,hk,rfl⟩:=ql.1 hr;simp only[uK,yh]at hk;have h1:=(hf k J).2;rw[MK (Ab k J)]at h1;simpa using h1):P:=h
def zgg(h:P:=by obtain⟨vt,b,e,l1,l2,c0,c1,hr⟩:=h;exact⟨vt,b,e,J,J,(hk.cell (p:=(b,0)) l1 l2).trans c0,(hk.cell (p:=(b,1)) l1 l2).trans c1,yd.keep hk h1 h2 r vt hr⟩):P:=h
def AZ(h:P:=by cases hq;exact Y _):P:=h
def Bg(h:P:=by first|exact G6.o|simpa using G6.o):P:=h
def zgf(h:P:=by refine⟨J,rfl,?_,by simp[Fo.len];omega,by simp[Fo.cnt];omega⟩;simp only[Fo.wf,zx,vJ];exact⟨J,trivial⟩):P:=h
def zgd(h:P:=by rw[zo,yz (λe=>neB (congrArg qd e).symm),zo,yz (λe=>neA (congrArg qd e).symm)];exact(hc 0)):P:=h
def zgb(h:P:=by have b7:=Qn (p:=λd=>yi d==yi c) hm ES.o (λh=>by simp[HK2.o,HK.o,hq]);have LH:=Z b7;clear b7 hq;exact zkz):P:=h
def zf0(h:P:=by rw[zo,yz (λe=>neB (congrArg qd e).symm),zo,yz (λe=>neA (congrArg qd e).symm)];exact f1):P:=h
def zf1(h:P:=by
 go_wp2;go_roundw
 case rel=>exact⟨j+1,s',uN,J,HG.o.symm,HM'.o,HF'.o,HI'.o,HLE.o,Zb.o,wP⟩
 case measure=>simp only[intOf];omega):P:=h
def zf2(h:P:=by
 intro v4 w4 VC QW;have uT:∀k,(.slice (g,0) acc.len gc:Value).ownBlock=some k->B+1<=k:=λk hk=>(Yn.o.lt k hk).1
 exact zky):P:=h
def zf3(h:P:=by
 intro v4 w4 VC QW;have uT:∀k,(.slice ga acc.len gc:Value).ownBlock=some k->B+1<=k:=λk hk=>(Yn.o.lt k hk).1
 exact zky):P:=h
def GY(h:P:=by have:=h.rows.len;omega):P:=h
def MJ(h:P:=by rw[zo,yz zZ];exact h.c1):P:=h
def zf4(h:P:=by exact zf5 (by rw[hD,yV ⟨⟨zZ,h.1⟩,h.2⟩]) (by rw[hS,yV ⟨h.1,by simp[least];omega,h.2.2⟩]) zR):P:=h
def MG(h:P:=by exact oA (OL 0) (OL 1)):P:=h
def zf6(h:P:=by rw[List.getElem_append_right J];simpa using hT.keep (ir l0 h0 EG hg0) (Y _) (Y _)):P:=h
def Bf(h:P:=by rw[Fo.ye,h3];rfl):P:=h
def zf7(h:P:=by have hg':w.drew.heap[g]? = some (.cells cur 5 (0,0)):=hg;simp[World.shape?,hg']):P:=h
def GX(h:P:=by rw[h3];omega):P:=h
def zf8(h:P:=by
 go_wp2;go_round
 case rel=>exact⟨k+1,J,uN,HF.o⟩
 case measure=>simp[intOf];omega):P:=h
def zf9(h:P:=by
 go_wp2;go_round
 case rel=>exact⟨k+1,J,uN,HX.o⟩
 case measure=>simp[intOf];omega):P:=h
def zfz(h:P:=by simp only[zy,zY,yF];omega):P:=h
def MF(h:P:=by have:=XE.size;omega):P:=h
def zfy(h:P:=by have HF:=Z hf;clear hf;go_wp2;go_ret;exact⟨by rw[HF.o];rfl,zjg⟩):P:=h
def zfx(h:P:=by go_wp2;go_ret;exact⟨by rw[HB.o zZ zZ];rfl,(Fr.refl yH w).alloc _⟩):P:=h
def GV(h:P:=by simp[xG]):P:=h
def MD(h:P:=by have:=HB.o;omega):P:=h
def GU(h:P:=by simp[hc]):P:=h
def AY(h:P:=by rw[hb.cell zZ];go_simp):P:=h
def MB(h:P:=by simp at hn;omega):P:=h
def zfv(h:P:=by go_wp2;exact⟨⟨k+1,J,uN,HF.o⟩,by simp[intOf];omega⟩):P:=h
def zfu(h:P:=by unfold maxLen;have:=jM 9 r J;omega):P:=h
def AX(h:P:=by rw[<-hs];exact vP.made _ _ _ zR):P:=h
def zfq(h:P:=by cases hg;exact kD _ (Fs.o.lt q)):P:=h
def AV(h:P:=by rw[heap_set h.hB];rfl):P:=h
def zfk(h:P:=by obtain rfl:l=[]:=List.length_eq_zero_iff.1 J;exact A6):P:=h
def zfj(h:P:=by go_wp2_with fail;refine EF.o.mono ?_;rintro e w6 ⟨⟨t1,k1,rfl,V4⟩,gW⟩;have VE:=Z (Yu (c:=cp) (HL2.o.fr gW) (HE.o.1.below (MC.o.dG.trans ((gW.low (λ_ q=>q.elim) (Y _)).mono MC.o.dG.size))).cmp.tabs.err (HT5.o.fr gW) HT.o.1 (λt ht=>zj (HSM.o t ht) (by decide)) J);have KG:=Z V4;have HF6:=Z gW;clear V4 gW EF;go_wp2_with fail;refine VE.o.mono ?_;rintro e w7 ⟨⟨t2,k2,rfl,Ym⟩,PI⟩;obtain⟨rfl,rfl⟩:=oe KG.o Ym;have Xu:=MC.o.dG.trans (((HF6.o.trans PI).low (λ_ q=>q.elim) (Y _)).mono MC.o.dG.size);have HB7:=Z Xu;clear Ym PI Xu VE;go_wp2;go_ret;exact⟨by simp,HB7.o⟩):P:=h
def ME(h:P:=by have h1:=congrArg xD I3.o;have h2:=HFL.o;simp only[zy,zY,yF]at h1;simp;omega):P:=h
def zfg(h:P:=by
 rw[QU];have HS:=Z (V5.o.trans (yz hy));clear QU hy;refine hK.out _ _ ⟨f2,f3,f0,f1⟩ λ_=>?_;clear hK K;refine VO [7] 0 ⟨f2,f3,f0,f1⟩ ?_;refine Y3 ?_ _;go_wp2;go_roundw
 case rel =>
  exact⟨i+1,(m1,m2),zZ,J,J,by rw[Z1];exact HS.o,f0,f1,xdv.o,⟨_,_,g0,g1⟩,xdu.o,xdq⟩
 case measure=>simp only[intOf];omega):P:=h
def zff(h:P:=by
 go_enter func214,ntmps214;go_wp2_with fail;refine qs (λW':z8=>True) [0,1,2,3] 17 ZR yq yq (show True from trivial) ?_;(iterate 4 ((first|refine ty ?_|refine tn ?_);try simp only[pl]))
 exact yn0):P:=h
def Bd(h:P:=by first|rfl|(intro x hx;simp at hx;subst hx;rfl)):P:=h
def zfd(h:P:=by
 refine⟨⟨(Bz b 3 c).add (k - 4),c - 3 - (k - 4),?_,J,J,hbT.fr hfa (λ_ _=>id),by rw[addr_add,Ur]⟩,?_,zZ⟩
 .rw[uR];exact zx3
 .have:=HF.o.size;intro q;rw[q]at wW;omega):P:=h
def zfb(h:P:=by rw[fC _ _ t yJ,fC _ _ t yJ,fC _ _ t yJ,fC _ _ t (Nat.ne_of_lt htl)];exact hf0):P:=h
def zd0(h:P:=by rw[zc _ _ t yJ,zc _ _ t yJ,zc _ _ t yJ,zc _ _ t htl];exact ht0):P:=h
def zd1(h:P:=by rw[hw2];exact(((((zv _ _).alloc J _).alloc yJ _).alloc (by simp;omega) _).alloc (by simp;omega) _).setCell zZ _):P:=h
def zd2(h:P:=by rw[zo,yz (λe=>neB (congrArg qd e).symm),zo,yz (λe=>neA (congrArg qd e).symm)];exact(hc 1)):P:=h
def GQ(h:P:=by rw[hS,MH zZ]):P:=h
def zd3(h:P:=by rw[zo,yz (λe=>neB (congrArg qd e).symm),zo,yz (λe=>neA (congrArg qd e).symm)];exact f2):P:=h
def MI(h:P:=by rw[om.o];simp[Fo.keys]):P:=h
def Vt(h:P:=by have:=QX.o;omega):P:=h
def AU(h:P:=by rw[yn6 _ J,Kr _ _ h.rows.len k j x _ hk hr hj]):P:=h
def ML(h:P:=by rw[PC.o,yk];rfl):P:=h
def AQ(h:P:=by rw[zO];exact h.z1):P:=h
def zd4(h:P:=by intro j x hx;exact uT.cells (g:=g) rfl j (.int .u8 x.toNat) (by simp[yx,hx])):P:=h
def zd5(h:P:=by go_wp2;refine qb (f:=55) (args:=#[(zU (w:Nat) 0)]) zZ kL ?_;exact zkv):P:=h
def AK(h:P:=by rw[zO];exact h7):P:=h
def Bb(h:P:=by simpa using oP.o):P:=h
def zd6(h:P:=by rw[zi];intro c hc;rw[kC hc];rfl):P:=h
def AJ(h:P:=by show (w:Nat)<_;omega):P:=h
def MM(h:P:=by simpa using iw.o):P:=h
def MN(h:P:=by simpa using hf):P:=h
def BZ(h:P:=by simp[vz]):P:=h
def GK(h:P:=by exactλk hk=>zD (Yn.o.lt k hk).2 J):P:=h
def zd7(h:P:=by
 have HF:=Z (MO Jo.o ED VC (room':=room) hnm J);clear ED VC;go_wp2;go_ret;have hch:gD s (.num n a r) = .go true ((λy=>if n=y then some kv else s.1 y,s.2):KB):=by show Out.go true (ub s n a 1)=_;rw[show(1:Nat)=kv from wR.o,V6.o]
 exact Wa):P:=h
def AG(h:P:=by have h:=X _ _ HF.o.kc;have:=Fh.size;dsimp only at h;omega):P:=h
def AF(h:P:=by rw[bQ _ _ _ (by rw[hc];rfl)];exact hc):P:=h
def MP(h:P:=by rw[yk];exact I3.o):P:=h
def GJ(h:P:=by rw[hD,yz zZ]):P:=h
def MR(h:P:=by have:=Pu.o;simp;omega):P:=h
def AD(h:P:=by rw[zO];exact h8):P:=h
def BX(h:P:=by simp[HUS.o];omega):P:=h
def AB(h:P:=by rw[Lc];exact kU _ _):P:=h
def AE(h:P:=by rw[zo,yV rfl,h.c0];rfl):P:=h
def BV(h:P:=by exact cells_one OL):P:=h
def AH(h:P:=by
 rcases uM 1 (w:Nat)with h|h
 .exact h
 .exact yl3):P:=h
def GG(h:P:=by have:=Zb.o;omega):P:=h
def yn7(h:P:=by exact⟨zf _ _ _ _ _,zf _ _ _ _ _,zf _ _ _ _ _,zZ,zZ,zZ,zZ⟩):P:=h
def zd9(h:P:=by
 simp only[ym];rw[jW];go_wp2;go_end0
 exact⟨rfl,HS.o,HW.o⟩):P:=h
def zdz(h:P:=by rw[zo,yz zZ];exact c2):P:=h
def BU(h:P:=by have:=hP p hp;omega):P:=h
def BQ(h:P:=by rw[HWS.o];simp):P:=h
def MS(h:P:=by have:=yn8.o;omega):P:=h
def zdy(h:P:=by rw[zo,yz (λe=>Ww)];exact h4 k hk):P:=h
def BK(h:P:=by cases e;rfl):P:=h
def AI(h:P:=by have:=KG.o.here;omega):P:=h
def zdx(h:P:=by rw[zJ.1 hj];exact AL s n):P:=h
def zdv(h:P:=by have:=e.2.1;rw[HBB.o]at this;cases this):P:=h
def GF(h:P:=by have:=yn9.o;omega):P:=h
def Qr(h:P:=by simp[HUS.o]):P:=h
def AM(h:P:=by cases hg;exact Y _):P:=h
def zdu(h:P:=by rw[zo,yz zZ];exact c0):P:=h
def MT(h:P:=by have:=HAL.o;omega):P:=h
def BJ(h:P:=by exact⟨_,rfl,rfl⟩):P:=h
end
variable{rs:List Int}{d i p:Nat}{w w':z8}
structure xe(p:Nat)(rs:List Int)(i d:Nat)(w:z8):Prop where
 row:∃g cap,zu w p 0 (.slice (some ⟨g,0,none⟩) rs.length cap)/\rs.length<=cap/\cap<=maxLen/\g<p/\∀j (h:j<rs.length),zu w g j (.int .i32 rs[j])
 at_:zu w p 1 i
 deep:zu w p 2 d
 z1:w.frozen? (p,1)=false
 z2:w.frozen? (p,2)=false
 len:rs.length<=1000000
 here:i<=rs.length+1
 low:d<=100
 pos:∀r∈rs,0<=r
def xe.lt(h:xe p rs i d w):p<(w:Nat):=X w _ h.at_
def xe.below(h:xe p rs i d w)(hb:zP w w'):xe p rs i d w':=by
 have a:=h.lt;obtain⟨⟨g,cap,h0,h1,h2,l,f⟩,m,n,o,q,r,b,c,e⟩:=h;refine⟨⟨g,cap,(hb.cell (p:=(zU p 0)) a).trans h0,h1,h2,l,λj k=>?_⟩,(hb.cell (p:=(zU p 1)) a).trans m,(hb.cell (p:=(zU p 2)) a).trans n,(hb.frozen (p:=(zU p 1)) a).trans o,(hb.frozen (p:=(zU p 2)) a).trans q,r,b,c,e⟩;rw[hb.cell (X w _ (f j k))];exact f j k
def xe.move(h:xe p rs i d w)(j:Nat)(o:j<=rs.length+1):xe p rs j d (w.setCell (p,1) j):=by
 obtain⟨⟨g,cap,h0,h1,h2,f,h4⟩,l,m,h7,h8,n,c,a,b⟩:=h;refine⟨⟨g,cap,by rw[zo,yz zZ];exact h0,h1,h2,f,λk hk=>zdy⟩,by rw[zo,yV rfl,l];rfl,by rw[zo,yz zZ];exact m,AK,AD,n,o,a,b⟩
def xe.xdj(h:xe p rs i d w)(e:Nat)(he:e<=100):xe p rs i e (w.setCell (p,2) e):=by
 obtain⟨⟨g,cap,h0,h1,h2,f,h4⟩,j,l,h7,h8,m,a,c,b⟩:=h;refine⟨⟨g,cap,by rw[zo,yz zZ];exact h0,h1,h2,f,λk hk=>zdy⟩,by rw[zo,yz zZ];exact j,by rw[zo,yV rfl,l];rfl,AK,AD,m,a,he,b⟩
def xe.grown{row:Option Nat}(h:xe p rs i d w)(b:w.grownBy w' row)(hr:∀q,row=some q->p<q):xe p rs i d w':=by
 have m:=h.lt;have hp:some p≠row:=λe=>by have:=hr p e.symm;omega
 obtain⟨⟨g,cap,h0,h1,h2,n,o⟩,r,s,t,u,v,c,f,k⟩:=h;have l:some g≠row:=λe=>by have:=hr g e.symm;omega
 have hb:=b.block p m (λe=>hp (by rw[e]));exact⟨⟨g,cap,b.cell h0 hp,h1,h2,n,λj x=>b.cell (o j x) l⟩,b.cell r hp,b.cell s hp,(zV (a:=(zU p 1)) hb).trans t,(zV (a:=(zU p 2)) hb).trans u,v,c,f,k⟩
def zt(rs:List Int)(i:Nat):Int:=rs.getD i (-1)
def gB(p:Nat)(rs:List Int)(i d:Nat)(w:z8)(h:xe p rs i d w) :
  zC prog 79 #[(p,0)] w λe w'=>e = .returned (.int .i32 (zt rs i))/\zP w w':=by
 obtain⟨⟨g,cap,h0,h1,h2,x,j⟩,k,s,t,u,v,c,q⟩:=h;have l:=Z j;obtain⟨n,hn⟩:=zr rs.length;rw[hn]at h0 v c;have HN:=Z hn;have a:zu w.drew p 1 i/\zu w.drew p 0 (.slice (zU g 0) n cap):=⟨k,h0⟩;clear h1 j hn s t u h2;by_cases uo:i<n
 .have hc:=l.o i V3;have HF:=Lib.hid (show zt rs i=rs[i]' V3 by unfold zt;rw[List.getD_eq_getElem?_getD,List.getElem?_eq_getElem (by rw[HN.o];exact uo)];rfl);obtain⟨r,hr⟩:=zr (rs[i]'(by rw[HN.o];exact uo));rw[hr]at hc;have m:=Lib.hid hr;have b:decide ((i:Int)<(n:Int))=true:=by simp;omega
  have f:zu w.drew.drew p 1 i/\zu w.drew.drew p 0 (.slice (zU g 0) n cap)/\zu w.drew.drew g i (.int .i32 r):=⟨k,h0,hc⟩;clear hr;go_enter func79,ntmps79;go_wp2_with fail;refine V1 (λW':z8=>zu W' p 1 i/\zu W' p 0 (.slice (zU g 0) n cap)) [0,1,2,3,4,5,6,7,8,9] 0 a ?_;refine Y3 ?_ _;go_wp2_with fail;refine V1 (λW':z8=>zu W' p 1 i/\zu W' p 0 (.slice (zU g 0) n cap)/\zu W' g i (.int .i32 r)) [0,1,2,3,4,5,6,7,8,9,10] 0 f ?_;refine Y3 ?_ _;go_wp2;go_ret;exact⟨by rw[HF.o,m.o];rfl,(zv _ _).drew.drew⟩
 .have HF:=Lib.hid (show zt rs i = -1 by unfold zt;rw[List.getD_eq_getElem?_getD,List.getElem?_eq_none (by have:=HN.o;omega)];rfl);have b:decide ((i:Int)<(n:Int))=false:=by simp;omega
  go_enter func79,ntmps79;go_wp2_with fail;refine V1 (λW':z8=>zu W' p 1 i/\zu W' p 0 (.slice (zU g 0) n cap)) [0,1,2,3,4,5,6,7,8,9] 0 a ?_;refine Y3 ?_ _;go_wp2;go_ret;exact⟨gK,(zv _ _).drew⟩
def l8(p:Nat)(rs:List Int)(d:Nat)(r:Value)(j:Nat)(w:z8)(e:xU)(w':z8):Prop:=e = .returned r/\xe p rs j d w'/\xI p w w'
def xI.grown{a:z8}{row:Option Nat}(h:xI p a w)(b:w.grownBy w' row)(hr:∀q,row=some q->(a:Nat)<=q):xI p a w' :=
 ⟨b.os.trans h.os,b.tape.trans h.tape,b.output.trans h.output,zj h.size b.size,λk d c=>(b.block k (zD d h.size) (λe=>by have:=hr k (by rw[e]);omega)).trans (h.block k d c)⟩
def xI.Ks(h:xI p w w')(j:Nat)(u:Value):xI p w (w'.setCell (p,j) u):=h.trans (xI.set p w' j u)
def Vh(p:Nat)(rs:List Int)(i d:Nat)(r:Int)(w:z8)(h:xe p rs i d w)(hr:r≠-1) :
  zC prog 174 #[(p,0),.int .i32 r] w (l8 p rs d (.bool (zt rs i==r)) (if zt rs i=r then i+1 else i) w):=by
 have b:=Z (gB p rs i d w h);have g:=Z h;obtain⟨q,c⟩:=zr (zt rs i);have n:=Z c;rw[c]at b|-;by_cases a:q=r
 .subst a;have hi:i+1<=rs.length+1:=by
   have:i<rs.length:=by
    apply yu;intro hc;apply hr;rw[<-c];unfold zt;rw[ze,qT J];rfl
   omega
  clear c h;go_enter func174,ntmps174;go_wp2_with fail;refine b.o.mono ?_;rintro e w1 ⟨rfl,hb⟩;have hs:=g.o.below hb;have f:=Z hs;have s:=hs.at_;have t:=hs.z1;have j:=hs.len;clear hs b;go_wp2;go_ret;refine⟨zZ,?_,(xI.of hb).Ks 1 _⟩;have:=f.o.move (i+1) hi;simpa using this
 .have k:(q !=r)=true:=by simpa using a
  have l:=Z (show(q==r)=false by simpa using a);have m:=Z (show(if q=r then i+1 else i)=i from yz a);clear c h;go_enter func174,ntmps174;go_wp2_with fail;refine b.o.mono ?_;rintro e w1 ⟨rfl,hb⟩;have f:=Z (g.o.below hb);clear b;go_wp2;go_ret;exact⟨by rw[l.o];rfl,f.o,xI.of hb⟩
def Ix(p:Nat)(w:z8):Prop:=∃x,zu w p 2 (.int .i64 x)/\w.frozen? (p,2)=false
def xe.Ht(h:xe p rs i d w):Ix p w:=⟨_,h.deep,h.z2⟩
def Ix.below(h:Ix p w)(hb:zP w w'):Ix p w':=by
 obtain⟨x,h1,h2⟩:=h;have a:p<(w:Nat):=X w _ h1;exact⟨x,(hb.cell (p:=(p,2)) a).trans h1,(hb.frozen (p:=(p,2)) a).trans h2⟩
def GD(p:Nat)(n:Nat)(at_:Nat)(e:xU)(w':z8):Prop:=∃b,e = .panicked [{ v := .iface 72 (.pointer (some ⟨b,0,none⟩)),recovered:=false }]/\zu w' b 0 n/\zu w' b 1 at_/\Ix p w'/\b≠p/\b<(w':Nat)
def YT(p:Nat)(n at_:Nat)(w:z8)(hd:Ix p w) :
  zC prog 80 #[(p,0),n,at_] w λe w'=>GD p n at_ e w'/\zP w w':=by
 go_enter func80,ntmps80;have a:=Z hd;clear hd;go_wp2;have hb:=λo=>(zv (w:Nat) w).alloc (Y _) o
 have b:p<(w:Nat):=by
  obtain⟨x,h1,_⟩:=a.o;exact X w _ h1
 exact⟨rfl,⟨_,rfl,zf _ _ _ _ _,zf _ _ _ _ _,a.o.below (hb _),J,zZ⟩,hb _⟩
def kx(r:Int)(num:Bool):Bool:=r==123 ||(r==125 ||(r==35 && num))
def qU(r:Int):Bool:=(decide (97<=r) && decide (r<=122)) ||((decide (65<=r) && decide (r<=90)) ||r==95)
def vF(r:Int):Bool:=decide (48<=r) && decide (r<=57)
def Vw(r:Int)(num:Bool)(w:z8):zC prog 135 #[.int .i32 r,.bool num] w λe w'=>e = .returned (.bool (kx r num))/\w=w':=by
 go_enter func135,ntmps135;go_wp2;all_goals (go_ret;refine⟨LF ?_,rfl⟩;show gI _=gI _;congr 1;first|(simp[kx, *];done)|(rw[xO];simp[kx, *];done)|(rw[xO];simp[kx];omega)|(rw[xO];simp[kx,OW, *];done))
def Qs(r:Int)(w:z8):zC prog 103 #[.int .i32 r] w λe w'=>e = .returned (.bool (qU r))/\w=w':=by
 go_enter func103,ntmps103;go_wp2;all_goals (go_ret;refine⟨LF ?_,rfl⟩;show gI _=gI _;congr 1;first|(simp[qU, *];done)|(rw[xO];simp[qU, *];done)|(rw[xO];simp[qU];omega)|(rw[xO];simp[qU,OW, *];done))
def Us(r:Int)(w:z8):zC prog 104 #[.int .i32 r] w λe w'=>e = .returned (.bool (vF r))/\w=w':=by
 go_enter func104,ntmps104;go_wp2;all_goals (go_ret;refine⟨LF ?_,rfl⟩;show gI _=gI _;congr 1;first|(simp[vF, *];done)|(rw[xO];simp[vF, *];done)|(rw[xO];simp[vF];omega)|(rw[xO];simp[vF,OW, *];done))
def xdg(p:Nat)(rs:List Int)(i d:Nat)(r:Int)(w:z8)(e:xU)(w':z8):Prop :=
 (if zt rs i=r then e = .returned (.tuple #[])/\xe p rs (i+1) d w' else GD p 3 i e w')/\xI p w w'
def ZO(p:Nat)(rs:List Int)(i d:Nat)(r:Int)(w:z8)(h:xe p rs i d w)(hr:r≠-1) :
  zC prog 171 #[(p,0),.int .i32 r] w (xdg p rs i d r w):=by
 have f:=Z (Vh p rs i d r w h hr);by_cases c:zt rs i=r
 .have a:(zt rs i==r)=true:=by simpa using c
  rw[a,yV c]at f;have j:=Z c;clear h c a;go_enter func171,ntmps171;go_wp2_with fail;refine f.o.mono ?_;rintro e w1 ⟨rfl,hs,hb⟩;have m:=Z hs;clear hs f;go_wp2;refine yK (v := .tuple #[]) ?_ rfl ⟨by rw[yV j.o];exact⟨rfl,m.o⟩,hb⟩;simp[yN,results171,go_sem]
 .have a:(zt rs i==r)=false:=by simpa using c
  rw[a,yz c]at f;have j:=Z c;clear h c a;go_enter func171,ntmps171;go_wp2_with fail;refine f.o.mono ?_;rintro e w1 ⟨rfl,hs,hb⟩;have n:=hs.at_;have g:=Z hs.Ht;clear hs f;go_wp2_with fail;refine(YT p 3 i w1 g.o).mono ?_;rintro e w2 ⟨hf,k⟩;have l:=Z hf;obtain⟨b,rfl,_,_⟩:=hf;clear n;go_wp2;exact⟨rfl,by rw[yz j.o];exact l.o,hb.below k⟩
def enc(r:Int):List UInt8:=(Y1 r).data.toList
def XU(r:Int):(enc r).length<=4/\(Y1 r).size<=4:=by
 have h:(Y1 r).size<=4:=by
  unfold Y1;simp only[];generalize (if Dz r=true then r.toNat else Tb)=x;split
  .exact(by decide:1<=4)
  split
  .exact(by decide:2<=4)
  split
  .exact(by decide:3<=4)
  .exact(by decide:4<=4)
 exact⟨by simpa[enc]using h,h⟩
def zdk(g cap:Nat)(rs:List Int)(r:Int)(w:z8)(s:rs.length<=1000000)(hc:∀j (h:j<rs.length),zu w g j (.int .i32 rs[j])) :
  zC prog 236 #[.slice (g,0) rs.length cap,.int .i32 r] w λe w'=>(∃k:Int,e = .returned k/\decide (0<=k)=rs.contains r)/\w=w':=by
 have p:=Z hc;obtain⟨n,hn⟩:=zr rs.length;have HN:=Z hn;rw[hn]at s|-;clear hc hn;go_enter func236,ntmps236;go_wp2;go_loop [8] (λi=>∃k:Nat,k<=n/\i = .int .i64 k/\r ∉ rs.take k) (λi=>n - (intOf i).toNat)
 case atStart=>exact⟨0,zQ _,rfl,zZ⟩
 case round =>
  obtain⟨k,t,rfl,b⟩:=hrel;have a:=Z b;clear b;by_cases uo:k<n
  .have c:=p.o k V3;obtain⟨x,hx⟩:=zr (rs[k]' V3);rw[hx]at c;have m:=Z hx;clear hx;by_cases f:r=x
   .have l:(r==x)=true:=(by simpa using f);have HF:=Z (show r∈rs by rw[f,<-m.o];exact yf _);clear f;go_wp2;go_ret;exact⟨⟨k,rfl,by simpa using HF.o⟩,rfl⟩
   .have l:(r==x)=false:=(by simpa using f);have HF:=Z (show r ∉ rs.take (k+1) by
     rw[yj V3,zS];rintro(q|q)
     .exact a.o q
     .rw[m.o]at q;exact f (zJ.1 q))
    exact zf8
  .obtain rfl:k=n:=(by omega);have d:=a.o;rw[yr Ln]at d;have HF:=Z d;clear d;go_wp2;go_ret;exact⟨⟨-1,rfl,by simpa using HF.o⟩,rfl⟩
def Er(g cap:Nat)(rs:List Int)(r:Int)(w:z8)(d:rs.length<=1000000)(hc:∀j (h:j<rs.length),zu w g j (.int .i32 rs[j])) :
  zC prog 210 #[.slice (g,0) rs.length cap,.int .i32 r] w λe w'=>e = .returned (.bool (rs.contains r))/\w=w':=by
 have a:=Z (zdk g cap rs r w d hc);clear hc;go_enter func210,ntmps210;go_wp2_with fail;refine a.o.mono ?_;rintro e w' ⟨⟨k,rfl,b⟩,rfl⟩;have c:=Z b;clear b a;go_wp2;go_ret;exact⟨by rw[<-c.o];rfl,rfl⟩
def gm(r:Int):Bool:=[32,9,10,13].contains r
def yt(rs:List Int)(i:Nat):Nat:=i+((rs.drop i).takeWhile gm).length
def zdj(h:gm (zt rs i)=true):i<rs.length/\yt rs i=yt rs (i+1):=by
 have uo:i<rs.length:=by
  apply yu;intro hc;unfold zt at h;rw[ze,qT J]at h;revert h
  decide
 refine⟨uo,?_⟩;have hn:zt rs i=rs[i]:=by unfold zt;rw[ze,zk uo];rfl
 rw[hn]at h;unfold yt;rw[yY uo,vZ h];simp;omega
def yx4(h:gm (zt rs i)=false):yt rs i=i:=by
 unfold yt;by_cases a:i<rs.length
 .have hn:zt rs i=rs[i]:=by unfold zt;rw[ze,zk a];rfl
  rw[hn]at h;rw[yY a,dU (by simp[h])];rfl
 .rw[yI J];rfl
def AN(p:Nat)(w:z8):Nat:=match w.cell? (p,1) with|some v=>(intOf v).toNat|none=>0
def kz(h:xe p rs i d w):AN p w=i:=by
 unfold AN;rw[h.at_];simp[intOf]
def ji(p:Nat)(rs:List Int)(i d:Nat)(w:z8)(h:xe p rs i d w) :
  zC prog 172 #[(p,0)] w (l8 p rs d (.tuple #[]) (yt rs i) w):=by
 have E:=Z h;obtain⟨R,hR⟩:=zr (yt rs i);rw[hR];have F:=Z hR;clear h hR;go_enter func172,ntmps172;go_wp2_with fail;go_loopw [] (λwr=>∃j,xe p rs j d wr/\xI p w wr/\yt rs j=R) (λwr=>rs.length - AN p wr)
 case atStart=>exact⟨i,E.o,xI.refl _ _,F.o⟩
 case round =>
  obtain⟨j,hs,m,x⟩:=hrel;have z:=Z hs;have t:=Z x;clear hs x;go_wp2_with fail;refine yo ?_;intro W hW;have hb:zP wr W:=Qd;have hc:∀k (h:k<4),zu W (wr:Nat) k (.int .i32 ([32,9,10,13][k]'h)):=by
   rw[hW];intro k B;rw[zf];match k,B with
   | 0,_=>rfl
   | 1,_=>rfl
   | 2,_=>rfl
   | 3,_=>rfl
  clear hW;refine(gB p rs j d W (z.o.below hb)).mono ?_;rintro e w1 ⟨rfl,n⟩;have g:=hb.trans (n.mono hb.size);have I:(wr:Nat)<(W:Nat):=X W _ (hc 0 zR);have u:∀k (h:k<4),zu w1 (wr:Nat) k (.int .i32 ([32,9,10,13][k]'h)):=λk B=>(n.cell (p:=⟨(wr:Nat),k,none⟩) I).trans (hc k B)
  have a:=Er (wr:Nat) 4 [32,9,10,13] (zt rs j) w1 zR u;rw[show[32,9,10,13].contains (zt rs j)=gm (zt rs j)from rfl]at a;have f:=Z a;have c:=z.o.below g;have s:=Z c;have K:=c.at_;have L:=c.z1;have D:=c.len;have A:=c.here;obtain⟨G,q⟩:∃b,gm (zt rs j)=b:=⟨_,rfl⟩;rw[q]at f;have r:=Z q;clear hc u a hb n c q;go_wp2_with fail;refine f.o.mono ?_;rintro e w' ⟨rfl,rfl⟩;cases G
  .have y:=Z (show j=R by rw[<-t.o];exact(yx4 r.o).symm);go_wp2;go_end0
   exact⟨rfl,by rw[<-y.o];exact s.o,m.below g⟩
  .obtain⟨H,l⟩:=zdj r.o;have y:=Z (show yt rs (j+1)=R by rw[<-t.o,l]);have v:=s.o.move (j+1) J;have C:=Z (show xe p rs (j+1) d (w1.setCell (zU p 1) (.int .i64 ((j:Int)+1)))by simpa using v);clear l v;go_wp2;go_roundw
   case rel=>exact⟨j+1,C.o,(m.below g).Ks 1 _,y.o⟩
   case measure=>rw[kz C.o,kz z.o];omega
def U0(l:List Int):runesBytes l=⟨(l.flatMap enc).toArray⟩:=by
 unfold runesBytes;have h:∀(l:List Int) (a:List UInt8),l.foldl (λr n=>r++Y1 n) (⟨a.toArray⟩:ByteArray)=⟨(a++l.flatMap enc).toArray⟩:=by
  intro l;induction l with
  |nil=>intro a;simp
  |cons c t b =>
   intro a;rw[vB,append_eq,toList_mk];rw[show(Y1 c).data.toList=enc c from rfl,b];simp
 have:=h l [];rw[xK]at this;exact this
def zdg(p:Nat)(rs:List Int)(i d:Nat)(w:z8)(v:Value)(F:Int->Nat->Bool):Prop :=
 ∃k cap,v = .func (.func k) #[] cap/\(∀args w,(callFunc k args).run prog w = .ok (.enter k args) w) /\
  ∀W,xI p w W->∀n,(n=0\/i+n<=rs.length)->n<=1000000->xe p rs (i+n) d W->zC prog k (#[.int .i32 (zt rs (i+n)),.int .i64 (n:Nat)]++cap) W λe W'=>e = .returned (.bool (F (zt rs (i+n)) n))/\zP W W'
def U1(F:Int->Nat->Bool)(rs:List Int)(i:Nat):Nat->Nat->Nat
 | 0,n=>n
 |f+1,n=>if F (zt rs (i+n)) n=true then U1 F rs i f (n+1)else n
def runN(F:Int->Nat->Bool)(rs:List Int)(i:Nat):Nat:=U1 F rs i (rs.length+1) 0
def ui(rs:List Int)(i n:Nat):Wd:=((rs.drop i).take n).flatMap enc
def ynz(p:Nat)(rs:List Int)(i d n:Nat)(w:z8)(e:xU)(w':z8):Prop :=
 (if n=0 then GD p 3 i e w' else e = .returned (zM (ui rs i n))/\xe p rs (i+n) d w')/\xI p w w'
def kM(h:rs.length<=i):zt rs i = -1:=by
 unfold zt;rw[ze,qT h];rfl
variable{n:Nat}
def zdf{F:Int->Nat->Bool}{R f:Nat}(h:U1 F rs i (f+1) n=R):(F (zt rs (i+n)) n=true->U1 F rs i f (n+1)=R)/\(F (zt rs (i+n)) n=false->n=R):=by
 rw[U1]at h;constructor
 .intro q;rw[yV q]at h;exact h
 .intro q;rw[yz (by rw[q];simp)]at h;exact h
def l9(p:Nat)(rs:List Int)(i d:Nat)(w:z8)(v:Value)(F:Int->Nat->Bool)(h:xe p rs i d w)(hf:zdg p rs i d w v F)(D:∀n,F (-1) n=false) :
  zC prog 211 #[(p,0),v] w (ynz p rs i d (runN F rs i) w):=by
 obtain⟨kf,cf,rfl,ot,m⟩:=hf;have HH:=Z h;have t:=Z m;obtain⟨R,hR⟩:=zr (runN F rs i);rw[hR];have HR:=Z hR;have hi0:=h.at_;have vrk:=h.here;have hL0:=h.len;clear h m hR;go_enter func211,ntmps211;go_wp2_with fail;clear hi0;go_loopw [] (λwr=>∃n,n<=rs.length/\(n=0\/i+n<=rs.length)/\xe p rs (i+n) d wr/\xI p w wr/\U1 F rs i (rs.length+1 - n) n=R) (λwr=>rs.length+1 - AN p wr)
 case atStart=>exact⟨0,zQ _,.inl rfl,HH.o,xI.refl _ _,HR.o⟩
 case round =>
  obtain⟨n,hn,q,hs,c,G⟩:=hrel;have S:=Z hs;have M:=zdf (F:=F) (rs:=rs) (i:=i) (n:=n) (R:=R) (f:=rs.length - n) (by rw[show rs.length - n+1=rs.length+1 - n by omega];exact G);have x:=Z M;have h5:=hs.at_;have A:zu wr.drew p 1 ((i+n:Nat):Int):=h5;have Ti:((i+n:Nat):Int) - (i:Int)=(n:Int):=J;have EO:vH.wrap ((i:Int)+(n:Int) - (i:Int))=(n:Int):=by rw[show(i:Int)+(n:Int) - (i:Int)=(n:Int)by omega];simp[yf7,Ey,Ob];omega
  clear hs G M;go_wp2_with fail;refine V1 (λW':z8=>zu W' p 1 ((i+n:Nat):Int)) [0,1,3,4,5,6,7,8] 2 A ?_;refine gX 2 (λK hK=>?_);go_simp;refine(gB p rs (i+n) d wr.drew (S.o.below (zv _ _).drew)).mono ?_;rintro e w1 ⟨rfl,W⟩;have a:zP wr w1:=(zv _ wr).drew.trans W;have u:=Z (S.o.below a);have B:zu w1 p 1 ((i+n:Nat):Int):=u.o.at_;refine hK.out _ _ B λ_=>?_;clear hK K;refine gX 9 (λK hK=>?_);go_simp;refine(t.o w1 (c.below a) n q J u.o).mono ?_;rintro e w2 ⟨rfl,y⟩;have l:=a.trans (y.mono a.size);have s:=u.o.below y;have r:=Z s;have C:zu w2 p 1 ((i+n:Nat):Int):=s.at_;have h7:=s.z1;refine hK.out _ _ C λ_=>?_;clear hK K;refine Y3 ?_ _;obtain⟨b,hb⟩:=zr (F (zt rs (i+n)) n);rw[hb];rw[hb]at x;have HB:=Z hb;clear s hb A B h5 Ti EO
  cases b
  .have N:=Z (show n=R from x.o.2 rfl);by_cases z:n=0
   .subst z;have hq:(((i+0:Nat):Int)==(i:Int))=true:=(by simp);go_wp2_with fail;refine(YT p 3 i w2 r.o.Ht).mono ?_;rintro e w3 ⟨E,dD⟩;have O:=Z E;obtain⟨bf,rfl,_,_⟩:=E;go_wp2;exact⟨rfl,by rw[<-N.o,yV rfl];exact O.o,(c.below l).below dD⟩
   .have hq:(((i+n:Nat):Int)==(i:Int))=false:=(by simp;omega);obtain⟨⟨g,cap,c0,hlc,LI,hgp,k⟩,c1,_,_,_,_,_,_⟩:=r.o;have Ab:i+n<=rs.length:=q.resolve_left z;obtain⟨L,T⟩:=zr rs.length;have Q:=Z T;rw[T]at c0 hlc Ab;have V:zu w2.drew p 1 ((i+n:Nat):Int)/\zu w2.drew p 0 (.slice (zU g 0) L cap)/\∀j (h:j<rs.length),zu w2.drew g j (.int .i32 rs[j]):=⟨c1,c0,k⟩;have k1:i<=i+n:=J;have k2:i+n<=cap:=J;have k3:i<=cap:=J;have k4:(i:Int)<=(i:Int)+(n:Int):=J;have k5:(i:Int)+(n:Int)<=(cap:Int):=J;have k6:((i:Int)+(n:Int)).toNat=i+n:=J;have k7:(0:Int)<=(i:Int)+(n:Int):=J;have k8:i+n - i=n:=J;have k9:(i:Int)+(n:Int) - (i:Int)=(n:Int):=J;clear T k c0 c1 C y;go_wp2_with fail;refine rt (λW':z8=>zu W' p 1 ((i+n:Nat):Int)/\zu W' p 0 (.slice (zU g 0) L cap)/\∀j (h:j<rs.length),zu W' g j (.int .i32 rs[j])) [0,1,2,3,4,5,6,7,8,9,10,11] 0 V ?_;(iterate 10 ((first|refine ty ?_|refine tn ?_);try simp only[pl]))
    refine Jt (v:=zM (ui rs i n)) rfl xV ?_ ?_
    .intro w' U;have hcv:=xj7 (P:=prog) w' 137 9 21 ⟨g,i,none⟩ n (cap - i) ((rs.drop i).take n) (by simp;have:=Q.o;omega) underlying137 underlying21 underlying9 (λj hj=>by
      have H:i+j<rs.length:=Gv;have e:(⟨g,i,none⟩:yM).add j=⟨g,i+j,none⟩:=by
       unfold bW;split
       .next h=>subst h;rfl
       .rfl
      rw[e,U.2.2 (i+j) H];have hjn:j<n:=Gv;simp[ze,OY,TR,hjn,H])
     rw[yr yJ,U0]at hcv;go_simp;rw[yz (show ¬cap=i by omega),hcv];rfl
    (try simp only[Act.put,QL,List.set_cons_zero,List.set_cons_succ])
    (iterate 1 ((first|refine ty ?_|refine tn ?_);try simp only[pl]))
    refine yS ?_;refine Y3 ?_ _;go_wp2;go_ret;exact⟨by rw[yz (by rw[<-N.o];exact z)];exact⟨by rw[<-N.o];rfl,by rw[<-N.o];exact r.o.below (zv _ _).drew⟩,(c.below l).drew⟩
  .have uo:i+n<rs.length:=by
    apply yu;intro hc;have:=HB.o;rw[kM J,D]at this;cases this
   have HG:=Z (x.o.1 rfl);have I:=r.o.move (i+(n+1)) J;have HM:=Z (show xe p rs (i+(n+1)) d (w2.setCell (zU p 1) (.int .i64 ((i:Int)+(n:Int)+1)))by rw[show(i:Int)+(n:Int)+1=((i+(n+1):Nat):Int)by omega];exact I);clear I;go_wp2;go_roundw
   case rel=>exact⟨n+1,J,.inr J,HM.o,(c.below l).Ks 1 _,by rw[show rs.length+1 - (n+1)=rs.length - n by omega];exact HG.o⟩
   case measure=>rw[kz HM.o,kz S.o];omega
def jt(r:Int)(n:Nat):Bool:=decide (n<16) && (qU r ||(decide (0<n) && vF r))
def oh(r:Int)(n:Nat)(w:z8)(hn:n<=1000000):zC prog 212 #[.int .i32 r,(n:Nat)] w λe w'=>e = .returned (.bool (jt r n))/\w=w':=by
 obtain⟨l,c⟩:∃b,qU r=b:=⟨_,rfl⟩;obtain⟨dg,EY⟩:∃b,vF r=b:=⟨_,rfl⟩;have f:=Z (c▸Qs r w);have d:=Z (EY▸Us r w);have a:=Z (show jt r n=(decide (n<16) && (l ||(decide (0<n) && dg)))by unfold jt;rw[c,EY]);clear c EY;by_cases h1:n<16
 .have g1:decide (n<16)=true:=decide_eq_true h1;go_enter func212,ntmps212;go_wp2_with fail;refine f.o.mono ?_;rintro e w' ⟨rfl,rfl⟩;cases l
  .by_cases h2:0<n
   .have g2:decide (0<n)=true:=decide_eq_true h2;go_wp2_with fail;refine d.o.mono ?_;rintro e w' ⟨rfl,rfl⟩;go_wp2;go_ret;exact⟨by rw[a.o,g1,g2];simp,rfl⟩
   .have g2:decide (0<n)=false:=decide_eq_false h2;go_wp2;go_ret;exact⟨by rw[a.o,g1,g2];simp,rfl⟩
  .go_wp2;go_ret;exact⟨by rw[a.o,g1];simp,rfl⟩
 .have g1:decide (n<16)=false:=decide_eq_false h1;go_enter func212,ntmps212;go_wp2;go_ret;exact⟨by rw[a.o,g1];simp,rfl⟩
def ky(rs:List Int)(i:Nat):Nat:=runN jt rs i
def Kt(p:Nat)(rs:List Int)(i d:Nat)(w:z8)(h:xe p rs i d w) :
  zC prog 173 #[(p,0)] w (ynz p rs i d (ky rs i) w):=by
 have hf:zdg p rs i d w (.func (.func 212) #[] #[]) jt :=
  ⟨_,_,rfl,λargs w=>xV,λW _ n _ hn _=>(oh (zt rs (i+n)) n W hn).mono λe w' q=>⟨q.1,q.2▸zv _ _⟩⟩
 have f:=Z (l9 p rs i d w _ jt h hf (λn=>by unfold jt;simp[qU,vF]));rw[show runN jt rs i=ky rs i from rfl]at f;obtain⟨n,hn⟩:=zr (ky rs i);rw[hn]at f|-;clear h hf hn;go_enter func173,ntmps173;go_wp2_with fail;refine f.o.mono ?_;rintro e w1 ⟨a,hb⟩;by_cases h0:n=0
 .rw[yV h0]at a;have g:=Z a;obtain⟨b,rfl,_,_⟩:=a;have c:=Z h0;clear h0;go_wp2;exact⟨rfl,by rw[yV c.o];exact g.o,hb⟩
 .rw[yz h0]at a;obtain⟨rfl,hs⟩:=a;have c:=Z h0;clear h0;go_wp2;go_ret;exact⟨by rw[yz c.o];exact⟨rfl,hs⟩,hb⟩
def gx(r0:Int)(r:Int)(n:Nat):Bool:=(decide (n<9) && vF r) && (decide (n=0) ||r0 !=48)
def AO(p bt k:Nat)(rs:List Int)(i n d:Nat)(w:z8)(hs:xe p rs (i+n) d w)(hn:n<=1000000)(hi:n=0\/i+n<=rs.length)(B:zu w bt 0 (p,0))(hf:zu w k 0 i)(r:Int) :
  zC prog 214 #[.int .i32 r,n,(bt,0),(k,0)] w λe w'=>e = .returned (.bool (gx (zt rs i) r n))/\zP w w':=by
 obtain⟨dg,EY⟩:∃b,vF r=b:=⟨_,rfl⟩;have HD:=Z (λW=>EY▸Us r W);obtain⟨j,f⟩:∃q,zt rs i=q:=⟨_,rfl⟩;rw[f];have HF:=Z (show gx j r n=((decide (n<9) && dg) && (decide (n=0) ||j !=48))by unfold gx;rw[EY]);obtain⟨⟨g,cap,c0,u,y,z,a⟩,c1,_,_,_,_,_,_⟩:=hs;obtain⟨L,l⟩:=zr rs.length;rw[l]at c0 u hi;have v:=Z (show i<L->zu w g i (.int .i32 j)from λh=>by
  rw[a i (by rw[l];exact h),<-f];unfold zt;rw[ze,zk (by rw[l];exact h)];rfl)
 clear EY f a l;by_cases h1:n<9
 .have g1:decide (n<9)=true:=decide_eq_true h1;have m:decide ((n:Int)<9)=true:=by simp;omega
  cases dg
  .exact zff
  .by_cases h0:n=0
   .subst h0;exact zff
   .have g2:decide (n=0)=false:=decide_eq_false h0;have C:(n==0)=false:=(by simpa using h0);have x:((n:Int)==0)=false:=yJ;have A:=hi.resolve_left h0;have t:i<L:=J;have s:=v.o t;have c:zu w.drew bt 0 (zU p 0)/\zu w.drew k 0 i/\zu w.drew p 0 (.slice (zU g 0) L cap)/\zu w.drew g i (.int .i32 j):=⟨B,hf,c0,s⟩;go_enter func214,ntmps214;go_wp2_with fail;refine V1 (λW':z8=>zu W' bt 0 (zU p 0)/\zu W' k 0 i/\zu W' p 0 (.slice (zU g 0) L cap)/\zu W' g i (.int .i32 j)) [0,1,2,3] 17 c ?_;refine gX 4 (λK hK=>?_);go_simp;refine(HD.o _).mono ?_;rintro e w' ⟨rfl,rfl⟩;refine hK.out _ _ c λ_=>?_;clear hK K;refine VO [5,6,7,8,9,10,11,12,13,14,15,16,17,18,19,20] 0 c ?_;refine Y3 ?_ _;go_wp2;go_ret;exact⟨by rw[HF.o,g1,g2];simp,(zv _ _).drew⟩
 .have g1:decide (n<9)=false:=decide_eq_false h1;have m:decide ((n:Int)<9)=false:=by simp;omega
  go_enter func214,ntmps214;go_wp2_with fail;refine qs (λW':z8=>True) [0,1,2,3] 17 ZR yq yq (show True from trivial) ?_;(iterate 4 ((first|refine ty ?_|refine tn ?_);try simp only[pl]))
  refine yS ?_;refine gX 4 (λK hK=>?_);rw[yz (by exact zzy)];exact yd8
def qk(rs:List Int)(i:Nat):Nat:=runN (gx (zt rs i)) rs i
def Iv(p:Nat)(rs:List Int)(i d:Nat)(w:z8)(h:xe p rs i d w) :
  zC prog 177 #[(p,0)] w (ynz p rs i d (qk rs i) w):=by
 have l:=Z h;have s:=h.lt;have r:=h.at_;obtain⟨n,hn⟩:=zr (qk rs i);rw[hn];have m:=Z hn;clear h hn;go_enter func177,ntmps177;go_wp2_with fail;refine yo ?_;intro W hW;have hb:zP w W:=Mk;have t:zu W (w:Nat) 0 (zU p 0):=by rw[hW];go_simp
 have hf:zu W ((w:Nat)+1) 0 i:=by rw[hW];go_simp
 clear hW r;have g:zdg p rs i d W (.func (.func 214) #[] #[(w,0),((w:Nat)+1,0)]) (gx (zt rs i)) :=
  ⟨_,_,rfl,λargs w=>xV,λW' c n hi hn hs=>AO p w.heap.size (w.heap.size+1) rs i n d W' hs hn hi (c.cell t (by show w.heap.size≠p;omega)) (c.cell hf (by show w.heap.size+1≠p;omega)) (zt rs (i+n))⟩
 refine(l9 p rs i d W _ (gx (zt rs i)) (l.o.below hb) g (λn=>by unfold gx;simp[vF])).mono ?_;rintro e w1 ⟨f,k⟩;rw[show runN (gx (zt rs i)) rs i=n from m.o]at f;have a:=(xI.of (p:=p) hb).trans k;by_cases h0:n=0
 .rw[yV h0]at f;have q:=Z f;obtain⟨b,rfl,_,_⟩:=f;have j:=Z h0;clear h0;go_wp2;exact⟨rfl,by rw[yV j.o];exact q.o,a⟩
 .rw[yz h0]at f;obtain⟨rfl,hs⟩:=f;have j:=Z h0;clear h0;go_wp2;go_ret;exact⟨by rw[yz j.o];exact⟨rfl,hs⟩,a⟩
def AP(g1 s c1 g2 c2:Nat)(a c:List Int)(w:z8)(E:a.length<=1000000)(u:c.length<=1000000)(h1:∀j (h:j<a.length),zu w g1 (s+j) (.int .i32 a[j]))(h2:∀j (h:j<c.length),zu w g2 j (.int .i32 c[j])) :
  zC prog 213 #[.slice (g1,s) a.length c1,.slice (g2,0) c.length c2] w λe w'=>e = .returned (.bool (decide (a=c)))/\zP w w':=by
 have C:=Z h1;have D:=Z h2;clear h1 h2;obtain⟨n,hn⟩:=zr a.length;obtain⟨m,hm⟩:=zr c.length;have HN:=Z hn;have l:=Z hm;rw[hn]at E|-;rw[hm]at u|-;obtain⟨R,hR⟩:∃b,decide (a=c)=b:=⟨_,rfl⟩;rw[hR];have t:=Z hR;clear hn hm hR;by_cases B:n=m
 .subst B;go_enter func213,ntmps213;go_wp2;go_loopw [13] (λi wr=>∃k:Nat,k<=n/\i = .int .i64 k/\a.take k=c.take k/\zP w wr) (λi _=>n - (intOf i).toNat)
  case atStart=>exact⟨0,zQ _,rfl,rfl,zv _ _⟩
  case round =>
   obtain⟨k,G,rfl,q,hb⟩:=hrel;have v:=Z q;clear q;by_cases uo:k<n
   .have d:=C.o k V3;have f:=D.o k (by rw[l.o];exact uo);obtain⟨x,hx⟩:=zr (a[k]' V3);obtain⟨y,hy⟩:=zr (c[k]'(by rw[l.o];exact uo));rw[hx]at d;rw[hy]at f;have z:=Z hx;have A:=Z hy;have d1:=(hb.cell (X _ _ d)).trans d;have d2:=(hb.cell (X _ _ f)).trans f;have p:zu wr.drew g1 (s+k) (.int .i32 x)/\zu wr.drew g2 k (.int .i32 y):=⟨d1,d2⟩;clear hx hy d f d1 d2;by_cases g:x=y
    .have r:(x !=y)=false:=(by simpa using g);have HF:=Z (show a.take (k+1)=c.take (k+1) by
      rw[yj V3,yj (by rw[l.o];exact uo),v.o,z.o,A.o,g])
     go_wp2_with fail;refine V1 (λW':z8=>zu W' g1 (s+k) (.int .i32 x)/\zu W' g2 k (.int .i32 y)) [0,1,2,3,4,5,6,7,8] 0 p ?_;refine Y3 ?_ _;go_wp2;go_roundw
     case rel=>exact⟨k+1,J,uN,HF.o,hb.drew⟩
     case measure=>simp[intOf];omega
    .have r:(x !=y)=true:=(by simpa using g);have HF:=Z (show R=false by
      rw[<-t.o,decide_eq_false_iff_not];intro e;subst e;exact g (z.o.symm.trans A.o))
     go_wp2_with fail;refine V1 (λW':z8=>zu W' g1 (s+k) (.int .i32 x)/\zu W' g2 k (.int .i32 y)) [0,1,2,3,4,5,6,7,8] 0 p ?_;refine Y3 ?_ _;go_wp2;go_ret;exact⟨gK,hb.drew⟩
   .obtain rfl:k=n:=(by omega);have HF:=Z (show R=true by
     rw[<-t.o,vJ];have h:=v.o;rw[yr Ln,yr (by rw[l.o];exact Y _)]at h;exact h)
    go_wp2;go_ret;exact⟨gK,hb⟩
 .have HF:=Z (show R=false by
   rw[<-t.o,decide_eq_false_iff_not];intro e;subst e;exact B (HN.o.symm.trans l.o))
  have F:((n:Int) !=(m:Int))=true:=yJ;go_enter func213,ntmps213;go_wp2;go_ret;exact⟨gK,zv _ _⟩
def Es:List Int:=[111,102,102,115,101,116,58]
def Fw(rs:List Int)(i:Nat):Bool:=decide ((rs.drop i).take 7=Es)
def Iu:V9 (⟨#[111,102,102,115,101,116,58]⟩:ByteArray) 7 0 #[]=(Es.map (yb .i32)).toArray:=yq
def PL(p:Nat)(rs:List Int)(i d:Nat)(w:z8)(h:xe p rs i d w) :
  zC prog 176 #[(p,0),.string ⟨#[111,102,102,115,101,116,58]⟩] w (l8 p rs d (.bool (Fw rs i)) (if Fw rs i=true then i+7 else i) w):=by
 have U:=Z h;have hcv:=λW=>run_runes_of_string (P:=prog) W 9 137 21 ⟨#[111,102,102,115,101,116,58]⟩ underlying9 underlying137 underlying21 (by rw[show(⟨#[111,102,102,115,101,116,58]⟩:ByteArray).size=7 from rfl,Iu];decide)
 have F:∃M W,(convert 9 137 (.string ⟨#[111,102,102,115,101,116,58]⟩)).run prog w = .ok (.slice (w,0) 7 M) W/\zP w W/\∀j (h:j<Es.length),zu W (w:Nat) j (.int .i32 Es[j]):=by
  refine⟨_,_,hcv w,(zv _ _).drew.alloc (Y _) _,λj hj=>?_⟩;rw[show (w:Nat)=w.drew.heap.size from rfl,zf];rw[show(⟨#[111,102,102,115,101,116,58]⟩:ByteArray).size=7 from rfl,Iu];rw[Array.getElem?_append_left M4];simp
 obtain⟨M,W,A,b,c⟩:=F;obtain⟨⟨g,cap,c0,S,LI,hgp,r⟩,c1,_,_,_,y,q,_⟩:=h;have f:=X w _ c1;have H:=Z (λj (hj:j<rs.length)=>(b.cell (X _ _ (r j hj))).trans (r j hj));have t:=Z c;obtain⟨L,Q⟩:=zr rs.length;rw[Q]at c0 S y q;have C:=Z Q;have m:zu W.drew p 1 i/\zu W.drew p 0 (.slice (zU g 0) L cap):=⟨(b.cell (p:=(zU p 1)) f).trans c1,(b.cell (p:=(zU p 0)) f).trans c0⟩;obtain⟨B,hB⟩:=zr (Fw rs i);rw[hB];have T:=Z hB;obtain⟨I,O⟩:=zr ((if B=true then i+7 else i));rw[O];have E:=Z O;clear O;obtain⟨N,hN⟩:=zr (w:Nat);rw[hN]at A t;clear hcv c r Q hB;have hw1:vH.wrap ((L:Int) - (i:Int))=(L:Int) - (i:Int):=zyf;by_cases hsh:L<i+7
 .have g1:decide ((L:Int) - (i:Int)<7)=true:=by simp;omega
  have HF:=Z (show B=false by
   rw[<-T.o];unfold Fw;rw[decide_eq_false_iff_not];intro e;have V:=congrArg xD e;rw[uK,yh,C.o]at V;have e3:Es.length=7:=rfl;omega)
  go_enter func176,ntmps176;go_wp2_with fail;refine V1 (λW':z8=>zu W' p 1 i/\zu W' p 0 (.slice (zU g 0) L cap)) [0,1,2,3,4,5,6,7,8,9,10,11,12,13,14,15,16,17,18,19,20,21,22,23,24,25,26,27,28,29,30] 3 m ?_;refine gX 31 (λK hK=>?_);rw[yz (by exact zzy)];refine hK.out _ _ m λ_=>?_;clear hK K;refine VO [32,33] 0 m ?_;refine Y3 ?_ _;go_wp2;go_ret;have k:I=i:=by rw[<-E.o,HF.o];rfl
  exact⟨gK,by rw[k];exact U.o.below b.drew,xI.of b.drew⟩
 .have g1:decide ((L:Int) - (i:Int)<7)=false:=by simp;omega
  have g2:vH.wrap ((i:Int)+7)=(i:Int)+7:=zyf;have k1:i<=i+7:=J;have k2:i+7<=cap:=J;have k3:i<=cap:=J;have k4:(i:Int)<=(i:Int)+7:=J;have k5:(i:Int)+7<=(cap:Int):=J;have k6:((i:Int)+7).toNat=i+7:=J;have k7:(0:Int)<=(i:Int)+7:=J;have k8:i+7 - i=7:=J;have k9:(i:Int)+7 - (i:Int)=7:=J;have k10:¬cap=i:=J;have l:((rs.drop i).take 7).length=7:=by rw[uK,yh,C.o];omega
  have n:=AP g i (cap - i) N M ((rs.drop i).take 7) Es W.drew (by rw[l];decide) zR (λj hj=>by
   have R:i+j<rs.length:=(by rw[C.o];rw[l]at hj;omega);have hj3:j<7:=(by rw[l]at hj;exact hj);refine(H.o (i+j) R).trans ?_;simp[List.getElem_take,List.getElem_drop]) t.o
  rw[l,show Es.length=7 from rfl,show decide ((rs.drop i).take 7=Es)=B from T.o]at n;have D:=Z n;clear l n;go_enter func176,ntmps176;go_wp2_with fail;refine V1 (λW':z8=>zu W' p 1 i/\zu W' p 0 (.slice (zU g 0) L cap)) [0,1,2,3,4,5,6,7,8,9,10,11,12,13,14,15,16,17,18,19,20,21,22,23,24,25,26,27,28,29,30] 3 m ?_;refine gX 31 (λK hK=>?_);go_simp;refine D.o.mono ?_;rintro e w2 ⟨rfl,x⟩;have hW2:(W:Nat)<=(w2:Nat):=x.size;have a:zP w w2:=(b.drew).trans (x.mono b.size);have s:=U.o.below a;have u:=Z s;have v:zu w2 p 1 i/\zu w2 p 0 (.slice (zU g 0) L cap):=⟨(a.cell (p:=(zU p 1)) f).trans c1,(a.cell (p:=(zU p 0)) f).trans c0⟩;have h7:=s.z1;refine hK.out _ _ v λ_=>?_;clear hK K s;refine VO [32,33] 0 v ?_;refine Y3 ?_ _
  cases B
  .go_wp2;go_ret;have k:I=i:=(by rw[<-E.o];rfl);exact⟨rfl,by rw[k];exact u.o,xI.of a⟩
  .have z:=u.o.move (i+7) (by rw[C.o];omega);have G:=Z z;clear z;go_wp2;go_ret;have k:I=i+7:=(by rw[<-E.o];rfl);exact⟨rfl,by rw[k];simpa using G.o,(xI.of a).Ks 1 _⟩
def Yq:List ByteArray:=[⟨#[122,101,114,111]⟩,⟨#[111,110,101]⟩,⟨#[116,119,111]⟩,⟨#[102,101,119]⟩,⟨#[109,97,110,121]⟩,⟨#[111,116,104,101,114]⟩]
def qx(w:z8):Prop:=∀j,j<6->zu w 0 j (.string (Yq.getD j Y5))
def qx.below(h:qx w)(hb:zP w w'):qx w':=λj a=>(hb.cell (X w _ (h j a))).trans (h j a)
def U2:List (List UInt8):=[[122,101,114,111],[111,110,101],[116,119,111],[102,101,119],[109,97,110,121],[111,116,104,101,114]]
variable{j:Nat}
def Et(x:Wd):Lib.containsS (Yq.take 6) ⟨x.toArray⟩=decide (x∈U2):=by
 have e:Yq.take 6=U2.map (λl=>(⟨l.toArray⟩:ByteArray)):=rfl;rw[e,xO,vJ,Lib.containsS_iff,uQ];constructor
 .rintro⟨y,hy,h2⟩;have a:=congrArg (λb:ByteArray=>b.data.toList) h2;simp at a;rw[<-a];exact hy
 .intro h;exact⟨x,h,rfl⟩
def MW(x:Wd)(w:z8)(h:qx w):zC prog 215 #[zM x] w λe w'=>e = .returned (.bool (decide (x∈U2)))/\w=w':=by
 have a:=Z (Tryz.slices_Contains_string 0 0 6 6 Yq ⟨x.toArray⟩ w zR zR (λj b=>by rw[uE];exact h j b));rw[Et]at a;go_enter func215,ntmps215;go_wp2_with fail;refine a.o.mono ?_;rintro e w' ⟨rfl,rfl⟩;go_wp2;go_ret;exact⟨rfl,rfl⟩
def xy:List Int->List Int×Nat
 |[]=>([],0)
 |c::t=>if c=39 then
   match t with
   |[]=>([],1)
   |d::u=>if d=39 then (39::(xy u).1,(xy u).2+2)else ([],1)
  else (c::(xy t).1,(xy t).2+1)
def qv(rs:List Int)(num:Bool)(i:Nat):Wd×Nat :=
 if zt rs i≠39 then (enc (zt rs i),i+1)
 else if zt rs (i+1)=39 then (enc 39,i+2)
 else if kx (zt rs (i+1)) num=false then (enc 39,i+1)
 else ((xy (rs.drop (i+1))).1.flatMap enc,i+1+(xy (rs.drop (i+1))).2)
def BG:Y7 prog 137 21 (.int .i32 0) 1 4 :=
 ⟨underlying137,info_parts yq,rfl,zR,zR⟩
def ow(h:rs.length<=j):xy (rs.drop j)=([],0):=by rw[yI h,xy]
def ZS(h:j<rs.length):rs.drop j=zt rs j::rs.drop (j+1):=by
 rw[yY h];exact zu4
def AR(h:j<rs.length)(a:zt rs j≠39):xy (rs.drop j)=(zt rs j::(xy (rs.drop (j+1))).1,(xy (rs.drop (j+1))).2+1):=by
 rw[ZS h,xy.eq_def];dsimp only;rw[yz a]
def p5(h:j<rs.length)(b:zt rs j=39)(h2:zt rs (j+1)=39):xy (rs.drop j)=(39::(xy (rs.drop (j+2))).1,(xy (rs.drop (j+2))).2+2):=by
 have a:j+1<rs.length:=zjb;rw[ZS h,ZS a,xy.eq_def];dsimp only;rw[yV b,yV h2]
def AS(h:j<rs.length)(b:zt rs j=39)(h2:zt rs (j+1)≠39):xy (rs.drop j)=([],1):=by
 rw[ZS h,xy.eq_def];dsimp only;rw[yV b];by_cases a:j+1<rs.length
 .rw[ZS a];dsimp only;rw[yz h2]
 .rw[yI J]
variable{xs:List Value}{size:Nat}{e:xm}{v:Value}
def Kh{base:Nat}(h:w.ownsRow base e size v n xs)(hb:xI p w w')(hp:p<base):w'.ownsRow base e size v n xs :=
 h.kept (row:=some p) ⟨hb.os,hb.tape,hb.output,hb.size,λi hi hn=>hb.block i hi (λe=>hn (by rw[e]))⟩ (zxj)
def p6:∀(n:Nat) (l:List Int),l.length<=n->(xy l).2<=l.length/\(xy l).1.length<=l.length:=zj5
def PM{num:Bool}(h:i<rs.length):i<(qv rs num i).2/\(qv rs num i).2<=rs.length:=by
 unfold qv;split
 .exact⟨by show i<i+1;omega,by show i+1<=_;omega⟩
 split
 .next h2 =>
  have:i+1<rs.length:=zjb;exact⟨by show i<i+2;omega,by show i+2<=_;omega⟩
 split
 .exact⟨by show i<i+1;omega,by show i+1<=_;omega⟩
 .have:=(p6 _ (rs.drop (i+1)) (Y _)).1;rw[yh]at this;exact⟨by show i<i+1+_;omega,by show i+1+_<=_;omega⟩
def BF{base:Nat}{acc:List Int}(h:w.ownsRow base 21 1 v acc.length (acc.map (yb .i32))) :
  (convert 137 206 v).run prog w = .ok (zM (acc.flatMap enc)) w:=by
 rcases h.2 with⟨hv,hn⟩|⟨g,cap,a,hv,_⟩
 .have:acc=[]:=zN hn;subst this;rw[hv,run_convert_runes_nil w _ _ 21 _ _ underlying137 underlying21 underlying206];rfl
 .subst hv;have hc:=xj7 (P:=prog) w 137 206 21 ⟨g,0,none⟩ acc.length cap acc (Y _) underlying137 underlying21 underlying206 (λj b=>by
   rw[vS,h.cellAt j J];simp[ze,b])
  rw[fE,U0]at hc;exact hc
def zdd(p:Nat)(rs:List Int)(i d:Nat)(num:Bool)(w:z8)(h:xe p rs i d w)(hi:i<rs.length) :
  zC prog 131 #[(p,0),.bool num] w (l8 p rs d (zM (qv rs num i).1) (qv rs num i).2 w):=by
 have HH:=Z h;have HN:=Z (gB p rs i d w h);have hL:=h.len;have y:=h.lt;obtain⟨T,hT⟩:=zr (qv rs num i);rw[hT];have HT:=Z hT;obtain⟨T1,T2⟩:=T;dsimp only;obtain⟨q,Q⟩:=zr (zt rs i);rw[Q]at HN;have HQ:=Z Q;clear h hT Q;go_enter func131,ntmps131;go_wp2_with fail;refine HN.o.mono ?_;rintro e w1 ⟨rfl,qE⟩;have V4:=HH.o.below qE;have h5:=V4.at_;have h7:=V4.z1;have N:=V4.move (i+1) J;have HM:=Z (show xe p rs (i+1) d (w1.setCell (zU p 1) (.int .i64 ((i:Int)+1)))by rw[show(i:Int)+1=((i+1:Nat):Int)by omega];exact N);have s:xI p w (w1.setCell (zU p 1) (.int .i64 ((i:Int)+1))):=(xI.of qE).Ks 1 _;obtain⟨W,hW⟩:=zr (w1.setCell (zU p 1) (.int .i64 ((i:Int)+1)));rw[hW]at HM s;have HW:=Z hW;clear V4 N qE HN hW;by_cases z:q=39
 .have KD:(q !=39)=false:=by rw[z];rfl
  have m:=HT.o;unfold qv at m;rw[yz (by rw[HQ.o,z];simp)]at m;have H:=Z m;have a:=Vh p rs (i+1) d 39 W HM.o zR;clear m HQ;subst z;by_cases f:zt rs (i+1)=39
  .rw[show(zt rs (i+1)==39)=true by simpa using f,yV f]at a;have HTK:=Z a;have HE:=Z (show(enc 39,i+2)=(T1,T2)by have h:=H.o;rw[yV f]at h;exact h);clear a f;go_wp2_with fail;rw[HW.o];refine HTK.o.mono ?_;rintro e w2 ⟨rfl,R,qY⟩;have F:=Z R;clear R;go_wp2;go_ret;have he:=HE.o;cases he;exact⟨rfl,F.o,s.trans qY⟩
  .rw[show(zt rs (i+1)==39)=false by simpa using f,yz f]at a;have HTK:=Z a;have hT3:=H.o;rw[yz f]at hT3;have HT3:=Z hT3;obtain⟨sp,hsp⟩:∃b,kx (zt rs (i+1)) num=b:=⟨_,rfl⟩;have HSP:=Z hsp;clear a hT3 hsp H;go_wp2_with fail;rw[HW.o];refine HTK.o.mono ?_;rintro e w2 ⟨rfl,R,qY⟩;have F:=Z R;have K:=s.trans qY;clear R qY HTK HW HM s;go_wp2_with fail;refine(gB p rs (i+1) d w2 F.o).mono ?_;rintro e w3 ⟨rfl,dD⟩;have PY:=Z (F.o.below dD);have L:=K.below dD;clear dD K F;go_wp2_with fail;refine(Vw (zt rs (i+1)) num w3).mono ?_;rintro e w' ⟨rfl,rfl⟩;rw[HSP.o];cases sp
   .have HE:=Z (show(enc 39,i+1)=(T1,T2)by have h:=HT3.o;rw[yV HSP.o]at h;exact h);go_wp2;go_ret;have he:=HE.o;cases he;exact⟨rfl,PY.o,L⟩
   .have HE:=Z (show((xy (rs.drop (i+1))).1.flatMap enc,i+1+(xy (rs.drop (i+1))).2)=(T1,T2)by have h:=HT3.o;rw[yz (by rw[HSP.o];simp)]at h;exact h);clear HT3 HSP HT f;go_wp2_with fail;obtain⟨wq,B5⟩:∃x,x=w3:=⟨_,rfl⟩;obtain⟨E1,hE1⟩:∃x,(xy (rs.drop (i+1))).1=x:=⟨_,rfl⟩;obtain⟨E2,hE2⟩:∃x,i+1+(xy (rs.drop (i+1))).2=x:=⟨_,rfl⟩;have HE1:=Z hE1;have HE2:=Z hE2;clear hE1 hE2;go_loopw [5,6] (λrv tv wr=>∃(j:Nat) (r:Int) (acc:List Int),j<=rs.length/\rv = .int .i32 r/\xe p rs j d wr/\xI p w wr/\wr.ownsRow (w:Nat) 21 1 tv acc.length (acc.map (yb .i32))/\acc.length<=j/\acc++(xy (rs.drop j)).1=E1/\j+(xy (rs.drop j)).2=E2) (λ_ _ wr=>rs.length - AN p wr)
    case atStart=>exact⟨i+1,39,[],J,rfl,PY.o,L,xx _ _ _ _,zZ,HE1.o,HE2.o⟩
    case round =>
     obtain⟨j,r,acc,hj,rfl,hs,XB,P,KP,ha1,ha2⟩:=hrel;obtain⟨HS,HO,U,V⟩:=hdd hs P ha1 ha2;obtain⟨ta,tc,rfl⟩:=zn P;clear hs P ha1 ha2;go_wp2_with fail;refine(gB p rs j d wr HS.o).mono ?_;rintro e w4 ⟨rfl,VD⟩;have Oo:=HS.o.below VD;have I5:=Z Oo;have OD:=Z (Kh HO.o (xI.of (p:=p) VD) y);have xdd:=XB.below VD;clear Oo VD XB;by_cases v:j<rs.length
     .obtain⟨c,hc⟩:=zr (zt rs j);rw[hc];have wF:0<=c:=by
       rw[<-hc];unfold zt;rw[ze,zk v];exact I5.o.pos _ (yf v)
      have Vj:c≠-1:=J;have HC:=Z hc;clear hc;go_wp2_with fail;refine(gB p rs j d w4 I5.o).mono ?_;rintro e w5 ⟨rfl,ZZ⟩;rw[HC.o];have hs5:=I5.o.below ZZ;have oP:=Z (Kh OD.o (xI.of (p:=p) ZZ) y);have yx6:=xdd.below ZZ;have g5:=hs5.at_;have g7:=hs5.z1;have N:=hs5.move (j+1) J;have hM:xe p rs (j+1) d (w5.setCell (zU p 1) (.int .i64 ((j:Int)+1))):=(by rw[show(j:Int)+1=((j+1:Nat):Int)by omega];exact N);have hO6:=Kh oP.o (xI.set p w5 1 (.int .i64 ((j:Int)+1))) y;have t:xI p w (w5.setCell (zU p 1) (.int .i64 ((j:Int)+1))):=yx6.Ks 1 _;obtain⟨W6,EM⟩:∃W,w5.setCell (zU p 1) (.int .i64 ((j:Int)+1))=W:=⟨_,rfl⟩;rw[EM]at hM hO6 t;have HM6:=Z hM;have HO6:=Z hO6;have HW6:=Z EM;clear hs5 N hM hO6 ZZ yx6 EM;by_cases g:c=39
      .have TB:(c==39)=true:=(by rw[g];rfl);have D:=Vh p rs (j+1) d 39 W6 HM6.o zR;by_cases l:zt rs (j+1)=39
       .rw[show(zt rs (j+1)==39)=true by simpa using l,yV l]at D;have n:=Z D;have E:=Z (p5 v (HC.o.trans g) l);have hj2:j+1<rs.length:=by
         apply yu;intro hcc;rw[kM J]at l;cases l
        subst g;clear D l;go_wp2_with fail;rw[HW6.o];refine n.o.mono ?_;rintro e w7 ⟨rfl,S,A⟩;have OH:=Z S;have HO7:=Z (Kh HO6.o A y);have C:=t.trans A;have ynv:(w:Nat)<=(w7:Nat):=C.size;clear S A n;go_wp2_with (first|(at_builtin;refine j9 BG rfl _ _ rfl (w:Nat) _ acc.length (acc.map (yb .i32)) rfl (HO7.o.alloc _) ⟨(w7:Nat),0,none⟩ 1 1 [.int .i32 39] rfl rfl ?a1 ?a2 ?a3 ?a4 ?_)|fail)
        case a1=>exact cells_one (zf _ _ _ _ _)
        case a2 =>
         exact Ff
        case a3=>have:=OH.o.len;omega
        case a4=>simp;omega
        intro v8 w8 O B;have k:∀q,(vL ta acc.length tc).ownBlock=some q->(w:Nat)<=q:=λq Q=>(HO7.o.lt q Q).1
        have M:xI p w w8:=(C.below ((zv _ _).alloc (Y _) _)).grown B k;have I:=(OH.o.below ((zv _ _).alloc (Y _) _)).grown B (λq Q=>by have:=k q Q;omega);have G:=Z I;have HO8:=Z (show w8.ownsRow (w:Nat) 21 1 v8 (acc++[39]).length ((acc++[39]).map (yb .i32))by simpa using O);clear O B I;go_wp2;go_roundw
        case rel=>exact⟨j+2,39,acc++[39],J,rfl,G.o,M,HO8.o,yJ,by rw[<-U.o,E.o];simp,by rw[<-V.o,E.o];omega⟩
        case measure=>rw[kz G.o,kz HS.o];omega
       .rw[show(zt rs (j+1)==39)=false by simpa using l,yz l]at D;have n:=Z D;have hqq:=AS v (HC.o.trans g) l;have EF:=Z (show acc=E1 by rw[<-U.o,hqq];simp);have VE:=Z (show j+1=E2 by rw[<-V.o,hqq]);subst g;clear D l hqq;go_wp2_with fail;rw[HW6.o];refine n.o.mono ?_;rintro e w7 ⟨rfl,S,A⟩;have OH:=Z S;have HO7:=Z (Kh HO6.o A y);have C:=t.trans A;have hcv:=BF HO7.o;clear S A n;go_wp2;go_ret;have he:=HE.o;rw[HE1.o,HE2.o]at he;cases he;exact⟨by rw[EF.o];rfl,by rw[<-VE.o];exact OH.o,C⟩
      .have TB:(c==39)=false:=(by simpa using g);have E:=Z (AR v (λe=>g (HC.o.symm.trans e)));have zb0:(w:Nat)<=(W6:Nat):=t.size;have vjk:=HW6.o;subst vjk;go_wp2_with (first|(at_builtin;refine j9 BG rfl _ _ rfl (w:Nat) _ acc.length (acc.map (yb .i32)) rfl (HO6.o.alloc _) ⟨(w5:Nat),0,none⟩ 1 1 [.int .i32 c] rfl rfl ?a1 ?a2 ?a3 ?a4 ?_)|fail)
       case a1 =>
        have e:(w5.setCell (p,1) (.int .i64 ((j:Int)+1))).heap.size=(w5:Nat):=ZH;have h:=zf (w5.setCell (zU p 1) (.int .i64 ((j:Int)+1))) #[.int .i32 c] 21 (0,0) 0;rw[e]at h;exact cells_one h
       case a2 =>
        exact Ff
       case a3=>have:=HM6.o.len;omega
       case a4=>exact zj zb0 zZ
       intro v8 w8 O B;have k:∀q,(vL ta acc.length tc).ownBlock=some q->(w:Nat)<=q:=λq Q=>(HO6.o.lt q Q).1
       have M:xI p w w8:=(t.below ((zv _ _).alloc (Y _) _)).grown B k;have I:=(HM6.o.below ((zv _ _).alloc (Y _) _)).grown B (λq Q=>by have:=k q Q;omega);have G:=Z I;have HO8:=Z (show w8.ownsRow (w:Nat) 21 1 v8 (acc++[c]).length ((acc++[c]).map (yb .i32))by simpa using O);clear O B I;go_wp2;go_roundw
       case rel=>exact⟨j+1,c,acc++[c],J,rfl,G.o,M,HO8.o,yJ,by rw[<-U.o,E.o,HC.o];simp,by rw[<-V.o,E.o];omega⟩
       case measure=>rw[kz G.o,kz HS.o];omega
     .have HX:=Z (ow (rs:=rs) (j:=j) J);have HNE:=Z (kM (rs:=rs) (i:=j) J);have hcv:=BF OD.o;rw[HNE.o];go_wp2;go_ret;have he:=HE.o;rw[HE1.o,HE2.o]at he;have e1:=U.o;have e2:=V.o;rw[HX.o]at e1 e2;cases he;exact⟨by rw[<-e1];first|(simp;done)|(simp;rfl),by rw[<-e2];exact I5.o,xdd⟩
 .have KD:(q !=39)=true:=by simpa using z
  have m:=HT.o;unfold qv at m;rw[yV (by rw[HQ.o];exact z)]at m;have H:=Z m;clear m;go_wp2;go_ret;have h:=H.o;rw[HQ.o]at h;cases h;exact⟨rfl,by rw[HW.o];exact HM.o,by rw[HW.o];exact s⟩
def MA:Wd:=[115,101,108,101,99,116]
def Ma:Wd:=[112,108,117,114,97,108]
def PN:Wd:=[115,101,108,101,99,116,111,114,100,105,110,97,108]
def U3(m:Wd):Option Nat:=if m=MA then some 0 else if m=Ma then some 1 else if m=PN then some 2 else none
def Mc(w:z8)(b:Nat):Prop :=
 ∃D:DataW Unit,w.ownsMap prog 9 (plainElem prog 215) b 3 D/\∀m:Wd,Maps.has D (.string m)=(U3 m).isSome/\D.atKey (.string m) (.lit (.int .i64 0)) = .lit (.int .i64 (((U3 m).getD 0:Nat):Int))
def Mc.look{b:Nat}(h:Mc w b)(m:Wd)(hm:m.length<=5000000) :
  (TZ 300 (.map (some b)) (zM m) true).run prog w = .ok (.tuple #[(((U3 m).getD 0:Nat):Int),.bool (U3 m).isSome]) w:=by
 obtain⟨D,h1,d⟩:=h;obtain⟨v,ps,a,hv⟩:=h1.look_ok (xE underlying9) underlying300 (z := .int .i64 0) Qa (bK underlying215 zR)
  (key:=zM m) (xu (s:=⟨m.toArray⟩) underlying9 VP)
 rw[toList_mk]at a hv;rw[(d m).1]at a;rw[(d m).2]at hv;obtain⟨c,rfl,hc,_⟩:=plainElem_int_inv underlying215 hv;simp only[Hi,EI,yzy]at hc;rw[a,<-hc.1.2]
def p7(w:z8):zC prog 175 #[] w λe w'=>(∃b,e = .returned (.map (some b))/\Mc w' b)/\zP w w':=by
 have u:=@run_makeMap prog;go_enter func175,ntmps175;go_wp2;obtain⟨w1,c,i,g⟩:=(Hl (H:=Unit) w prog 9 (plainElem prog 215)).update (xE underlying9) underlying300 (by unfold maxLen;omega) (xu (s:=⟨#[115,101,108,101,99,116]⟩) underlying9 zR) (bK underlying215 (q := .i64) (a:=0) zR);rw[c];simp only[ym];clear c;go_wp2;obtain⟨w2,d,j,l⟩:=(i).update (xE underlying9) underlying300 (by unfold maxLen;omega) (xu (s:=⟨#[112,108,117,114,97,108]⟩) underlying9 zR) (bK underlying215 (q := .i64) (a:=1) zR);rw[d];simp only[ym];clear d;go_wp2;obtain⟨w3,f,k,t⟩:=(j).update (xE underlying9) underlying300 (by unfold maxLen;omega) (xu (s:=⟨#[115,101,108,101,99,116,111,114,100,105,110,97,108]⟩) underlying9 (by decide)) (bK underlying215 (q := .i64) (a:=2) (by decide));rw[f];simp only[ym];clear f;go_wp2;go_ret;have hb:zP w w3:=((((zv _ _).alloc (Y _) _).grown g zZ (λq n=>by cases n;exact Y _)).grown l (zj zZ g.size) (λq n=>by cases n;exact Y _)).grown t (zj (zj (by simp) g.size) l.size) (λq n=>by cases n;exact Y _);refine⟨⟨_,rfl,_,k,λm=>?_⟩,hb⟩;have hm:Maps.IsMap (yf8 []:DataW Unit):=⟨_,rfl⟩;have k1:kJ (.string MA):=trivial;have k2:kJ (.string Ma):=trivial;have k3:kJ (.string PN):=trivial;show Maps.has ((((yf8 []:DataW Unit).put (.string MA) (.lit (.int .i64 0))).put (.string Ma) (.lit (.int .i64 1))).put (.string PN) (.lit (.int .i64 2))) (.string m)=_/\((((yf8 []:DataW Unit).put (.string MA) (.lit (.int .i64 0))).put (.string Ma) (.lit (.int .i64 1))).put (.string PN) (.lit (.int .i64 2))).atKey (.string m) (.lit (.int .i64 0))=_;have h1:=hm.put (.string MA) (.lit (.int .i64 0));have h2:=h1.put (.string Ma) (.lit (.int .i64 1));have ne:∀{a b:Wd},a≠b->(Lit.string a) ≠ .string b:=λh e=>h BK
 unfold U3;by_cases r:m=PN
 .subst r;rw[QI h2 k3,UW h2 k3,yz zR,yz zR,yV rfl];exact⟨rfl,rfl⟩
 .rw[Od (ne r),dT (ne r)];by_cases p:m=Ma
  .subst p;rw[QI h1 k2,UW h1 k2,yz zR,yV rfl];exact⟨rfl,rfl⟩
  .rw[Od (ne p),dT (ne p)];by_cases o:m=MA
   .subst o;rw[QI hm k1,UW hm k1,yV rfl];exact⟨rfl,rfl⟩
   .rw[Od (ne o),dT (ne o),yz o,yz p,yz r];exact⟨rfl,rfl⟩
variable{vs:List Value}{hi hi' lo lo':Nat}
inductive Fo where
 |nil:Fo
 |text (t:Wd) (r:Fo):Fo
 |hash (r:Fo):Fo
 |put (name:Wd) (pl:Nat) (r:Fo):Fo
 |num (name:Wd) (pl:Nat) (r:Fo):Fo
 |br (name:Wd) (pl form:Nat) (off:Wd) (close:Nat) (bs r:Fo):Fo
 |xR (key:Wd) (pl:Nat) (msg r:Fo):Fo
namespace Fo
def len:Fo->Nat
 |nil=>0
 |text _ r=>r.len+1
 |hash r=>r.len+1
 |put _ _ r=>r.len+1
 |num _ _ r=>r.len+1
 |br _ _ _ _ _ _ r=>r.len+1
 |xR _ _ _ r=>r.len+1
def app:Fo->Fo->Fo
 |nil,g=>g
 |text t r,g=>text t (r.app g)
 |hash r,g=>hash (r.app g)
 |put n a r,g=>put n a (r.app g)
 |num n a r,g=>num n a (r.app g)
 |br n a f o c b r,g=>br n a f o c b (r.app g)
 |xR k a m r,g=>xR k a m (r.app g)
def jD:∀f g:Fo,(f.app g).len=f.len+g.len
 |nil,g=>by simp[app,len]
 |text t r,g=>I4
 |hash r,g=>I4
 |put n a r,g=>I4
 |num n a r,g=>I4
 |br n a f o c b r,g=>I4
 |xR k a m r,g=>I4
def ye:Fo->Wd->Fo
 |nil,t=>text t nil
 |text s nil,t=>text (s++t) nil
 |text s r,t=>text s (r.ye t)
 |hash r,t=>hash (r.ye t)
 |put n a r,t=>put n a (r.ye t)
 |num n a r,t=>num n a (r.ye t)
 |br n a f o c b r,t=>br n a f o c b (r.ye t)
 |xR k a m r,t=>xR k a m (r.ye t)
def xJ:Fo->Option Wd
 |nil=>none
 |text s nil=>some s
 |text _ r=>r.xJ
 |hash r=>r.xJ
 |put _ _ r=>r.xJ
 |num _ _ r=>r.xJ
 |br _ _ _ _ _ _ r=>r.xJ
 |xR _ _ _ r=>r.xJ
def yT:Fo->Bool
 |nil=>true
 |text _ r=>r.yT
 |hash r=>r.yT
 |put _ _ r=>r.yT
 |num _ _ r=>r.yT
 |br _ _ _ _ _ _ r=>r.yT
 |xR _ _ _ _=>false
end Fo
def yg(o:Wd):Nat:=o.foldl (λv c=>10*v+(c.toNat - 48)) 0
def U4(lo hi:Nat)(w:z8)(a:Option yM)(vs:List Value):Prop:=∀j (h:j<vs.length),∃g o,a=some ⟨g,o,none⟩/\lo<=g/\g<hi/\w.cell? ⟨g,o+j,none⟩=some vs[j]
def yd(lo hi:Nat)(w:z8):List Value->Fo->Prop
 |vs,.nil=>vs=[]
 |vs,.text t r=>∃vt,vs = .iface 206 (zM t)::vt/\yd lo hi w vt r
 |vs,.hash r=>∃vt,vs = .iface 208 (.agg #[])::vt/\yd lo hi w vt r
 |vs,.put n a r=>∃vt b,vs = .iface 210 (.pointer (some ⟨b,0,none⟩))::vt/\lo<=b/\b<hi/\zu w b 0 (zM n)/\zu w b 1 a/\yd lo hi w vt r
 |vs,.num n a r=>∃vt b,vs = .iface 213 (.pointer (some ⟨b,0,none⟩))::vt/\lo<=b/\b<hi/\zu w b 0 (zM n)/\zu w b 1 a/\yd lo hi w vt r
 |vs,.br n a f o c bs r=>∃vt b ba bc ws,vs = .iface 199 (.pointer (some ⟨b,0,none⟩))::vt/\lo<=b/\b<hi/\zu w b 0 (zM n)/\w.cell? ⟨b,1,none⟩=some (.int .i64 a) /\
   w.cell? (b,2)=some (.int .i64 f)/\zu w b 3 (.int .i64 (yg o))/\zu w b 4 (.slice ba bs.len bc)/\w.cell? (b,5)=some (.int .i64 c) /\
   U4 lo hi w ba ws/\yd lo hi w ws bs/\yd lo hi w vt r
 |vs,.xR k a m r=>∃vt ma mc ws,vs=zM k :: .int .i64 a :: .slice ma m.len mc::vt/\U4 lo hi w ma ws/\yd lo hi w ws m/\yd lo hi w vt r
def U4.keep{a:Option yM}(h:U4 lo hi w a vs)(i:xh lo hi w w')(h1:lo'<=lo)(h2:hi<=hi'):U4 lo' hi' w' a vs:=λj f=>by
 obtain⟨g,o,b,c,d,e⟩:=h j f;exact⟨g,o,b,J,J,(i.cell (p:=(g,o+j)) c d).trans e⟩
def yd.keep(hk:xh lo hi w w')(h1:lo'<=lo)(h2:hi<=hi'):∀(f:Fo) (vs:List Value),yd lo hi w vs f->yd lo' hi' w' vs f
 |.nil,vs,h=>h
 |.text t r,vs,h=>zuu
 |.hash r,vs,h=>zuu
 |.put n a r,vs,h=>zgg
 |.num n a r,vs,h=>zgg
 |.br n a f o c bs r,vs,h=>by
  obtain⟨vt,b,i,j,ws,e,l1,l2,c0,c1,c2,c3,c4,c5,d,g,hr⟩:=h;exact⟨vt,b,i,j,ws,e,J,J,(hk.cell (p:=(b,0)) l1 l2).trans c0,(hk.cell (p:=(b,1)) l1 l2).trans c1,(hk.cell (p:=(b,2)) l1 l2).trans c2,(hk.cell (p:=(b,3)) l1 l2).trans c3,
   (hk.cell (p:=(b,4)) l1 l2).trans c4,(hk.cell (p:=(b,5)) l1 l2).trans c5,d.keep hk h1 h2,yd.keep hk h1 h2 bs ws g,yd.keep hk h1 h2 r vt hr⟩
 |.xR k a m r,vs,h=>by
  obtain⟨vt,ma,mc,ws,e,d,hm,hr⟩:=h;exact⟨vt,ma,mc,ws,e,d.keep hk h1 h2,yd.keep hk h1 h2 m ws hm,yd.keep hk h1 h2 r vt hr⟩
def yd.app{us:List Value}{g:Fo}(hg:yd lo hi w us g):∀(f:Fo) (vs:List Value),yd lo hi w vs f->yd lo hi w (vs++us) (f.app g)
 |.nil,vs,h=>by
  have e:vs=[]:=h;subst e;exact hg
 |.text t r,vs,h=>zub
 |.hash r,vs,h=>zub
 |.put n a r,vs,h=>zv8
 |.num n a r,vs,h=>zv8
 |.br n a f o c bs r,vs,h=>by
  obtain⟨vt,b,j,l,ws,rfl,l1,l2,c0,c1,c2,c3,c4,c5,d,i,hr⟩:=h;exact⟨_,b,j,l,ws,rfl,l1,l2,c0,c1,c2,c3,c4,c5,d,i,yd.app hg r vt hr⟩
 |.xR k a m r,vs,h=>by
  obtain⟨vt,ma,mc,ws,rfl,d,hm,hr⟩:=h;exact⟨_,ma,mc,ws,rfl,d,hm,yd.app hg r vt hr⟩
def Fo.xW:Fo->Bool
 |.nil=>true
 |.xR _ _ _ r=>r.xW
 |_=>false
def yd.count:∀(f:Fo) (vs:List Value),yd lo hi w vs f->f.yT=true->vs.length=f.len
 |.nil,vs,h,_=>by
  have e:vs=[]:=h;subst e;rfl
 |.text t r,vs,h,hm=>by
  obtain⟨vt,rfl,hr⟩:=h;exact Dl
 |.hash r,vs,h,hm=>by
  obtain⟨vt,rfl,hr⟩:=h;exact Dl
 |.put n a r,vs,h,hm=>by
  obtain⟨vt,b,rfl,g,i,c0,c1,hr⟩:=h;exact Dl
 |.num n a r,vs,h,hm=>by
  obtain⟨vt,b,rfl,g,i,c0,c1,hr⟩:=h;exact Dl
 |.br n a f o c bs r,vs,h,hm=>by
  obtain⟨vt,b,l,p,ws,rfl,g,i,c0,c1,c2,c3,c4,c5,d,j,hr⟩:=h;exact Dl
 |.xR k a m r,vs,h,hm=>by cases hm
variable{α β:Type}
abbrev qm(α:Type):=Except (Nat×Nat) (α×Nat)
def qm.then{α β:Type}(x:qm α)(k:α->Nat->qm β):qm β:=match x with |.error e => .error e |.ok (a,i)=>k a i
def then_ok(a:α)(i:Nat)(k:α->Nat->qm β):qm.then (.ok (a,i)) k=k a i:=rfl
def uA(rs:List Int)(r:Int)(i:Nat):qm Unit:=if zt rs i=r then .ok ((),i+1)else .error (3,i)
def kO(rs:List Int)(i:Nat):qm Wd:=if ky rs i=0 then .error (3,i)else .ok (ui rs i (ky rs i),i+ky rs i)
def qO(rs:List Int)(i:Nat):qm Wd:=if qk rs i=0 then .error (3,i)else .ok (ui rs i (qk rs i),i+qk rs i)
abbrev jH:=Bool->Nat->qm Fo
def YV(rs:List Int)(num:Bool)(i:Nat):qm Wd :=
 if num=true/\zt rs i=61 then (qO rs (i+1)).then λk j => .ok (61::k,j)
 else (kO rs i).then λk j=>if num=true/\k ∉ U2 then .error (3,i)else .ok (k,j)
def Ka(rs:List Int):Option jH->Bool->Wd->Nat->Nat->Nat->qm Fo
 |none,_,_,_,o,_ => .error (4,o)
 |some m,num,k,i,_,l=>(m num l).then λf q=>(uA rs 125 q).then λ_ z => .ok (.xR k i f .nil,yt rs z)
def bH(rs:List Int)(msg:Option jH)(num:Bool)(i:Nat):qm Fo :=
 (YV rs num i).then λk j=>(uA rs 123 (yt rs j)).then λ_ l=>Ka rs msg num k i (yt rs j) l
def q9(rs:List Int)(msg:Option jH)(num:Bool):Nat->Fo->Nat->qm Fo
 | 0,_,i => .error (3,i)
 |n+1,acc,i=>if zt rs i=125/\acc.len≠0 then .ok (acc,i)else (bH rs msg num i).then λf j=>q9 rs msg num n (acc.app f) j
def zb1:Wd:=[110,117,109,98,101,114]
def U5(rs:List Int)(form:Nat)(i:Nat):qm Wd :=
 if form≠0/\Fw rs i=true then (qO rs (yt rs (i+7))).then λo j => .ok (o,yt rs j)else .ok ([48],i)
def gC(rs:List Int)(msg:Option jH)(i:Nat):qm Fo :=
 (uA rs 123 i).then λ_ a =>
 (kO rs (yt rs a)).then λname b =>
 if zt rs (yt rs b)≠44 then (uA rs 125 (yt rs b)).then λ_ z => .ok (.put name i .nil,z)
 else (kO rs (yt rs (yt rs b+1))).then λw c =>
  if w=zb1 then (uA rs 125 (yt rs c)).then λ_ z => .ok (.num name i .nil,z)
  else match U3 w with
   |none => .error (3,yt rs (yt rs b+1))
   |some form=>(uA rs 44 (yt rs c)).then λ_ d=>(U5 rs form (yt rs d)).then λo l =>
    (q9 rs msg (decide (form≠0)) (rs.length+1) .nil l).then λbs q=>(uA rs 125 q).then λ_ z => .ok (.br name i form o q bs .nil,z)
def vV(rs:List Int)(msg:Option jH)(num:Bool):Nat->Fo->Nat->qm Fo
 | 0,_,i => .error (3,i)
 |n+1,acc,i =>
  if zt rs i = -1\/zt rs i=125 then .ok (acc,i)
  else if zt rs i=123 then (gC rs msg i).then λf j=>vV rs msg num n (acc.app f) j
  else if zt rs i=35/\num=true then vV rs msg num n (acc.app (.hash .nil)) (i+1)
  else vV rs msg num n (acc.ye (qv rs num i).1) (qv rs num i).2
def gH(rs:List Int):Nat->jH
 | 0=>λnum i=>vV rs none num (rs.length+1) .nil i
 |n+1=>λnum i=>vV rs (some (gH rs n)) num (rs.length+1) .nil i
def gu(rs:List Int):qm Fo:=(gH rs 5 false 0).then λf i=>if zt rs i = -1 then .ok (f,i)else .error (3,i)
variable{B:Nat}{u v0 v1 v2:Value}{W W':z8}
structure FX(p:Nat)(w:z8):Prop where
 names:qx w
 ne:0≠p
def FX.but(h:FX p w)(hb:xI p w w'):FX p w':=⟨λj a=>hb.cell (h.names j a) h.ne,h.ne⟩
def xb1(p:Nat)(rs:List Int)(d:Nat)(r:qm Fo)(w:z8)(e:xU)(w':z8):Prop :=
 (match r with
  |.error (n,a)=>GD p n a e w'
  |.ok (f,j)=>(∃a c,e = .returned (.slice a f.len c)/\∃vs,U4 (w:Nat) (w':Nat) w' a vs/\yd (w:Nat) (w':Nat) w' vs f)/\f.yT=true/\xe p rs j d w')/\xI p w w'
def ZT(rs:List Int)(i n:Nat):(ui rs i n).length<=4*rs.length:=by
 have b:∀l:List Int,(l.flatMap enc).length<=4*l.length:=by
  intro l;exact zyz
 have h1:=b ((rs.drop i).take n);have h2:((rs.drop i).take n).length<=rs.length:=yJ;unfold ui;omega
def yx7(p:Nat)(rs:List Int)(d:Nat)(m:jH):Prop:=∀(num:Bool) (i:Nat) (w:z8),xe p rs i d w->FX p w ->
 zC prog 78 #[(p,0),.bool num] w (xb1 p rs d (m num i) w)
def xd2(p:Nat)(rs:List Int)(d:Nat)(r:qm Fo)(w:z8)(e:xU)(w':z8):Prop :=
 (match r with
  |.error (n,a)=>GD p n a e w'
  |.ok (f,j)=>(∃k pl m ma mc,f = .xR k pl m .nil/\e = .returned (.agg #[zM k,.int .i64 pl,.slice ma m.len mc])/\m.yT=true/\∃vs,U4 (w:Nat) (w':Nat) w' ma vs/\yd (w:Nat) (w':Nat) w' vs m)/\xe p rs j d w')/\xI p w w'
structure BD(B:Nat)(v0 v1 v2:Value)(w:z8):Prop where
 c0:zu w B 0 v0
 c1:zu w B 1 v1
 c2:zu w B 2 v2
 z:∀j,w.frozen? ⟨B,j,none⟩=false
def BD.but(h:BD B v0 v1 v2 w)(hb:xI p w w')(b:B≠p):BD B v0 v1 v2 w' :=
 ⟨hb.cell h.c0 b,hb.cell h.c1 b,hb.cell h.c2 b,λj=>(zV (a:=⟨B,j,none⟩) (hb.block B (X w _ h.c0) b)).trans (h.z j)⟩
def BD.VX(h:BD B v0 v1 v2 w):BD B u v1 v2 (w.setCell (B,0) u) :=
 ⟨AE,MJ,by rw[zo,yz zZ];exact h.c2,λj=>by rw[zO];exact h.z j⟩
def BD.vk7(h:BD B v0 v1 v2 w):BD B v0 v1 u (w.setCell (B,2) u) :=
 ⟨by rw[zo,yz zZ];exact h.c0,MJ,by rw[zo,yV rfl,h.c2];rfl,λj=>by rw[zO];exact h.z j⟩
def xI.own(h:xI p w w')(hB:(w:Nat)<=B)(j:Nat)(u:Value):xI p w (w'.setCell (B,j) u) :=
 ⟨h.os,h.tape,h.output,zj h.size ZH,λk a hp=>(yZ _ _ _ _ (by show k≠B;omega)).trans (h.block k a hp)⟩
def xh.put(h:xh lo hi w W)(hB:B<lo)(j:Nat)(u:Value):xh lo hi w (W.setCell (B,j) u) :=
 ⟨zj h.1 ZH,λk h1 h2=>(yZ _ _ _ _ (by show k≠B;omega)).trans (h.2 k h1 h2)⟩
def xh.but(h:xh lo hi w W)(hb:xI p W W')(hp:p<lo):xh lo hi w W' :=
 ⟨zj h.1 hb.size,λk h1 h2=>(hb.block k (zD h2 h.1) J).trans (h.2 k h1 h2)⟩
def xe.own(h:xe p rs i d w)(hB:p<B)(j:Nat)(u:Value):xe p rs i d (w.setCell (B,j) u) :=
 h.grown (row:=some B) ⟨rfl,rfl,rfl,ZH,λk _ a=>yZ _ _ _ _ (λe=>a (by rw[e]))⟩ (λq b=>by cases b;exact hB)
def AT(p:Nat)(rs:List Int)(i d:Nat)(num:Bool)(msg:Option jH)(w:z8)(h:xe p rs i d w)(he:FX p w)(hd:msg=none ↔ d=6)(hm:∀m,msg=some m->yx7 p rs d m) :
  zC prog 178 #[(p,0),.bool num] w (xd2 p rs d (bH rs msg num i) w):=by
 obtain⟨M,oI,HD,HMC⟩:=hdd h he hd hm;have P:=h.lt;have N:=h.at_;obtain⟨R,hR⟩:=zr (bH rs msg num i);rw[hR];have L:=Z hR;clear h he hd hm hR;cases num
 .go_enter func178,ntmps178;go_wp2_with fail;refine yo ?_;intro W hW;have C:zP w W:=by rw[hW];exact(zv _ _).alloc (Y _) _
  have t:BD (w:Nat) (.string ⟨#[]⟩) i (.slice none 0 0) W:=zjk;clear hW N;obtain⟨B,hB⟩:=zr (w:Nat);rw[hB]at t|-;have HB:=Z hB;have hpB:p<B:=J;have F:=Z t;clear hB t;obtain⟨Wp,PZ⟩:∃b,b=false:=⟨_,rfl⟩;refine(Kt p rs i d W (M.o.below C)).mono ?_;rintro e x0 ⟨hq,g⟩;have x:=(xI.of (p:=p) C).trans g;have n:=Z (F.o.but g J);by_cases Zd:ky rs i=0
  .rw[yV Zd]at hq;have EP:=Z (show R = .error (3,i)by rw[<-L.o];unfold bH YV kO;rw[yz zZ,yV Zd];rfl);have HQ:=Z hq;obtain⟨bf,rfl,_,_⟩:=hq;clear Zd;go_wp2;exact⟨rfl,by rw[EP.o];exact HQ.o,x⟩
  .rw[yz Zd]at hq;obtain⟨rfl,a⟩:=hq;obtain⟨K,hK⟩:=zr (ui rs i (ky rs i));obtain⟨j,D⟩:=zr (i+ky rs i);rw[D]at a;rw[hK];have HT:=Z (show R=(uA rs 123 (yt rs j)).then λ_ l=>Ka rs msg Wp K i (yt rs j) l by
    rw[<-L.o,PZ];unfold bH YV kO;rw[yz zZ,yz Zd,hK,D];first|rfl|(simp[then_ok];done))
   have A:=Z a;have Q:=n.o.z 0;have z0:=n.o.c0;have z1:=n.o.c1;have HSK:=Z (A.o.own hpB 0 (zM K));have HLK:=Z (n.o.VX (u:=zM K));have Wo:xI p w (x0.setCell (zU B 0) (zM K)):=x.own MD 0 _;obtain⟨Xk,y⟩:=zr (x0.setCell (zU B 0) (zM K));rw[y]at HSK HLK Wo;have H:=Z y;clear a Zd hK D y g x;go_wp2_with fail;rw[H.o];exact Wn
 .go_enter func178,ntmps178;go_wp2_with fail;refine yo ?_;intro W hW;have C:zP w W:=by rw[hW];exact(zv _ _).alloc (Y _) _
  have t:BD (w:Nat) (.string ⟨#[]⟩) i (.slice none 0 0) W:=zjk;clear hW N;obtain⟨B,hB⟩:=zr (w:Nat);rw[hB]at t|-;have HB:=Z hB;have hpB:p<B:=J;have F:=Z t;clear hB t;obtain⟨Wp,PZ⟩:∃b,b=true:=⟨_,rfl⟩;refine(Vh p rs i d 61 W (M.o.below C) zR).mono ?_;rintro e x0 ⟨rfl,a,g⟩;have x:=(xI.of (p:=p) C).trans g;have n:=Z (F.o.but g J);by_cases c:zt rs i=61
  .rw[yV c]at a;rw[show(zt rs i==61)=true by rw[c];rfl];have A:=Z a;have s:=Z (show R=((qO rs (i+1)).then λk j=>(.ok (61::k,j):qm Wd)).then λk j=>(uA rs 123 (yt rs j)).then λ_ l=>Ka rs msg true k i (yt rs j) l by
    rw[<-L.o];unfold bH YV;rw[yV ⟨rfl,c⟩])
   clear a c g;go_wp2_with fail;refine(Iv p rs (i+1) d x0 A.o).mono ?_;rintro e x1 ⟨hq,DS⟩;have qE:=x.trans DS;have Pb:=Z (n.o.but DS J);by_cases Zd:qk rs (i+1)=0
   .rw[yV Zd]at hq;have EP:=Z (show R = .error (3,i+1)by rw[s.o];unfold qO;rw[yV Zd];rfl);exact zxb
   .rw[yz Zd]at hq;obtain⟨rfl,V4⟩:=hq;obtain⟨G,hK⟩:=zr (ui rs (i+1) (qk rs (i+1)));obtain⟨K,I⟩:=zr (61::G);obtain⟨j,D⟩:=zr (i+1+qk rs (i+1));rw[D]at V4;rw[hK];have HT:=Z (show R=(uA rs 123 (yt rs j)).then λ_ l=>Ka rs msg Wp K i (yt rs j) l by
     rw[s.o,PZ];unfold qO;rw[yz Zd,hK,D,<-I];rfl)
    have KG:=Z V4;have Q:=Pb.o.z 0;have z0:=Pb.o.c0;have z1:=Pb.o.c1;have HSK:=Z (KG.o.own hpB 0 (zM K));have HLK:=Z (Pb.o.VX (u:=zM K));have Wo:xI p w (x1.setCell (zU B 0) (zM K)):=qE.own MD 0 _;obtain⟨Xk,y⟩:=zr (x1.setCell (zU B 0) (zM K));rw[y]at HSK HLK Wo;rw[<-I]at y;have H:=Z y;have O:¬9223372036854775807<1+G.length:=by
     have:=ZT rs (i+1) (qk rs (i+1));have:=M.o.len;rw[hK]at *;omega
    clear V4 Zd hK D y DS qE s;go_wp2_with fail;rw[show(⟨#[61]⟩:ByteArray)++⟨G.toArray⟩=⟨(61::G).toArray⟩from Qv zZ];rw[show Value.string ⟨(61::G).toArray⟩=zM (61::G)from rfl,H.o];exact Wn
  .rw[yz c]at a;rw[show(zt rs i==61)=false by simp[c]];have A:=Z a;have s:=Z (show R=((kO rs i).then λk j=>if k ∉ U2 then (.error (3,i):qm Wd)else .ok (k,j)).then λk j=>(uA rs 123 (yt rs j)).then λ_ l=>Ka rs msg true k i (yt rs j) l by
    rw[<-L.o];unfold bH YV;rw[yz (λe=>c e.2)];simp)
   clear a c g;go_wp2_with fail;refine(Kt p rs i d x0 A.o).mono ?_;rintro e x1 ⟨hq,DS⟩;have qE:=x.trans DS;have Pb:=Z (n.o.but DS J);by_cases Zd:ky rs i=0
   .rw[yV Zd]at hq;have EP:=Z (show R = .error (3,i)by rw[s.o];unfold kO;rw[yV Zd];rfl);exact zxb
   .rw[yz Zd]at hq;obtain⟨rfl,V4⟩:=hq;obtain⟨K,hK⟩:=zr (ui rs i (ky rs i));obtain⟨j,D⟩:=zr (i+ky rs i);rw[D]at V4;rw[hK];have E:=Z (show R=((if K ∉ U2 then .error (3,i)else .ok (K,j)):qm Wd).then λk j=>(uA rs 123 (yt rs j)).then λ_ l=>Ka rs msg true k i (yt rs j) l by
     rw[s.o];unfold kO;rw[yz Zd,hK,D];rfl)
    have KG:=Z V4;have Q:=Pb.o.z 0;have z0:=Pb.o.c0;have z1:=Pb.o.c1;have HSK:=Z (KG.o.own hpB 0 (zM K));have HLK:=Z (Pb.o.VX (u:=zM K));have Wo:xI p w (x1.setCell (zU B 0) (zM K)):=qE.own MD 0 _;obtain⟨Xk,y⟩:=zr (x1.setCell (zU B 0) (zM K));rw[y]at HSK HLK Wo;have H:=Z y;clear V4 Zd hK D y DS qE s;go_wp2_with fail;rw[H.o];refine(MW K Xk (oI.o.but Wo).names).mono ?_;rintro e x2 ⟨rfl,rfl⟩;have u1:=HLK.o.c1;by_cases hc:K∈U2
    .rw[show decide (K∈U2)=true from GU];have HT:=Z (show R=(uA rs 123 (yt rs j)).then λ_ l=>Ka rs msg Wp K i (yt rs j) l by
      rw[E.o,PZ,yz GU];rfl)
     clear hc E;go_wp2_with fail;exact Wn
    .rw[show decide (K∈U2)=false from GU];have EP:=Z (show R = .error (3,i)by rw[E.o,yV hc];rfl);clear hc E;go_wp2_with fail;refine(YT p 3 i Xk HSK.o.Ht).mono ?_;rintro e x3 ⟨hf,hx3⟩;have HF:=Z hf;obtain⟨bf,rfl,_,_⟩:=hf;go_wp2;exact⟨rfl,by rw[EP.o];exact HF.o,Wo.below hx3⟩
variable{l:List UInt8}{k:Nat}
def PO:∀(l:List UInt8) (acc:Nat),l.all yG=true->yf9 acc l=some (l.foldl (λv c=>10*v+(c.toNat - 48)) acc)
 |[],_,_=>rfl
 |c::t,acc,h=>by
  simp only[vh,zx]at h;have hc:=(xr c).1 h.1;rw[yf9,Lib.digitVal,yV J];dsimp only;rw[PO t _ h.2,vB,dY acc 10]
def yx8(h:l.all yG=true)(hn:l≠[]):Lib.atoi l=some (yg l:Int):=by
 cases l with
 |nil=>exact absurd rfl hn
 |cons c t =>
  have hd:=h;simp only[vh,zx]at hd;have hc:=(xr c).1 hd.1;have b:(c==45)=false:=Mf;have a:(c==43)=false:=Mf;rw[Lib.atoi,b,a];simp only[Vx,if_false,Lib.decNat];rw[yz zZ,PO _ 0 h];rfl
def lz(x:Wd)(w:z8)(hs:x.length<=9)(hd:x.all yG=true)(hn:x≠[]) :
  zC prog 143 #[zM x] w λe w'=>e = .returned (.tuple #[.int .i64 (yg x),.nilIface])/\zP w w':=by
 refine(Tryz.strconv_Atoi ⟨x.toArray⟩ (yg x) (by simp[ByteArray.size];omega) (yx8 hd hn) w).mono ?_;rintro e w' ⟨rfl,t,rfl⟩;exact⟨rfl,Lib.bytesWorld_below _ _ _⟩
def p8(r:Int)(h:vF r=true):∃c,enc r=[c]/\yG c=true:=by
 simp only[vF,zx,vJ]at h;have:r=48\/r=49\/r=50\/r=51\/r=52\/r=53\/r=54\/r=55\/r=56\/r=57:=J;rcases this with rfl|rfl|rfl|rfl|rfl|rfl|rfl|rfl|rfl|rfl<;>exact⟨_,rfl,zR⟩
def BB(F:Int->Nat->Bool)(rs:List Int)(i:Nat):∀f n R,U1 F rs i f n=R->∀k,n<=k->k<R->F (zt rs (i+k)) k=true
 | 0,n,R,h,k,h1,h2=>by
  rw[U1]at h;omega
 |f+1,n,R,h,k,h1,h2=>by
  rw[U1]at h;by_cases q:F (zt rs (i+n)) n=true
  .rw[yV q]at h;by_cases a:k=n
   .rw[a];exact q
   .exact BB F rs i f (n+1) R h k J h2
  .rw[yz q]at h;omega
def Ut{F:Int->Nat->Bool}(h:k<runN F rs i):F (zt rs (i+k)) k=true:=BB F rs i _ _ _ rfl k (zQ _) h
def MK(h:j<rs.length):zt rs j=rs[j]:=by
 unfold zt;simp[h]
def Kw:∀(l:List Int),(∀r∈l,vF r=true)->(l.flatMap enc).length=l.length/\(l.flatMap enc).all yG=true
 |[],_=>⟨rfl,rfl⟩
 |r::t,h=>by
  obtain⟨c,hc,hd⟩:=p8 r (h r zZ);obtain⟨h1,h2⟩:=Kw t (λq a=>h q (by simp[a]));refine⟨by simp[zh,hc,h1],?_⟩;rw[zh,hc];simp[hd];simpa using h2
def FV(rs:List Int)(i:Nat)(hn:qk rs i≠0):(ui rs i (qk rs i)).length<=9/\(ui rs i (qk rs i)).all yG=true/\ui rs i (qk rs i)≠[]:=by
 obtain⟨n,c⟩:=zr (qk rs i);have hf:∀k,k<n->k<9/\vF (zt rs (i+k))=true:=λk hk=>by
  have:=Ut (F:=gx (zt rs i)) (rs:=rs) (i:=i) (k:=k) (by rw[show runN (gx (zt rs i)) rs i=qk rs i from rfl,c];exact hk);simp only[gx,zx,vJ]at this;exact this.1
 rw[c]at hn|-;have f:n<=9:=by
  have:=(hf (n - 1) J).1;omega
 have hd:vF (-1)=false:=zR;have Ab:∀k,k<n->i+k<rs.length:=λk hk=>by
  refine Nat.lt_of_not_le (λb=>?_);have:=(hf k hk).2;rw[kM b,hd]at this;cases this
 have a:∀r∈(rs.drop i).take n,vF r=true:=λr hr=>zgj
 have d:((rs.drop i).take n).length=n:=by
  have:=Ab (n - 1) J;simp;omega
 obtain⟨h1,h2⟩:=Kw _ a;unfold ui;refine⟨J,h2,λe=>?_⟩;rw[e]at h1;simp only[yF]at h1;omega
variable{acc:Fo}
def vjg(base:Nat)(v:Value)(w W:z8):Prop:=(w:Nat)<=(W:Nat)/\∀k,base<=k->k<(w:Nat)->some k≠v.ownBlock->W.heap[k]? = w.heap[k]?
def kP(base:Nat)(e:xm)(size:Nat)(v:Value)(acc:Fo)(ws:List Value)(w:z8):Prop :=
 w.ownsRow base e size v acc.len ws/\∀W,vjg base v w W->yd base W.heap.size W ws acc
def kP.start(base:Nat)(e:xm)(size:Nat)(w:z8):kP base e size (.slice none 0 0) .nil [] w :=
 ⟨⟨by simp[Fo.len],.inl ⟨rfl,rfl⟩⟩,λ_ _=>rfl⟩
def kP.but{base:Nat}{ws:List Value}(h:kP base e size v acc ws w)(hb:xI p w w')(hp:p<base):kP base e size v acc ws w':=by
 obtain⟨⟨h1,h2⟩,d⟩:=h;refine⟨⟨h1,?_⟩,λW c=>d W ⟨zj hb.size c.1,λk k1 k2 k3=>(c.2 k k1 (zD k2 hb.size) k3).trans (hb.block k k2 J)⟩⟩;rcases h2 with hn|⟨g,cap,a,hv,f,hc,rest⟩
 .exact .inl hn
 .refine .inr ⟨g,cap,a,hv,f,?_,rest⟩;have b:g<(w:Nat):=(yO.1 hc).1;rw[hb.block g b J];exact hc
def kP.nodes{base:Nat}{ws:List Value}(h:kP base e size v acc ws w):yd base (w:Nat) w ws acc :=
 h.2 w ⟨Y _,λ_ _ _ _=>rfl⟩
def kP.row{base:Nat}{ws:List Value}(h:kP base e size v acc ws w):∃a c,v = .slice a acc.len c/\U4 base (w:Nat) w a ws:=by
 obtain⟨⟨h1,h2⟩,_⟩:=h;rcases h2 with⟨hv,hn⟩|⟨g,cap,b,hv,m,hc,k,p,q,l⟩
 .refine⟨none,0,by rw[hv,hn],λj d=>?_⟩;rw[hn]at h1;omega
 .refine⟨some ⟨g,0,none⟩,cap,hv,λj d=>⟨g,0,rfl,m,(yO.1 hc).1,?_⟩⟩;have o:acc.len*size<=cap*size:=qp _ k;have n:j<b.size:=by omega
  rw[uE];have f:ws[j]? = b[j]? := by
   rw[<-l,OY,yV J,jA]
  have i:ws[j]? = some ws[j]:=zk d;show w.cell? (zU g j)=some ws[j];rw[<-i,f];unfold Fu;rw[hc];rfl
variable{ops:Array jk}{Q:Exit->Act->z8->Prop}{f:Fo}{m:Nat}{P:VI}{v':Value}
def J0(w:z8)(base:Nat)(t ty e:xm)(i:TypeInfo)(z:Value)(B:P.underlying t=some (.slice e))(hi:P.info? e=some i)(G:i.zero=some z)
  (A:z.cells.size=i.size) (y:0<i.size)
  (v:Value) (n:Nat) (xs:List Value) (d:w.ownsRow base e i.size v n xs)
  (a:yM) (m c:Nat) (b:List Value) (x:b.length=m*i.size) (h:∀j u,b[j]? = some u->w.cell? (a.add j)=some u) (h1:∀u∈b,u.oneCell'=true)
  (p:n+m<=maxLen) (f:(n+m)*i.bytes<=140737488355328) (q:base<=(w:Nat)) :
  ∃v' w',(Vv #[t,t] ty #[v,.slice (some a) m c]).run P w = .ok v' w'/\w'.ownsRow base e i.size v' (n+m) (xs++b)/\w.grownBy w' v.ownBlock /\
   (v'.ownBlock=v.ownBlock\/∀k,v'.ownBlock=some k->(w:Nat)<=k):=by
 obtain⟨v',w',hr,h2,H,N⟩:=run_append_own (P:=P) w base t ty e i z i.size i.bytes B hi G rfl rfl A y v n xs d a m c b x h h1 p f q;refine⟨v',w',hr,h2,H,?_⟩;have E:=d;rcases d.2 with⟨rfl,rfl⟩|⟨g,cap,r,rfl,I,L,M,K,C,F⟩
 .have hx:xs=[]:=zN (by simpa using d.1);subst hx;obtain⟨v2,w2,l,k2,_,_⟩:=run_append_own (P:=P) w (w:Nat) t ty e i z i.size i.bytes B hi G rfl rfl A y (.slice none 0 0) 0 [] (xx w (w:Nat) e i.size) a m c b x h h1 p f (Y _);rw[hr]at l;cases l;exact .inr λk D=>(k2.lt k D).1
 .by_cases o:n+m<=cap
  .have s:n*i.size+b.length<=r.size:=(by rw[x,C,<-ki];exact qp _ o);have l:=run_append_room (P:=P) w t ty e i B hi g n cap r L a m c b x h h1 o s;rw[hr]at l;cases l;exact .inl rfl
  .have holds:∀j u,xs[j]? = some u->w.cell? ((⟨g,0,none⟩:yM).add j)=some u:=d.cells (g:=g) rfl;have l:=run_append_grow (P:=P) w t ty e i z B hi G ⟨g,0,none⟩ n cap xs d.1 holds a m c b x h J (by simp only[maxLen]at p;omega) (growslice_fits (by simp only[maxLen]at p;omega) f);rw[hr]at l;cases l;refine .inr λk D=>?_
   simp[yl]at D;omega
def kP.grow{base:Nat}{ws a:List Value}(h:kP base e size v acc ws w)
  (hn:yd lo (w:Nat) w a f) (d:base<=lo) (hv:∀k,v.ownBlock=some k->k<lo) (hm:f.len=m)
  (h2:w'.ownsRow base e size v' (acc.len+m) (ws++a)) (c:w.grownBy w' v.ownBlock) (j:v'.ownBlock=v.ownBlock\/∀k,v'.ownBlock=some k->(w:Nat)<=k) :
  kP base e size v' (acc.app f) (ws++a) w':=by
 refine⟨by rw[Fo.jD,hm];exact h2,λW i=>?_⟩;have key:∀k,base<=k->k<(w:Nat)->some k≠v.ownBlock->W.heap[k]? = w.heap[k]? := λk k1 k2 k3=>by
  have g:some k≠v'.ownBlock:=by
   rcases j with q|q
   .rw[q];exact k3
   .intro e;have:=q k e.symm;omega
  exact(i.2 k k1 (zD k2 c.size) g).trans (c.block k k2 k3)
 have b:(w:Nat)<=(W:Nat):=zj c.size i.1;exact yd.app (yd.keep (lo:=lo) (hi:=(w:Nat)) ⟨b,λk k1 k2=>key k J k2 (λe=>by have:=hv k e.symm;omega)⟩ d b f a hn) acc ws (h.2 W ⟨b,key⟩)
def Yo{t:xm}{z:Value}{bytes:Nat}(E:Y7 P t e z size bytes){rest:List jk}{o:jk}{a:Act}
  (n:o.guard=none) (s x:Operand) (C:o.op = .call { callee := .builtin .append,args:=#[s,x],argTypes:=#[t,t] })
  (base lo:Nat) (v:Value) (acc f:Fo) (ws:List Value) (hs:a.eval s=v) (y:kP base e size v acc ws w)
  (ad:yM) (m c:Nat) (b:List Value) (hx:a.eval x = .slice (some ad) m c) (B:b.length=m*size) (g:∀j u,b[j]? = some u->w.cell? (ad.add j)=some u) (h1:∀u∈b,u.oneCell'=true)
  (hn:yd lo (w:Nat) w b f) (p:base<=lo) (hv:∀k,v.ownBlock=some k->k<lo) (hm:f.len=m)
  (l:acc.len+m<=2147483648) (d:base<=(w:Nat))
  (h:∀v' w',kP base e size v' (acc.app f) (ws++b) w'->w.grownBy w' v.ownBlock->Ek P ops Q rest (a.put o.dst v') w'):Ek P ops Q (o::rest) a w:=by
 obtain⟨i,hi,D,rfl,rfl⟩:=E.info;have q:=E.small;obtain⟨v',w',hr,h2,r,A⟩:=J0 (P:=P) w base t o.type e i z E.under hi D E.Qg E.pos v acc.len ws y.1 ad m c b B g h1 dO (zj (Z2 l q) zR) d;refine wpList_plain n λK hK=>?_
 unfold kd execOp;simp only[C,resolve,invoke,builtin,js,wj,Xg,JA,vE,zpd,hs,hx,hr];exact hK _ _ (h v' w' (y.grow hn p hv hm h2 r A) r)
def PG:Y7 prog 216 221 (.agg #[.string ⟨#[]⟩,.int .i64 0,.slice none 0 0]) 3 48 :=
 ⟨underlying216,info_parts yq,rfl,zR,zR⟩
def ZY:Y7 prog 68 193 .nilIface 1 16 :=
 ⟨underlying68,info_parts yq,rfl,zR,zR⟩
def yyg{t:xm}{z:Value}{bytes:Nat}(E:Y7 P t e z size bytes){o:jk}{a:Act}{K:Act->z8->Prop}
  (s x:Operand) (B:o.op = .call { callee := .builtin .append,args:=#[s,x],argTypes:=#[t,t] })
  (base lo:Nat) (v:Value) (acc f:Fo) (ws:List Value) (hs:a.eval s=v) (r:kP base e size v acc ws w)
  (ad:yM) (m c:Nat) (b:List Value) (hx:a.eval x = .slice (some ad) m c) (A:b.length=m*size) (g:∀j u,b[j]? = some u->w.cell? (ad.add j)=some u) (h1:∀u∈b,u.oneCell'=true)
  (hn:yd lo (w:Nat) w b f) (n:base<=lo) (hv:∀k,v.ownBlock=some k->k<lo) (hm:f.len=m)
  (l:acc.len+m<=2147483648) (d:base<=(w:Nat))
  (h:∀v' w',kP base e size v' (acc.app f) (ws++b) w'->w.grownBy w' v.ownBlock->K (a.put o.dst v') w'):kd P o a w K Q:=by
 obtain⟨i,hi,C,rfl,rfl⟩:=E.info;have p:=E.small;obtain⟨v',w',hr,h2,q,y⟩:=J0 (P:=P) w base t o.type e i z E.under hi C E.Qg E.pos v acc.len ws r.1 ad m c b A g h1 dO (zj (Z2 l p) zR) d;unfold kd execOp;simp only[B,resolve,invoke,builtin,js,wj,Xg,JA,vE,zpd,hs,hx,hr];exact h v' w' (r.grow hn n hv hm h2 q y) q
def kP.lt{base:Nat}{ws:List Value}(h:kP base e size v acc ws w):∀k,v.ownBlock=some k->base<=k/\k<(w:Nat):=h.1.lt
def Fo.gi:∀f g:Fo,f.xW=true->g.xW=true->(f.app g).xW=true
 |.nil,g,_,h=>h
 |.xR k a m r,g,h,h2=>Fo.gi r g h h2
 |.text t r,g,h,_=>xc
 |.hash r,g,h,_=>xc
 |.put n a r,g,h,_=>xc
 |.num n a r,g,h,_=>xc
 |.br n a f o c b r,g,h,_=>xc
def Fo.kI:∀f g:Fo,f.yT=true->g.yT=true->(f.app g).yT=true
 |.nil,g,_,h=>h
 |.xR k a m r,g,h,h2=>xc
 |.text t r,g,h,h2=>Fo.kI r g h h2
 |.hash r,g,h,h2=>Fo.kI r g h h2
 |.put n a r,g,h,h2=>Fo.kI r g h h2
 |.num n a r,g,h,h2=>Fo.kI r g h h2
 |.br n a f o c b r,g,h,h2=>Fo.kI r g h h2
variable{msg:Option jH}{x:Wd}
def ya(rs:List Int)(i:Nat):i<=yt rs i:=bA _ _
def BC(m:jH):Prop:=∀num i f j,m num i = .ok (f,j)->i<=j
def zG{x:qm α}{k:α->Nat->qm β}{b:β}(h:x.then k = .ok (b,j)):∃a q,x = .ok (a,q)/\k a q = .ok (b,j):=by
 cases x with
 |error e=>cases h
 |ok a=>exact⟨a.1,a.2,rfl,h⟩
def yR{r:Int}{u:Unit}(h:uA rs r i = .ok (u,j)):zt rs i=r/\j=i+1:=by
 unfold uA at h;split at h
 .cases h;exact⟨by assumption,rfl⟩
 .cases h
def jl(h:kO rs i = .ok (x,j)):i<j:=by
 unfold kO at h;split at h
 .cases h
 .cases h;omega
def XH(h:qO rs i = .ok (x,j)):i<j:=by
 unfold qO at h;split at h
 .cases h
 .cases h;omega
def zb2{num:Bool}(h:YV rs num i = .ok (x,j)):i<j:=by
 unfold YV at h;split at h
 .obtain⟨a,q,h1,h2⟩:=zG h;cases h2;have:=XH h1;omega
 .obtain⟨a,q,h1,h2⟩:=zG h;split at h2
  .cases h2
  .cases h2;exact jl h1
def iO{num:Bool}(hm:∀m,msg=some m->BC m)(h:bH rs msg num i = .ok (f,j)):i<j:=by
 unfold bH at h;obtain⟨k,a,h1,h2⟩:=zG h;obtain⟨u,b,e,d⟩:=zG h2;have q:=zb2 h1;have r:=(yR e).2;have s:=ya rs a;cases msg with
 |none=>cases d
 |some m =>
  obtain⟨g,c,l,n⟩:=zG (show(m num b).then _=_ from d);obtain⟨u2,z,o,p⟩:=zG n;have t:=hm m rfl _ _ _ _ l;have v:=(yR o).2;have w:=ya rs z;cases p;omega
def PR{num:Bool}(hm:∀m,msg=some m->BC m):∀(n:Nat) (acc:Fo) (i j:Nat) (f:Fo),q9 rs msg num n acc i = .ok (f,j)->i<=j
 | 0,acc,i,j,f,h=>xc
 |n+1,acc,i,j,f,h=>by
  rw[q9]at h;split at h
  .cases h;exact Yc
  .obtain⟨g,q,h1,h2⟩:=zG h;have:=iO hm h1;have:=PR hm n _ _ _ _ h2;omega
def Me{form:Nat}{o:Wd}(h:U5 rs form i = .ok (o,j)):i<=j:=by
 unfold U5 at h;split at h
 .obtain⟨a,q,h1,h2⟩:=zG h;cases h2;have:=XH h1;have:=ya rs (i+7);have:=ya rs q;omega
 .cases h;exact Yc
def ly(hm:∀m,msg=some m->BC m)(h:gC rs msg i = .ok (f,j)):i<j:=by
 unfold gC at h;obtain⟨u,a,h1,h2⟩:=zG h;obtain⟨nm,b,x,g⟩:=zG h2;have A:=(yR h1).2;have B:=ya rs a;have C:=jl x;have D:=ya rs b;clear h h1 h2 x;split at g
 .obtain⟨u,z,k,e⟩:=zG g;have:=(yR k).2;cases e;omega
 .obtain⟨H,c,k,e⟩:=zG g;have E:=jl k;have F:=ya rs (yt rs b+1);have G:=ya rs c;clear g k;split at e
  .obtain⟨u,z,v,w⟩:=zG e;have:=(yR v).2;cases w;omega
  .split at e
   .cases e
   .obtain⟨u,d,v,w⟩:=zG e;obtain⟨o,l,y,n⟩:=zG w;obtain⟨bs,q,p,r⟩:=zG n;obtain⟨u,z,s,t⟩:=zG r;have:=(yR v).2;have:=ya rs d;have:=Me y;have:=PR hm _ _ _ _ _ p;have:=(yR s).2;cases t;omega
def Jz(rs:List Int)(num:Bool)(i:Nat):i<(qv rs num i).2:=by
 unfold qv;split
 .exact dQ _
 split
 .exact Nat.lt_add_of_pos_right zR
 split
 .exact dQ _
 .show i<i+1+_;omega
def U6{num:Bool}(hm:∀m,msg=some m->BC m):∀(n:Nat) (acc:Fo) (i j:Nat) (f:Fo),vV rs msg num n acc i = .ok (f,j)->i<=j
 | 0,acc,i,j,f,h=>xc
 |n+1,acc,i,j,f,h=>by
  rw[vV]at h;split at h
  .cases h;exact Yc
  split at h
  .obtain⟨g,q,h1,h2⟩:=zG h;have:=ly hm h1;have:=U6 hm n _ _ _ _ h2;omega
  split at h
  .have:=U6 hm n _ _ _ _ h;omega
  .have:=U6 hm n _ _ _ _ h;have:=Jz rs num i;omega
def Mi(rs:List Int):∀n,BC (gH rs n)
 | 0,num,i,f,j,h=>by
  rw[gH]at h;exact U6 (λm e=>gJ) _ _ _ _ _ h
 |n+1,num,i,f,j,h=>by
  rw[gH]at h;exact U6 (λm e=>by cases e;exact Mi rs n) _ _ _ _ _ h
variable{v3 v4 v5:Value}
def Jy{r:Int}{F:Unit->Nat->qm β}(h:zt rs i=r):(uA rs r i).then F=F () (i+1):=by unfold uA;rw[yV h];rfl
def DY{r:Int}{F:Unit->Nat->qm β}(h:¬zt rs i=r):(uA rs r i).then F = .error (3,i):=by unfold uA;rw[yz h];rfl
def zb3{F:Wd->Nat->qm β}(h:¬qk rs i=0):(qO rs i).then F=F (ui rs i (qk rs i)) (i+qk rs i):=by unfold qO;rw[yz h];rfl
def zb4{F:Wd->Nat->qm β}(h:qk rs i=0):(qO rs i).then F = .error (3,i):=by unfold qO;rw[yV h];rfl
def lx{F:Wd->Nat->qm β}(h:¬ky rs i=0):(kO rs i).then F=F (ui rs i (ky rs i)) (i+ky rs i):=by unfold kO;rw[yz h];rfl
def lu{F:Wd->Nat->qm β}(h:ky rs i=0):(kO rs i).then F = .error (3,i):=by unfold kO;rw[yV h];rfl
def PS{f:Nat}(h:¬(f≠0/\Fw rs i=true)):U5 rs f i = .ok ([48],i):=by unfold U5;rw[yz h]
def zb5{f:Nat}(h:f≠0/\Fw rs i=true):U5 rs f i=(qO rs (yt rs (i+7))).then λo j => .ok (o,yt rs j):=by unfold U5;rw[yV h]
def then_assoc{γ:Type}(x:qm α)(f:α->Nat->qm β)(g:β->Nat->qm γ):(x.then f).then g=x.then λa i=>(f a i).then g:=by
 cases x with
 |error e=>rfl
 |ok a=>rfl
def xb2(p:Nat)(rs:List Int)(d:Nat)(r:qm Fo)(w:z8)(e:xU)(w':z8):Prop :=
 (match r with
  |.error (n,a)=>GD p n a e w'
  |.ok (f,j)=>(∃v,e = .returned v/\yd (w:Nat) (w':Nat) w' [v] f)/\f.len=1/\f.yT=true/\xe p rs j d w')/\xI p w w'
def BE{m:Wd}(h:U3 m=some n):n<3:=by
 unfold U3 at h;split at h
 .cases h;decide
 split at h
 .cases h;decide
 split at h
 .cases h;decide
 .cases h
structure Eh(B:Nat)(v0 v1 v2 v3 v4 v5:Value)(w:z8):Prop where
 c0:zu w B 0 v0
 c1:zu w B 1 v1
 c2:zu w B 2 v2
 c3:zu w B 3 v3
 c4:zu w B 4 v4
 c5:zu w B 5 v5
 z:∀j,w.frozen? ⟨B,j,none⟩=false
def Eh.but(h:Eh B v0 v1 v2 v3 v4 v5 w)(hb:xI p w w')(b:B≠p):Eh B v0 v1 v2 v3 v4 v5 w' :=
 ⟨hb.cell h.c0 b,hb.cell h.c1 b,hb.cell h.c2 b,hb.cell h.c3 b,hb.cell h.c4 b,hb.cell h.c5 b,λj=>(zV (a:=⟨B,j,none⟩) (hb.block B (X w _ h.c0) b)).trans (h.z j)⟩
def Eh.vjf(h:Eh B v0 v1 v2 v3 v4 v5 w):Eh B v0 v1 v2 u v4 v5 (w.setCell (B,3) u):=by
 refine⟨?_,?_,?_,?_,?_,?_,λj=>Mj⟩<;>rw[zo];all_goals first|(rw[yz zZ];first|exact h.c0|exact h.c1|exact h.c2|exact h.c4|exact h.c5)|(rw[yV rfl,h.c3];rfl)
def Eh.vj3(h:Eh B v0 v1 v2 v3 v4 v5 w):Eh B v0 v1 v2 v3 u v5 (w.setCell (B,4) u):=by
 refine⟨?_,?_,?_,?_,?_,?_,λj=>Mj⟩<;>rw[zo];all_goals first|(rw[yz zZ];first|exact h.c0|exact h.c1|exact h.c2|exact h.c3|exact h.c5)|(rw[yV rfl,h.c4];rfl)
def Eh.vjd(h:Eh B v0 v1 v2 v3 v4 v5 w):Eh B v0 v1 v2 v3 v4 u (w.setCell (B,5) u):=by
 refine⟨?_,?_,?_,?_,?_,?_,λj=>Mj⟩<;>rw[zo];all_goals first|(rw[yz zZ];first|exact h.c0|exact h.c1|exact h.c2|exact h.c3|exact h.c4)|(rw[yV rfl,h.c5];rfl)
def Eh.lt(h:Eh B v0 v1 v2 v3 v4 v5 w):B<(w:Nat):=X w _ h.c0
def Eh.grown{row:Option Nat}(h:Eh B v0 v1 v2 v3 v4 v5 w)(c:w.grownBy w' row)(b:some B≠row):Eh B v0 v1 v2 v3 v4 v5 w' :=
 ⟨c.cell h.c0 b,c.cell h.c1 b,c.cell h.c2 b,c.cell h.c3 b,c.cell h.c4 b,c.cell h.c5 b,λj=>(zV (a:=⟨B,j,none⟩) (c.block B h.lt b)).trans (h.z j)⟩
structure BH(B:Nat)(v0 v1:Value)(w:z8):Prop where
 c0:zu w B 0 v0
 c1:zu w B 1 v1
 z:∀j,w.frozen? ⟨B,j,none⟩=false
def BH.but(h:BH B v0 v1 w)(hb:xI p w w')(b:B≠p):BH B v0 v1 w' :=
 ⟨hb.cell h.c0 b,hb.cell h.c1 b,λj=>(zV (a:=⟨B,j,none⟩) (hb.block B (X w _ h.c0) b)).trans (h.z j)⟩
def BH.VX(h:BH B v0 v1 w):BH B u v1 (w.setCell (B,0) u) :=
 ⟨AE,MJ,λj=>Mj⟩
end Go.Proofs.YtpggmjffejgakaaGreatDoor
