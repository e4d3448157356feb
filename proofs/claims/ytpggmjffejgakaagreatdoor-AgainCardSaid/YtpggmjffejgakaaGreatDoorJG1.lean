import Derived.Test.YtpggmjffejgakaaGreatDoorJG0
import Derived.Deep.DeepAppendRoom
import Derived.Deep.DeepWitnessRowRef
import Derived.Deep.RegionHeld3
import Derived.LaidHandle
import Derived.Laws.EntriesVeiled
import Derived.Lib.AppendZerosOnto
import Derived.Lib.BytesEntry
import Derived.Lib.SlBytesRow
import Derived.Lib.SmallJoins
import Derived.PinnedBridge
import Derived.StillTailTactics
import Derived.Stop.Asserts
import Derived.WalkLawsBesides
import Derived.WalkSpells
import Derived.BigQuiet
import Derived.Deep.QuietTactic
import Derived.Lib.Hide
import Derived.Test.YtpggmjffejgakaaGreatDoorProg
import Derived.WalkKit
import Derived.Maps.AppendAt
import Derived.OneCell
import Derived.IntWalk
import Derived.Deep.LoopGhost
import Derived.Laws.Cover4
import Derived.WalkMore
import Derived.OwnWalk
import Derived.Maps.OwnSet
import Derived.Maps.Views
import Derived.Deep.DeepCutAuto
import Derived.Laws.OwnMore
import Derived.Defers
set_option linter.defProp false
set_option maxHeartbeats 64000000
open Go renaming Addr->yI,Calls->zE,DataW->ib,Ending->xX,Oper->je,Program->Gz,TypeId->xM,Value->zx,World->z8,bodyPost_ret->yU,bytes->Z4,getD_set_ne->Oe,info_parts->V9,leaves_cons->kI,maxLen->vp,plainElem_int->bG,ready_mono->xvf,results->yN,run_convert_runes->xj8,undef->ig,wpAnyH->Uh,yielded->Vc
open Go.Addr renaming add->fG,block->qb
open Go.AllReadyH renaming cons->ub,nil->XV
open Array renaming getElem?_eq_none->jA,getElem?_eq_some_iff->yR,getElem?_modify->xc,getElem?_toList->ji,replicate->vQ,setIfInBounds_comm->OK
open Go.RowKit renaming Below->yE
open Go.RowKit.Below renaming heap_setCell->yX,refl->zu
open Bool renaming and_eq_true->zv,eq_iff_iff->xA,false_eq_true->OG,false_ne_true->zzk,not_eq_true->bE,not_eq_true'->vA,or_assoc->Oi,or_eq_true->vW
open Go.Builtin renaming append_->Z5
open ByteArray renaming data_append->LC,empty->Y7,ext->QU,mk->vD
open Classical renaming byContradiction->yy
open Go.Code renaming region->Vb
open Go.Conv renaming runesFrom->Vf
open Go.DataW.lit renaming injEq->EW
open Go.DataW renaming map->yfz
open Go.Instr renaming lookup->Jr,makeFunc->qA,typeAssert->za
open Go.IntKind renaming bits->OQ,i64->vG,signed->EU,wrap->yf9
open Go.Lib renaming decFrom->yfy,hid->Z
open List renaming all_append->uJ,all_cons->u7,all_eq_true->zm,append_nil->qt,drop_eq_getElem_cons->yd,drop_of_length_le->yL,eq_nil_of_length_eq_zero->zN,flatMap_cons->zh,foldl_cons->vP,getD_eq_getElem?_getD->zA,getElem?_drop->Uw,getElem?_eq_getElem->zj,getElem?_eq_none->uG,getElem?_take->OJ,getElem_mem->yf,length->xJ,length_append->zy,length_cons->zY,length_drop->yr,length_nil->yG,length_take->u4,map_cons->vV,map_nil->De,map_toArray->Jp,mem_append->zS,mem_iff_getElem->ja,mem_map->uy,mem_range->Y2,mem_singleton->zG,nil_append->xV,range->xH,setIfInBounds_toArray->Qm,takeWhile_cons_of_neg->kC,takeWhile_cons_of_pos->xO,take_length->YP,take_of_length_le->ye,take_succ_eq_append_getElem->yj
open Go.Lit.int renaming injEq->yzq
open Go.Maps renaming atKey_put_other->dc,atKey_put_same->Uo,has_put_other->OU,has_put_same->Qi,string_keyed->xf
open Nat renaming add_assoc->uR,add_mul->kh,le_add_right->kY,le_refl->Y,le_trans->zg,lt_of_lt_of_le->zC,lt_or_ge->ud,lt_succ_self->dK,mul_comm->dU,mul_le_mul->Ut,mul_le_mul_right->uM,zero_add->uE,zero_le->zJ
open Go.Oper renaming wp->j6
open Option renaming getD_some->Vd,map_some->Y8
open Prod.mk renaming injEq->Ht
open Go.Region renaming Mode->kD,binds->VZ,free->xvg,noSelect->vK,ready->vB,wanted->qH
open Go.Result renaming andThen->yt,andThen_ok->XU
open Go.Sem renaming run_bind->kp,run_pure->wQ
open UInt8 renaming le_iff_toNat_le->Ti,ofNat->uZ,toNat_inj->Xf
open Go.Utf8 renaming encode->Y3,runeError->TV,valid->DY
open Go.Value renaming bool->gL,int->yZ,ownBlock->yA,slice->ux
open Go.WideAt renaming IsKeyLit->kF
open Go.WideMaps renaming keyOf_string_mk->yT
open Go.World renaming block_lt_of_cell?->X,cell?->FK,cell?_alloc_lt->zc,cell?_of_block->yD,cell?_setCell_other->yO,cell?_setCell_same->qY,frozen?_of_block->zU,frozen?_setCell->zP,ownsMap_made->Hh,ownsRow_nil->xz,setCell->xu
open Go.Proofs.Tryz
namespace Go.Proofs.YtpggmjffejgakaaGreatDoor
open Go Go.RowKit
set_option maxRecDepth 10000
def yC(c:UInt8):Bool:=48<=c && c<=57
def LN{a b:zx}(h:a=b):Ending.returned a = .returned b:=by rw[h]
def getElem_toList(s:ByteArray)(k:Nat)(h:k<s.size):s.data.toList[k]'(by simpa using h)=s[k]:=by
 simp[ByteArray.getElem_eq_getElem_data]
def vL(s:ByteArray):s.data.toList.length=s.size:=by simp
def Dm(s:ByteArray):s.data.toList.take s.size=s.data.toList:=ye (by simp)
def I4(s:ByteArray)(k:Nat)(h:k<s.size):s.data.toList.take (k+1)=s.data.toList.take k++[s[k]]:=by
 rw[yj (by simpa using h),getElem_toList s k h]
def vy(c:UInt8):yC c=true ↔ (48:Int)<=(c.toNat:Int)/\(c.toNat:Int)<=57:=by
 simp[yC,Ti];omega
def On(c:UInt8):yC c=false ↔ ((c.toNat:Int)<48\/(57:Int)<(c.toNat:Int)):=by
 rw[<-bE,vy];omega
def zy2{p:UInt8->Bool}{l:List UInt8}{c:UInt8}(h:l.all p=true)(hc:p c=true):(l++[c]).all p=true:=by
 simp[uJ,h,hc]
def LO{p:UInt8->Bool}(s:ByteArray)(k:Nat)(hk:k<s.size)(hc:p s[k]=false):s.data.toList.all p=false:=by
 rw[List.all_eq_false];exact⟨s[k],by rw[<-getElem_toList s k hk];exact yf _,by simp[hc]⟩
def extract_eq(s:ByteArray)(a b:Nat):s.extract a b=⟨((s.data.toList.drop a).take (b - a)).toArray⟩:=by
 apply QU;apply Array.ext';simp[ByteArray.data_extract]
def fM(s:ByteArray)(b:Nat):s.extract 0 b=⟨(s.data.toList.take b).toArray⟩:=by
 rw[extract_eq];simp
def fN(s:ByteArray)(a:Nat):s.extract a s.size=⟨(s.data.toList.drop a).toArray⟩:=by
 rw[extract_eq,ye (by simp)]
def YA(a b:UInt8):((a.toNat:Int)==(b.toNat:Int))=decide (a=b):=by
 rw[xA,beq_iff_eq,decide_eq_true_eq];constructor
 .intro h;exact Xf.1 (by omega)
 .intro h;rw[h]
def kM(d:Nat):UInt8:=uZ (48+d)
def xU(n:Nat):List UInt8:=if n<10 then [kM n]else xU (n / 10)++[kM (n % 10)]
 termination_by n
 decreasing_by omega
def qk{n:Nat}(h:n<10):xU n=[kM n]:=by rw[xU,if_pos h]
def fO{n:Nat}(h:¬n<10):xU n=xU (n / 10)++[kM (n % 10)]:=by rw[xU,if_neg h]
def Oo(n:Nat):(xU n).length<=n+1:=by
 induction n using Nat.strongRecOn with
 |_ n ih =>
  by_cases h:n<10
  .rw[qk h];simp
  .rw[fO h];have:=ih (n / 10) (by omega);simp;omega
def size_mk(l:List UInt8):(ByteArray.mk l.toArray).size=l.length:=by simp[ByteArray.size]
def oF(s:ByteArray):ByteArray.mk s.data.toList.toArray=s:=by simp
def toList_mk(l:List UInt8):(ByteArray.mk l.toArray).data.toList=l:=by simp
def Gv(a b:List UInt8):vD a.toArray++vD b.toArray=vD (a++b).toArray:=by
 apply QU;simp[LC]
def append_eq(s t:ByteArray):s++t=vD (s.data.toList++t.data.toList).toArray:=by
 apply QU;simp[LC]
structure Yz(P:Gz)(t e:xM)(z:zx)(size Z4:Nat):Prop where
 under:P.underlying t=some (.slice e)
 info:∃i,P.info? e=some i/\i.zero=some z/\i.size=size/\i.bytes=Z4
 QF:z.cells.size=size
 pos:0<size
 small:Z4<=4096
def jx{P:Gz}{t e:xM}{z:zx}{size Z4:Nat}(E:Yz P t e z size Z4){w:z8}{ops:Array je}{rest:List je}{o:je}{a:Act}{Q:Exit->Act->z8->Prop}
  (hgd:o.guard=none) (s x:Operand) (ho:o.op = .call { callee := .builtin .append,args:=#[s,x],argTypes:=#[t,t] })
  (base:Nat) (v:zx) (n:Nat) (xs:List zx) (hs:a.eval s=v) (uW:w.ownsRow base e size v n xs)
  (ad:yI) (m c:Nat) (news:List zx) (hx:a.eval x = .slice (some ad) m c) (hl:news.length=m*size) (Ot:∀j u,news[j]? = some u->w.cell? (ad.add j)=some u) (h1:∀u∈news,u.oneCell'=true)
  (h31:n+m<=2147483648) (Oh:base<=w.heap.size)
  (h:∀v' w',w'.ownsRow base e size v' (n+m) (xs++news)->w.grownBy w' v.ownBlock->wpList P ops Q rest (a.put o.dst v') w'):wpList P ops Q (o::rest) a w:=by
 obtain⟨i,hi,hz,h2,h3⟩:=E.info;have Ow:=E.small;refine wpList_append_own w hgd s x t ho base e i z size Z4 E.under hi hz h2 h3 E.QF E.pos v n xs hs uW ad m c news hx hl Ot h1 (by unfold vp;omega) ?_ Oh (λv' w' a b _=>h v' w' a b);exact zg (Ut h31 Ow) (by decide)
def cells_one{w:z8}{b:Nat}{u:zx}(h:w.cell? ⟨b,0,none⟩=some u):∀j x,[u][j]? = some x->w.cell? ((⟨b,0,none⟩:yI).add j)=some x:=by
 intro j x hx;match j,hx with
 | 0,hx=>simp at hx;subst hx;exact h
def fX:Yz prog 22 9 (.string ⟨#[]⟩) 1 16 :=
 ⟨underlying22,V9 (by kernel_rfl),rfl,by decide,by decide⟩
abbrev zO(l:List UInt8):zx := .string ⟨l.toArray⟩
def Tr(w:z8)(row:Option Nat):w.grownBy w row:=⟨rfl,rfl,rfl,Y _,λ_ _ _=>rfl⟩
def zo{w:z8}{base size n:Nat}{e:xM}{v:zx}{xs:List zx}(h:w.ownsRow base e size v n xs):∃a cap,v = .slice a n cap:=by
 rcases h.2 with⟨hv,hn⟩|⟨g,cap,_,hv,_⟩
 .exact⟨none,0,by rw[hv,hn]⟩
 .exact⟨_,cap,hv⟩
def xY{w:z8}{base size n:Nat}{e:xM}{v:zx}{xs:List zx}(h:w.ownsRow base e size v n xs)(hn:0<n) :
  ∃g cap,v = .slice (some ⟨g,0,none⟩) n cap/\base<=g/\g<w.heap.size/\∀j,j<n*size->w.cell? ⟨g,j,none⟩=xs[j]? := by
 have uh:=h.lt;rcases h.2 with⟨_,h0⟩|⟨g,cap,cur,hv,hg,hh,_,_,_,ht⟩
 .omega
 .subst hv;exact⟨g,cap,rfl,hg,(uh g rfl).2,λj hj=>h.cellAt j hj⟩
def Gu{P:Gz}{c:Code}{Q:Exit->Act->z8->Prop}{a:Act}{w:z8}(h:∀W,W=w->Code.wp P c Q a W):Code.wp P c Q a w:=h w rfl
def yw{P:Gz}{f:FuncId}{args:Array zx}{R:xX->z8->Prop}{w:z8}(h:∀W,W=w->zE P f args W R):zE P f args w R:=h w rfl
def gK{P:Gz}{ops:Array je}{Q:Exit->Act->z8->Prop}{l:List je}{a:Act}{w:z8}(h:∀W,W=w->wpList P ops Q l a W):wpList P ops Q l a w:=h w rfl
def below_drewN{B:Nat}{a w:z8}(h:yE B a w)(n:Nat):yE B a (w.drewN n):=⟨h.os,h.tape,h.output,h.size,h.block⟩
def zr(w:z8)(a b:yI)(v:zx):(w.setCell a v).cell? b=if a=b then (w.cell? b).map (λ_=>v)else w.cell? b:=by
 split
 next h =>
  subst h
  cases hc:w.cell? a with
  |some u =>
   rw[qY (h:=hc)];rfl
  |none =>
   cases hd:(w.setCell a v).cell? a with
   |none=>rfl
   |some u =>
    exfalso;unfold FK xu at hd;unfold FK at hc;simp only[xc,if_true]at hd
    cases hh:w.heap[a.block]? with
    |none=>simp[hh]at hd
    |some o =>
     simp only[hh]at hc;simp only[hh,Y8]at hd
     cases o<;>simp_all
 next h=>exact yO (h:=h) ..
def addr_add(a:yI)(j:Nat):(a.add j).block=a.block:=by
 unfold fG;split<;>rfl
def ve(g j:Nat):(⟨g,0,none⟩:yI).add j=⟨g,j,none⟩:=by
 unfold fG;split
 .simp_all
 .simp
def zZ(w:z8)(c:Array zx)(t:xM)(fr:Nat×Nat)(i:Nat):(w.alloc (.cells c t fr)).cell? ⟨w.heap.size,i,none⟩=c[i]? := by
 show(match (w.heap.push (.cells c t fr))[w.heap.size]? with|some (.cells c _ _)=>c[i]? |_=>none)=_;simp
abbrev Wd:=List UInt8
section
variable {P:Gz} {ops:Array je} {Q:Exit->Act->z8->Prop} {md:kD} {S:z8->Prop}
def ZI:List je->Nat->Option je
 |[],_=>none
 |o::_,0=>some o
 |_::l,n+1=>ZI l n
def Ya:∀(l:List je) (i:Nat),ZI l i=l.toArray[i]?
 |[],i=>by simp[ZI]
 |o::l,0=>by simp[ZI]
 |o::l,n+1=>by simpa[ZI]using Ya l n
def takes(P:Gz)(ops:Array je)(S:z8->Prop)(K:Act->Prop):List Nat->Act->Prop
 |[],a=>K a
 |i::is,a=>∃o v,ops[i]? = some o/\YieldsIf P ops S o v a/\takes P ops S K is (a.put o.dst v)
def XJ(md:kD)(ops:Array je):List Nat->Array Bool->Bool
 |[],_=>true
 |i::is,listed=>xvg md ops listed i && (vB md ops listed).contains i && XJ md ops is (listed.setIfInBounds i true)
def jC(listed:Array Bool)(is:List Nat):Array Bool:=is.foldl (λl i=>l.setIfInBounds i true) listed
def Gq{K:Act->Prop}{l:List je}{i:Nat}{is:List Nat}{a:Act}{o:je}{v:zx}(ho:ZI l i=some o)(hw:qH o (Vc l.toArray a.tmps)=true)
  (hy:∀w,S w->(execOp a.eval o).run P w = .ok (.value v) w) (h:takes P l.toArray S K is (a.put o.dst v)):takes P l.toArray S K (i::is) a :=
 ⟨o,v,(Ya l i).symm.trans ho,.inl ⟨hw,hy⟩,h⟩
def zy3{K:Act->Prop}{l:List je}{i:Nat}{is:List Nat}{a:Act}{o:je}(ho:ZI l i=some o)(hw:qH o (Vc l.toArray a.tmps)=false)
  (h:takes P l.toArray S K is (a.put o.dst ig)):takes P l.toArray S K (i::is) a :=
 ⟨o,ig,(Ya l i).symm.trans ho,.inr ⟨hw,rfl⟩,h⟩
def yW{K:Act->Prop}{a:Act}(h:K a):takes P ops S K [] a:=h
def XG(hQ:∀c a d v w,Q (.panic c) (a.put d v) w->Q (.panic c) a w)(hs:vK ops=true){w:z8}(hS:S w){fuel:Nat} :
  ∀(is:List Nat) (listed:Array Bool) (a:Act),XJ md ops is listed=true ->
   takes P ops S (λa'=>Uh P md ops Q S fuel (jC listed is) a' w) is a->Uh P md ops Q S (fuel+is.length) listed a w
 |[],_,_,_,h=>h
 |i::is,listed,a,hB,⟨o,v,ho,hy,h⟩=>by
  simp only[XJ,zv]at hB;rw[zY,<-uR];exact wpAnyH_take ho hs hB.1.1 hB.1.2 (λc a w=>hQ c a o.dst v w) hy hS (XG hQ hs hS is _ _ hB.2 h)
def qh{id:Nat}{l:List je}{a:Act}{w:z8}(S:z8->Prop)(is:List Nat)(fuel:Nat)(hQ:∀c a d v w,Q (.panic c) (a.put d v) w->Q (.panic c) a w)
  (hm:P.follows .mixedOrders=true) (hn:(vK l.toArray && decide (l.length=fuel+is.length) && XJ .any l.toArray is (vQ l.toArray.size false))=true) (hS:S w.drew)
  (h:takes P l.toArray S (λa'=>Uh P .any l.toArray Q S fuel (jC (vQ l.toArray.size false) is) a' w.drew) is a):(Vb id l.toArray true).wp P Q a w:=by
 simp only[Bool.and_eq_true,decide_eq_true_eq]at hn;refine wp_region_held (S:=S) hm ?_;have h1:=XG (Q:=Q) (md := .any) (ops:=l.toArray) hQ hn.1.1 hS is _ a hn.2 h;have h2:l.toArray.size=fuel+is.length:=by simpa using hn.1.2
 rw[h2];rw[h2]at h1;exact h1
def P0{w:z8}(is:List Nat)(fuel:Nat){f:Nat}{listed:Array Bool}{a:Act}(hf:f=fuel+is.length)(hQ:∀c a d v w,Q (.panic c) (a.put d v) w->Q (.panic c) a w)
  (hs:vK ops=true) (hB:XJ md ops is listed=true) (hS:S w)
  (h:takes P ops S (λa'=>Uh P md ops Q S fuel (jC listed is) a' w) is a):Uh P md ops Q S f listed a w:=by
 subst hf;exact XG hQ hs hS is listed a hB h
def P4{l:List je}{w:z8}(i:Nat){fuel:Nat}{listed:Array Bool}{a:Act}{o:je}(hr:vB md l.toArray listed=[i])(ho:ZI l i=some o)
  (h:∀K':Act->z8->Prop,Shut (∀a w,S w->(S w->Uh P md l.toArray Q S fuel (listed.setIfInBounds i true) a w)->K' a w)->if qH o (Vc l.toArray a.tmps)=true then j6 P o a w K' Q else K' (a.put o.dst ig) w) :
  Uh P md l.toArray Q S (fuel+1) listed a w :=
 wpAnyH_ready hr (by simp) (ub ((Ya l i).symm.trans ho) h XV)
end
section
variable {P:Gz} {ops:Array je} {Q:Exit->Act->z8->Prop} {md:kD} {S:z8->Prop}
def Q5(md:kD)(ops:Array je)(L:Array Bool):Prop :=
 ∀j oj,ops[j]? = some oj->L.getD j false=true->∀e∈oj.after,VZ md e=true->L.getD e.on false=true
def LP(md:kD)(ops:Array je)(L:Array Bool):Bool :=
 (xH ops.size).all λj => !L.getD j false ||((ops[j]?).map (·.after.all λe => !Region.binds md e ||L.getD e.on false)).getD true
def KS{L:Array Bool}(h:LP md ops L=true):Q5 md ops L:=by
 intro j oj hj hl e he hb;unfold LP at h;rw[zm]at h;have h1:=h j (Y2.2 (yR.1 hj).1);rw[hl,hj]at h1;simp only[Bool.not_true,Bool.false_or,Y8,Vd,Array.all_eq_true]at h1;obtain⟨n,hn,rfl⟩:=Array.mem_iff_getElem.1 he;have h2:=h1 n hn;rw[hb]at h2;simpa using h2
def Q5.step{L:Array Bool}{j:Nat}(hc:Q5 md ops L)(hj:j∈vB md ops L):Q5 md ops (L.setIfInBounds j true):=by
 intro x ox hx hl e he hb;by_cases hxj:j=x
 .subst hxj;obtain⟨_,o,ho,LR⟩:=mem_ready.1 hj;rw[hx]at ho
  cases ho;exact getD_set_true (LR e he hb)
 .rw[Oe false hxj]at hl;exact getD_set_true (hc x ox hx hl e he hb)
def waits(md:kD)(ops:Array je)(i:Nat):Nat->Nat->Bool
 | 0,_=>false
 |n+1,k=>((ops[k]?).map (·.after.any λe=>VZ md e && (e.on==i ||waits md ops i n e.on))).getD false
def Dn{L:Array Bool}(hc:Q5 md ops L){i:Nat}:∀(n k:Nat),waits md ops i n k=true->L.getD k false=true->L.getD i false=true
 | 0,_,h,_=>by cases h
 |n+1,k,h,hl=>by
  rw[waits]at h
  cases ho:ops[k]? with
  |none=>rw[ho]at h;cases h
  |some o =>
   rw[ho]at h;simp only[Y8,Vd,Array.any_eq_true]at h;obtain⟨m,hm,h2⟩:=h;simp only[zv,vW,beq_iff_eq]at h2;have h3:=hc k o ho hl o.after[m] (Array.getElem_mem hm) h2.1;rcases h2.2 with h4|h4
   .rw[h4]at h3;exact h3
   .exact Dn hc n _ h4 h3
def qU(P:Gz)(md:kD)(ops:Array je)(Q:Exit->Act->z8->Prop)(S:z8->Prop)(k:Nat):Nat->Array Bool->Act->z8->Prop
 | 0,listed,a,w=>vB md ops listed=[]/\Q .normal a w
 |fuel+1,listed,a,w =>
  (vB md ops listed=[]->Q .normal a w) /\
  ∀i∈vB md ops listed,wpOp P ops Q i (λa' w'=>((listed.setIfInBounds i true).getD k false=false->S w')/\qU P md ops Q S k fuel (listed.setIfInBounds i true) a' w') a w
def Qp{k:Nat}:∀(fuel:Nat) (listed:Array Bool) (a:Act) (w:z8),qU P md ops Q S k fuel listed a w->wpAny P md ops Q fuel listed a w
 | 0,_,_,_,h=>h
 |fuel+1,_,_,_,h=>⟨h.1,λi hi=>wpOp_mono (λa' w' h'=>Qp fuel _ a' w' h'.2) (h.2 i hi)⟩
def KT{i k n:Nat}{oi:je}{v:zx}(hi:ops[i]? = some oi)(oD:∀(j:Nat) (o:je) cs b,ops[j]? = some o->o.op ≠ .select cs b)
  (hQ:∀c a w,Q (.panic c) (a.put oi.dst v) w->Q (.panic c) a w) (hk:waits md ops i n k=true) (hki:k≠i) :
  ∀(fuel:Nat) (listed:Array Bool) (a:Act) (w:z8),
   (∀j oj,ops[j]? = some oj->j≠i->listed.getD j true=false->(∀e∈oj.after,VZ md e=true->e.on≠i)->oi.apart ops oj=true) ->
   i∈vB md ops listed->Q5 md ops listed->YieldsIf P ops S oi v a->S w ->
   qU P md ops Q S k fuel (listed.setIfInBounds i true) (a.put oi.dst v) w->qU P md ops Q S k (fuel+1) listed a w:=by
 intro fuel;induction fuel with
 |zero =>
  intro listed a w _ hr _ hy hS H;refine⟨λh=>(by rw[h]at hr;cases hr),λj hj=>?_⟩;by_cases OE:j=i
  .subst OE;exact hy.wpOp hi hS ⟨λ_=>hS,H⟩
  .have:=xvf hj OE;rw[H.1]at this
   cases this
 |succ fuel ih =>
  intro listed a w yd0 hr hc hy hS H;refine⟨λh=>(by rw[h]at hr;cases hr),λj hj=>?_⟩;by_cases OE:j=i
  .subst OE;exact hy.wpOp hi hS ⟨λ_=>hS,H⟩
  .have h1:=H.2 j (xvf hj OE);obtain⟨xjq,oj,hoj,LR⟩:=mem_ready.1 hj;have hi0:=(mem_ready.1 hr).1;have hi1:listed.getD i false=false:=by
    rcases ud i listed.size with h' |h'
    .simp[h']at hi0|-;exact hi0
    .simp[jA h']
   have vqu:∀e∈oj.after,VZ md e=true->e.on≠i:=λe he hb heq=>by
    have h1:=LR e he hb;rw[heq,hi1]at h1
    cases h1
   have h2:=wpOp_putIf hoj (yd0 j oj hoj OE xjq vqu) (λcs b=>oD i oi cs b hi) (λcs b=>oD j oj cs b hoj) hQ hy h1;have yi1:∀k ok,ops[k]? = some ok->k≠i->(listed.setIfInBounds j true).getD k true=false ->
     (∀e∈ok.after,VZ md e=true->e.on≠i)->oi.apart ops ok=true:=λk ok hk hki hun hno=>by
    refine yd0 k ok hk hki ?_ hno;by_cases hjk:j=k
    .subst hjk;exact xjq
    .rw[Oe true hjk]at hun;exact hun
   have hcj:=hc.step hj;have hun:(listed.setIfInBounds j true).getD k false=false:=by
    cases hq:(listed.setIfInBounds j true).getD k false with
    |false=>rfl
    |true =>
     have h3:=Dn hcj n k hk hq;rw[Oe false OE,hi1]at h3
     cases h3
   have xjj:((listed.setIfInBounds i true).setIfInBounds j true).getD k false=false:=by
    rw[OK _ _ (Ne.symm OE),Oe false (Ne.symm hki)];exact hun
   refine wpOp_mono (λa' w' h3=>⟨λ_=>h3.2.1 xjj,ih (listed.setIfInBounds j true) a' w' yi1 (xvf hr (Ne.symm OE)) hcj h3.1 (h3.2.1 xjj) ?_⟩) h2;rw[OK _ _ OE];exact h3.2.2
def bF(md:kD)(ops:Array je)(k:Nat):List Nat->Array Bool->Bool
 |[],_=>true
 |i::is,listed=>xvg md ops listed i && (vB md ops listed).contains i && LP md ops listed && waits md ops i ops.size k && !(k==i) && bF md ops k is (listed.setIfInBounds i true)
def XF{k:Nat}(hQ:∀c a d v w,Q (.panic c) (a.put d v) w->Q (.panic c) a w)(hs:vK ops=true){w:z8}(hS:S w){fuel:Nat} :
  ∀(is:List Nat) (listed:Array Bool) (a:Act),bF md ops k is listed=true ->
   takes P ops S (λa'=>qU P md ops Q S k fuel (jC listed is) a' w) is a->qU P md ops Q S k (fuel+is.length) listed a w
 |[],_,_,_,h=>h
 |i::is,listed,a,hB,⟨o,v,ho,hy,h⟩=>by
  simp only[bF,zv,vA,beq_eq_false_iff_ne]at hB;rw[zY,<-uR];exact KT ho (Region.noSelect_spec hs) (λc a w=>hQ c a o.dst v w) hB.1.1.2 hB.1.2 (fuel+is.length) listed a w (Region.free_spec ho hB.1.1.1.1.1) (by simpa using hB.1.1.1.1.2) (KS hB.1.1.1.2) hy hS (XF hQ hs hS is _ _ hB.2 h)
def Gk{id:Nat}{l:List je}{a:Act}{w:z8}(S:z8->Prop)(k:Nat)(is:List Nat)(fuel:Nat)(hQ:∀c a d v w,Q (.panic c) (a.put d v) w->Q (.panic c) a w)
  (hm:P.follows .mixedOrders=true) (hn:(vK l.toArray && decide (l.length=fuel+is.length) && bF .any l.toArray k is (vQ l.toArray.size false))=true) (hS:S w.drew)
  (h:takes P l.toArray S (λa'=>qU P .any l.toArray Q S k fuel (jC (vQ l.toArray.size false) is) a' w.drew) is a):(Vb id l.toArray true).wp P Q a w:=by
 simp only[Bool.and_eq_true,decide_eq_true_eq]at hn;refine wp_region_any hm (Qp (S:=S) (k:=k) _ _ _ _ ?_);have h1:=XF (Q:=Q) (md := .any) (ops:=l.toArray) hQ hn.1.1 hS is _ a hn.2 h;have h2:l.toArray.size=fuel+is.length:=by simpa using hn.1.2
 rw[h2];rw[h2]at h1;exact h1
def jM{w:z8}{k:Nat}(is:List Nat)(fuel:Nat){f:Nat}{listed:Array Bool}{a:Act}(hf:f=fuel+is.length)(hQ:∀c a d v w,Q (.panic c) (a.put d v) w->Q (.panic c) a w)
  (hs:vK ops=true) (hB:bF md ops k is listed=true) (hS:S w)
  (h:takes P ops S (λa'=>qU P md ops Q S k fuel (jC listed is) a' w) is a):qU P md ops Q S k f listed a w:=by
 subst hf;exact XF hQ hs hS is listed a hB h
def P5{l:List je}{w:z8}{k:Nat}(i:Nat){fuel:Nat}{listed:Array Bool}{a:Act}{o:je}(hr:vB md l.toArray listed=[i])(ho:ZI l i=some o)
  (h:∀K':Act->z8->Prop,Shut (∀a w,S w->(S w->qU P md l.toArray Q S k fuel (listed.setIfInBounds i true) a w)->K' a w)->if qH o (Vc l.toArray a.tmps)=true then j6 P o a w K' Q else K' (a.put o.dst ig) w) :
  qU P md l.toArray Q S k (fuel+1) listed a w:=by
 refine⟨λh0=>(by rw[hr]at h0;cases h0),λj hj=>?_⟩;rw[hr,zG]at hj;subst hj;exact wpOp_step ((Ya l _).symm.trans ho) λK' hK=>h K' λa w h1 h2=>hK a w ⟨λ_=>h1,h2 h1⟩
def P6{l:List je}{w:z8}{k:Nat}(i:Nat){fuel:Nat}{listed:Array Bool}{a:Act}{o:je}(hr:vB md l.toArray listed=[i])(hk:(listed.setIfInBounds i true).getD k false=true)(ho:ZI l i=some o)
  (h:∀K':Act->z8->Prop,Shut (∀a w,qU P md l.toArray Q S k fuel (listed.setIfInBounds i true) a w->K' a w)->if qH o (Vc l.toArray a.tmps)=true then j6 P o a w K' Q else K' (a.put o.dst ig) w) :
  qU P md l.toArray Q S k (fuel+1) listed a w:=by
 refine⟨λh0=>(by rw[hr]at h0;cases h0),λj hj=>?_⟩;rw[hr,zG]at hj;subst hj;exact wpOp_step ((Ya l _).symm.trans ho) λK' hK=>h K' λa w h2=>hK a w ⟨λh1=>(by rw[hk]at h1;cases h1),h2⟩
def P7{k:Nat}{listed:Array Bool}{a:Act}{w:z8}(hr:vB md ops listed=[])(h:Q .normal a w) :
  ∀fuel,qU P md ops Q S k fuel listed a w
 | 0=>⟨hr,h⟩
 |_+1=>⟨λ_=>h,by rw[hr];simp⟩
end
structure xN(p:Nat)(w w':z8):Prop where
 os:w'.os=w.os
 tape:w'.tape=w.tape
 output:w'.output=w.output
 size:w.heap.size<=w'.heap.size
 block:∀k,k<w.heap.size->k≠p->w'.heap[k]? = w.heap[k]?
def xN.refl(p:Nat)(w:z8):xN p w w:=⟨rfl,rfl,rfl,Y _,λ_ _ _=>rfl⟩
def xN.trans{p:Nat}{a b c:z8}(h:xN p a b)(k:xN p b c):xN p a c :=
 ⟨k.os.trans h.os,k.tape.trans h.tape,k.output.trans h.output,zg h.size k.size,λi hi hp=>(k.block i (zC hi h.size) hp).trans (h.block i hi hp)⟩
def xN.of{p:Nat}{w w':z8}(h:yE w.heap.size w w'):xN p w w':=⟨h.os,h.tape,h.output,h.size,λk hk _=>h.block k hk⟩
def xN.below{p:Nat}{w w' VQ:z8}(h:xN p w w')(hb:yE w'.heap.size w' VQ):xN p w VQ:=h.trans (xN.of hb)
def xN.set(p:Nat)(w:z8)(j:Nat)(u:zx):xN p w (w.setCell ⟨p,j,none⟩ u) :=
 ⟨rfl,rfl,rfl,by simp[xu],λk _ hp=>yX _ _ _ _ hp⟩
def xN.drew{p:Nat}{w w':z8}(h:xN p w w'):xN p w w'.drew:=⟨h.os,h.tape,h.output,h.size,h.block⟩
def xN.cell{p:Nat}{w w':z8}(h:xN p w w'){a:yI}{v:zx}(hc:w.cell? a=some v)(ha:a.block≠p):w'.cell? a=some v :=
 (yD (h.block a.block (X w a hc) ha)).trans hc
def xN.low{p lo:Nat}{w w':z8}(h:xN p w w')(hlo:lo<=p)(h2:lo<=w.heap.size):yE lo w w':=⟨h.os,h.tape,h.output,h.size,λk hk=>h.block k (by omega) (by omega)⟩
def vx(lo hi:Nat)(w W:z8):Prop:=hi<=W.heap.size/\∀k,lo<=k->k<hi->W.heap[k]? = w.heap[k]?
def vx.below{lo hi:Nat}{w W W':z8}(h:vx lo hi w W)(hb:yE W.heap.size W W'):vx lo hi w W' :=
 ⟨zg h.1 hb.size,λk h1 h2=>(hb.block k (zC h2 h.1)).trans (h.2 k h1 h2)⟩
def vx.cell{lo hi:Nat}{w W:z8}(h:vx lo hi w W){p:yI}(h1:lo<=p.block)(h2:p.block<hi):W.cell? p=w.cell? p:=yD (w:=w) (h.2 p.block h1 h2)
def vx.via{lo hi lo' hi':Nat}{w w' W:z8}(h:vx lo' hi' w' W)(hk:vx lo hi w w')(h1:lo'<=lo)(h2:hi<=hi'):vx lo hi w W :=
 ⟨zg h2 h.1,λk a b=>(h.2 k (by omega) (by omega)).trans (hk.2 k a b)⟩
def vH{lo hi:Nat}{w:z8}(h:hi<=w.heap.size):vx lo hi w w:=⟨h,λ_ _ _=>rfl⟩
def vY{lo hi B:Nat}{w w':z8}(h:yE B w w')(hb:hi<=B)(h2:hi<=w.heap.size):vx lo hi w w':=⟨zg h2 h.size,λk _ hk=>h.block k (by omega)⟩
def zy4{P:Gz}{t e:xM}{z:zx}{size Z4:Nat}(E:Yz P t e z size Z4){w:z8}{ops:Array je}{rest:List je}{o:je}{a:Act}{Q:Exit->Act->z8->Prop}
  (hgd:o.guard=none) (s x:Operand) (ho:o.op = .call { callee := .builtin .append,args:=#[s,x],argTypes:=#[t,t] })
  (base:Nat) (v:zx) (n:Nat) (xs:List zx) (hs:a.eval s=v) (uW:w.ownsRow base e size v n xs)
  (ad:yI) (m c:Nat) (news:List zx) (hx:a.eval x = .slice (some ad) m c) (hl:news.length=m*size) (Ot:∀j u,news[j]? = some u->w.cell? (ad.add j)=some u) (h1:∀u∈news,u.oneCell'=true)
  (h31:n+m<=2147483648) (Oh:base<=w.heap.size)
  (h:∀v' w',w'.ownsRow base e size v' (n+m) (xs++news)->w.grownBy w' v.ownBlock->(v'.ownBlock=v.ownBlock\/v'.ownBlock=some w.heap.size)->wpList P ops Q rest (a.put o.dst v') w'):wpList P ops Q (o::rest) a w:=by
 obtain⟨i,hi,hz,h2,h3⟩:=E.info;have Ow:=E.small;refine wpList_append_own_at w hgd s x t ho base e i z size Z4 E.under hi hz h2 h3 E.QF E.pos v n xs hs uW ad m c news hx hl Ot h1 (by unfold vp;omega) ?_ Oh (λv' w' a b _ d=>h v' w' a b d);exact zg (Ut h31 Ow) (by decide)
def qw:Yz prog 85 3 (.int .i64 0) 1 8 :=
 ⟨underlying85,V9 (by kernel_rfl),rfl,by decide,by decide⟩
def yi3{P:Gz}{t e:xM}{z:zx}{size Z4:Nat}(E:Yz P t e z size Z4){w:z8}{o:je}{a:Act}{K:Act->z8->Prop}{Q:Exit->Act->z8->Prop}
  (s x:Operand) (ho:o.op = .call { callee := .builtin .append,args:=#[s,x],argTypes:=#[t,t] })
  (base:Nat) (v:zx) (n:Nat) (xs:List zx) (hs:a.eval s=v) (uW:w.ownsRow base e size v n xs)
  (ad:yI) (m c:Nat) (news:List zx) (hx:a.eval x = .slice (some ad) m c) (hl:news.length=m*size) (Ot:∀j u,news[j]? = some u->w.cell? (ad.add j)=some u) (h1:∀u∈news,u.oneCell'=true)
  (h31:n+m<=2147483648) (Oh:base<=w.heap.size)
  (h:∀v' w',w'.ownsRow base e size v' (n+m) (xs++news)->w.grownBy w' v.ownBlock->(v'.ownBlock=v.ownBlock\/v'.ownBlock=some w.heap.size)->K (a.put o.dst v') w'):o.wp P a w K Q:=by
 obtain⟨i,hi,hz,h2,h3⟩:=E.info;have Ow:=E.small;obtain⟨v',w',hr,k2,k3,k4,k5⟩:=run_append_own_at (P:=P) w base t o.type e i z size Z4 E.under hi hz h2 h3 E.QF E.pos v n xs uW ad m c news hl Ot h1 (by unfold vp;omega) (zg (Ut h31 Ow) (by decide)) Oh;unfold j6 execOp;simp only[ho,resolve,invoke,builtin,kp,wQ,XU,Jp,vV,De,hs,hx,hr];exact h v' w' k2 k3 k5
structure Fr(F F':Nat->Prop)(w w':z8):Prop where
 os:w'.os=w.os
 tape:w'.tape=w.tape
 output:w'.output=w.output
 size:w.heap.size<=w'.heap.size
 keep:∀k,k<w.heap.size->¬F k->w'.heap[k]? = w.heap[k]?
 fp:∀k,F' k->F k\/w.heap.size<=k
namespace Fr
variable {F F' F'' G:Nat->Prop} {w w' VQ:z8}
def refl(F:Nat->Prop)(w:z8):Fr F F w w:=⟨rfl,rfl,rfl,Y _,λ_ _ _=>rfl,λ_ h => .inl h⟩
def trans(h:Fr F F' w w')(k:Fr F' F'' w' VQ):Fr F F'' w VQ :=
 ⟨k.os.trans h.os,k.tape.trans h.tape,k.output.trans h.output,zg h.size k.size,
  λi hi hn=>(k.keep i (zC hi h.size) (λhf=>(h.fp i hf).elim hn (λq=>by omega))).trans (h.keep i hi hn),
  λi hi=>(k.fp i hi).elim (h.fp i) (λq => .inr (zg h.size q))⟩
def wide(h:Fr F F' w w')(hF:∀k,F k->G k):Fr G G w w':=⟨h.os,h.tape,h.output,h.size,λk hk hn=>h.keep k hk (λq=>hn (hF k q)),λ_ q => .inl q⟩
def tg(h:Fr F F' w w')(hF:∀k,F'' k->F k\/w.heap.size<=k):Fr F F'' w w':=⟨h.os,h.tape,h.output,h.size,h.keep,hF⟩
def of(h:yE w.heap.size w w'):Fr F F w w':=⟨h.os,h.tape,h.output,h.size,λk hk _=>h.block k hk,λ_ q => .inl q⟩
def below(h:Fr F F' w w')(hb:yE w'.heap.size w' VQ):Fr F F' w VQ:=h.trans (of hb)
def KW{B:Nat}(h:Fr F F' w w')(hb:yE B w' VQ)(hB:w.heap.size<=B):Fr F F' w VQ :=
 ⟨hb.os.trans h.os,hb.tape.trans h.tape,hb.output.trans h.output,zg h.size hb.size,λk hk hn=>(hb.block k (by omega)).trans (h.keep k hk hn),h.fp⟩
def und(h:Fr F F' w.drew w'):Fr F F' w w':=⟨h.os,h.tape,h.output,h.size,h.keep,h.fp⟩
def drew(h:Fr F F' w w'):Fr F F' w w'.drew:=⟨h.os,h.tape,h.output,h.size,h.keep,h.fp⟩
def alloc(h:Fr F F' w w')(o:Obj):Fr F F' w (w'.alloc o):=h.below ((zu _ _).alloc (Y _) _)
def set(h:Fr F F' w w'){a:yI}(u:zx)(ha:F a.block\/w.heap.size<=a.block):Fr F F' w (w'.setCell a u) :=
 ⟨h.os,h.tape,h.output,by simpa[xu]using h.size,λk hk hn=>(yX _ _ _ _ (λq=>by rcases ha with e|e;exact hn (q▸e);omega)).trans (h.keep k hk hn),h.fp⟩
def grown{r:Option Nat}(h:Fr F F' w w')(hg:w'.grownBy VQ r)(hr:∀g,r=some g->F g\/w.heap.size<=g):Fr F F' w VQ :=
 ⟨hg.os.trans h.os,hg.tape.trans h.tape,hg.output.trans h.output,zg h.size hg.size,λk hk hn=>(hg.block k (zC hk h.size) (λe=>(hr k e.symm).elim hn (λq=>by omega))).trans (h.keep k hk hn),h.fp⟩
def cell(h:Fr F F' w w'){a:yI}{v:zx}(hc:w.cell? a=some v)(ha:¬F a.block):w'.cell? a=some v :=
 (yD (h.keep a.block (X w a hc) ha)).trans hc
def frozen(h:Fr F F' w w'){a:yI}(hl:a.block<w.heap.size)(ha:¬F a.block):w'.frozen? a=w.frozen? a:=zU (h.keep a.block hl ha)
def low{B:Nat}(h:Fr F F' w w')(hF:∀k,F k->B<=k)(hB:B<=w.heap.size):yE B w w':=⟨h.os,h.tape,h.output,h.size,λk hk=>h.keep k (by omega) (λq=>by have:=hF k q;omega)⟩
def own{base size n:Nat}{e:xM}{v:zx}{xs:List zx}(h:Fr F F' w w')(ho:w.ownsRow base e size v n xs)(hv:∀g,v.ownBlock=some g->¬F g):w'.ownsRow base e size v n xs:=by
 obtain⟨h1,h2⟩:=ho;refine⟨h1,?_⟩;rcases h2 with hn|⟨g,cap,cur,e1,e2,e3,e4⟩
 .exact .inl hn
 .exact .inr ⟨g,cap,cur,e1,e2,(h.keep g (yR.1 e3).1 (hv g (by rw[e1];rfl))).trans e3,e4⟩
end Fr
abbrev yH(_:Nat):Prop:=False
abbrev zM(v:zx)(k:Nat):Prop:=v.ownBlock=some k
def Fr.app{v v':zx}{w w':z8}(hg:w.grownBy w' v.ownBlock)(hw:v'.ownBlock=v.ownBlock\/v'.ownBlock=some w.heap.size):Fr (zM v) (zM v') w w' :=
 ⟨hg.os,hg.tape,hg.output,hg.size,λk hk hn=>hg.block k hk (λe=>hn e.symm),λk hk=>by
  rcases hw with e|e
  .exact .inl (e.symm.trans hk)
  .exact .inr (by rw[zM,e]at hk;cases hk;exact Y _)⟩
def ug{w:z8}{base size n:Nat}{e:xM}{v:zx}{xs:List zx}(h:w.ownsRow base e size v n xs){g:Nat}(hg:zM v g):g<w.heap.size:=(h.lt g hg).2
def yu{w:z8}{a:yI}{v:zx}(h:w.cell? a=some v)(o:Obj):(w.alloc o).cell? a=some v:=(zc _ _ _ (X w a h)).trans h
def uH{w:z8}{a b:yI}{v:zx}(h:w.cell? a=some v)(u:zx)(hn:b.block≠a.block):(w.setCell b u).cell? a=some v:=by rw[zr,if_neg (λe=>hn (by rw[e]))];exact h
def xq{w:z8}{a:yI}{v:zx}(h:w.cell? a=some v)(u:zx):(w.setCell a u).cell? a=some u:=by rw[zr,if_pos rfl,h];rfl
def KA{P:Gz}{t e te:xM}{z:zx}{size Z4:Nat}(E:Yz P t e z size Z4){w:z8}{ops:Array je}{rest:List je}{o:je}{a:Act}{Q:Exit->Act->z8->Prop}
  (news:List zx) (m:Nat) {s x:Operand} {v:zx} {n:Nat} {xs:List zx} (uW:w.ownsRow 0 e size v n xs)
  (h31:n+m<=2147483648) (h:∀v' w',w'.ownsRow 0 e size v' (n+m) (xs++news)->Fr (zM v) (zM v') w w'->wpList P ops Q rest (a.put o.dst v') w')
  (hgd:o.guard=none:=by rfl) (ho:o.op = .call { callee := .builtin .append,args:=#[s,x],argTypes:=#[t,t] }:=by rfl) (hs:a.eval s=v:=by rfl) (hx:a.eval x = .slice (some ⟨w.heap.size,0,none⟩) m m:=by rfl)
  (hl:news.length=m*size:=by rfl) (h1:∀u∈news,u.oneCell'=true:=by simp[Value.oneCell']):wpList P ops Q (o::rest) a (w.alloc (.cells news.toArray te)):=by
 have hb:yE w.heap.size w (w.alloc (.cells news.toArray te)):=(zu _ _).alloc (Y _) _;refine zy4 E hgd s x ho 0 v n xs hs ((Fr.of hb (F:=λ_=>False)).own uW (λ_ _ q=>q)) _ m m news hx hl (λj u hu=>by rw[ve,zZ];simpa using hu) h1 h31 (zJ _) (λv' w' ho hg hw=>h v' w' ho ?_);have uh:=uW.lt;refine⟨hg.os.trans hb.os,hg.tape.trans hb.tape,hg.output.trans hb.output,zg hb.size hg.size,λk hk hn=>(hg.block k (zC hk hb.size) (λe=>hn e.symm)).trans (hb.block k hk),λk hk=>?_⟩;rcases hw with e|e
 .exact .inl (e.symm.trans hk)
 .exact .inr (by rw[zM,e]at hk;cases hk;exact hb.size)
def jZ{P:Gz}{t e te:xM}{z:zx}{size Z4:Nat}(E:Yz P t e z size Z4){w:z8}{o:je}{a:Act}{K:Act->z8->Prop}{Q:Exit->Act->z8->Prop}
  (news:List zx) (m:Nat) {s x:Operand} {v:zx} {n:Nat} {xs:List zx} (uW:w.ownsRow 0 e size v n xs)
  (h31:n+m<=2147483648) (h:∀v' w',w'.ownsRow 0 e size v' (n+m) (xs++news)->Fr (zM v) (zM v') w w'->K (a.put o.dst v') w')
  (ho:o.op = .call { callee := .builtin .append,args:=#[s,x],argTypes:=#[t,t] }:=by rfl) (hs:a.eval s=v:=by rfl) (hx:a.eval x = .slice (some ⟨w.heap.size,0,none⟩) m m:=by rfl)
  (hl:news.length=m*size:=by rfl) (h1:∀u∈news,u.oneCell'=true:=by simp[Value.oneCell']):o.wp P a (w.alloc (.cells news.toArray te)) K Q:=by
 have hb:yE w.heap.size w (w.alloc (.cells news.toArray te)):=(zu _ _).alloc (Y _) _;refine yi3 E s x ho 0 v n xs hs ((Fr.of hb (F:=λ_=>False)).own uW (λ_ _ q=>q)) _ m m news hx hl (λj u hu=>by rw[ve,zZ];simpa using hu) h1 h31 (zJ _) (λv' w' ho hg hw=>h v' w' ho ?_);refine⟨hg.os.trans hb.os,hg.tape.trans hb.tape,hg.output.trans hb.output,zg hb.size hg.size,λk hk hn=>(hg.block k (zC hk hb.size) (λe=>hn e.symm)).trans (hb.block k hk),λk hk=>?_⟩;rcases hw with e|e
 .exact .inl (e.symm.trans hk)
 .exact .inr (by rw[zM,e]at hk;cases hk;exact hb.size)
section
variable {P:Gz} {ops:Array je} {Q:Exit->Act->z8->Prop} {md:kD} {S:z8->Prop}
def ty{K:Act->Prop}{l:List je}{i:Nat}{is:List Nat}{a:Act}{o:je}{v:zx}(h:takes P l.toArray S K is (a.put o.dst v))(ho:ZI l i=some o:=by rfl)(hw:qH o (Vc l.toArray a.tmps)=true:=by rfl)
  (hy:∀w,S w->(execOp a.eval o).run P w = .ok (.value v) w:=by intro w' hS';(try dsimp only at hS');go_simp;try(with_reducible rfl)):takes P l.toArray S K (i::is) a:=Gq ho hw hy h
def tn{K:Act->Prop}{l:List je}{i:Nat}{is:List Nat}{a:Act}{o:je}(h:takes P l.toArray S K is (a.put o.dst ig))(ho:ZI l i=some o:=by rfl)(hw:qH o (Vc l.toArray a.tmps)=false:=by rfl):takes P l.toArray S K (i::is) a:=zy3 ho hw h
end
section
variable {P:Gz} {Q:Exit->Act->z8->Prop} {id:Nat} {l:List je} {a:Act} {w:z8}
def rt(S:z8->Prop)(is:List Nat)(fuel:Nat)(hS:S w.drew)
  (h:takes P l.toArray S (λa'=>Uh P .any l.toArray Q S fuel (jC (vQ l.toArray.size false) is) a' w.drew) is a)
  (hQ:∀c a d v w,Q (.panic c) (a.put d v) w->Q (.panic c) a w:=by intro _ _ d _ _ h;cases d<;>exact h) (hm:P.follows .mixedOrders=true:=by kernel_rfl)
  (hn:(vK l.toArray && decide (l.length=fuel+is.length) && XJ .any l.toArray is (vQ l.toArray.size false))=true:=by kernel_rfl):(Vb id l.toArray true).wp P Q a w:=qh S is fuel hQ hm hn hS h
def rk(S:z8->Prop)(k:Nat)(is:List Nat)(fuel:Nat)(hS:S w.drew)
  (h:takes P l.toArray S (λa'=>qU P .any l.toArray Q S k fuel (jC (vQ l.toArray.size false) is) a' w.drew) is a)
  (hQ:∀c a d v w,Q (.panic c) (a.put d v) w->Q (.panic c) a w:=by intro _ _ d _ _ h;cases d<;>exact h) (hm:P.follows .mixedOrders=true:=by kernel_rfl)
  (hn:(vK l.toArray && decide (l.length=fuel+is.length) && bF .any l.toArray k is (vQ l.toArray.size false))=true:=by kernel_rfl):(Vb id l.toArray true).wp P Q a w:=Gk S k is fuel hQ hm hn hS h
end
def pl:(∀a d v,Act.put a (some d) v={ a with tmps:=a.tmps.setIfInBounds d v })/\(∀a v,Act.put a none v=a)/\(∀(l:List zx) i v,l.toArray.setIfInBounds i v=(l.set i v).toArray)/\(∀(a:zx) l v,(a::l).set 0 v=v::l)/\∀(a:zx) l n v,(a::l).set (n+1) v=a::l.set n v :=
 ⟨λ_ _ _=>rfl,λ_ _=>rfl,λ_ _ _=>Qm ..,λ_ _ _=>rfl,λ_ _ _ _=>rfl⟩
def zw{α:Type}(a:α):∃x,a=x:=⟨a,rfl⟩
section
variable {P:Gz} {Q:Exit->Act->z8->Prop} {md:kD} {S:z8->Prop} {l:List je} {w:z8} {fuel:Nat} {listed:Array Bool} {a:Act} {o:je}
def gU(i:Nat)(h:∀K':Act->z8->Prop,Shut (∀a w,S w->(S w->Uh P md l.toArray Q S fuel (listed.setIfInBounds i true) a w)->K' a w)->if qH o (Vc l.toArray a.tmps)=true then j6 P o a w K' Q else K' (a.put o.dst ig) w)
  (hr:vB md l.toArray listed=[i]:=by kernel_rfl) (ho:ZI l i=some o:=by rfl):Uh P md l.toArray Q S (fuel+1) listed a w:=P4 i hr ho h
def dF{k:Nat}(i:Nat)(h:∀K':Act->z8->Prop,Shut (∀a w,S w->(S w->qU P md l.toArray Q S k fuel (listed.setIfInBounds i true) a w)->K' a w)->if qH o (Vc l.toArray a.tmps)=true then j6 P o a w K' Q else K' (a.put o.dst ig) w)
  (hr:vB md l.toArray listed=[i]:=by kernel_rfl) (ho:ZI l i=some o:=by rfl):qU P md l.toArray Q S k (fuel+1) listed a w:=P5 i hr ho h
def D0{k:Nat}(i:Nat)(h:∀K':Act->z8->Prop,Shut (∀a w,qU P md l.toArray Q S k fuel (listed.setIfInBounds i true) a w->K' a w)->if qH o (Vc l.toArray a.tmps)=true then j6 P o a w K' Q else K' (a.put o.dst ig) w)
  (hr:vB md l.toArray listed=[i]:=by kernel_rfl) (hk:(listed.setIfInBounds i true).getD k false=true:=by kernel_rfl) (ho:ZI l i=some o:=by rfl):qU P md l.toArray Q S k (fuel+1) listed a w:=P6 i hr hk ho h
def Y5(h:Q .normal a w)(n:Nat)(hr:vB md l.toArray listed=[]:=by kernel_rfl):Uh P md l.toArray Q S n listed a w:=wpAnyH_done hr h n
def D1{k:Nat}(h:Q .normal a w)(n:Nat)(hr:vB md l.toArray listed=[]:=by kernel_rfl):qU P md l.toArray Q S k n listed a w:=P7 hr h n
def Tt(is:List Nat)(n:Nat)(hS:S w)(h:takes P l.toArray S (λa'=>wpAnyH P md l.toArray Q S n (jC listed is) a' w) is a)(hQ:∀c a d v w,Q (.panic c) (a.put d v) w->Q (.panic c) a w:=by intro _ _ d _ _ h;cases d<;>exact h)
  (hf:fuel=n+is.length:=by rfl) (hs:vK l.toArray=true:=by kernel_rfl) (hB:XJ md l.toArray is listed=true:=by kernel_rfl):Uh P md l.toArray Q S fuel listed a w:=P0 is n hf hQ hs hB hS h
end
section
variable{P:Gz}{Q:Exit->Act->z8->Prop}{id:Nat}{l:List je}{a:Act}{w:z8}{md:kD}{listed:Array Bool}{n:Nat}{R:Prop}
def Vy(S:World->Prop)(is:List Nat)(fuel:Nat)(hS:S w.drew)(k:R)(h:R->takes P l.toArray S (λa'=>wpAnyH P .any l.toArray Q S fuel (jC (Array.replicate l.toArray.size false) is) a' w.drew) is a:=by intro k;(repeat ((first|refine ty ?_|refine tn ?_);try simp only[pl]));refine yW ?_;exact k)
 (hQ:∀c a d v w,Q (.panic c) (a.put d v) w->Q (.panic c) a w:=by intro _ _ d _ _ h;cases d<;>exact h)(hm:P.follows .mixedOrders=true:=by kernel_rfl)
 (hn:(vK l.toArray&&decide (l.length=fuel+is.length)&&XJ .any l.toArray is (vQ l.toArray.size false))=true:=by kernel_rfl):(Vb id l.toArray true).wp P Q a w:=rt S is fuel hS (h k) hQ hm hn
def Dp(S:World->Prop)(j:Nat)(is:List Nat)(fuel:Nat)(hS:S w.drew)(k:R)(h:R->takes P l.toArray S (λa'=>qU P .any l.toArray Q S j fuel (jC (Array.replicate l.toArray.size false) is) a' w.drew) is a:=by intro k;(repeat ((first|refine ty ?_|refine tn ?_);try simp only[pl]));refine yW ?_;exact k)
 (hQ:∀c a d v w,Q (.panic c) (a.put d v) w->Q (.panic c) a w:=by intro _ _ d _ _ h;cases d<;>exact h)(hm:P.follows .mixedOrders=true:=by kernel_rfl)
 (hn:(vK l.toArray&&decide (l.length=fuel+is.length)&&bF .any l.toArray j is (vQ l.toArray.size false))=true:=by kernel_rfl):(Vb id l.toArray true).wp P Q a w:=rk S j is fuel hS (h k) hQ hm hn
def Ve{S:World->Prop}{m:Nat}(is:List Nat)(n:Nat)(hS:S w)(k:R)(h:R->takes P l.toArray S (λa'=>wpAnyH P md l.toArray Q S n (jC listed is) a' w) is a:=by intro k;(repeat ((first|refine ty ?_|refine tn ?_);try simp only[pl]));refine yW ?_;exact k)(hQ:∀c a d v w,Q (.panic c) (a.put d v) w->Q (.panic c) a w:=by intro _ _ d _ _ h;cases d<;>exact h)
 (hf:m=n+is.length:=by rfl)(hs:vK l.toArray=true:=by kernel_rfl)(hB:XJ md l.toArray is listed=true:=by kernel_rfl):Uh P md l.toArray Q S m listed a w:=Tt is n hS (h k) hQ hf hs hB
end
def _root_.Go.RowKit.Hid.o{p:Prop}(h:Hid p):p:=h.out
instance(b o:Nat):CoeDep (Nat×Nat) (b,o) yI:=⟨⟨b,o,none⟩⟩
instance(b o:Nat):CoeDep (Nat×Nat) (b,o) (Option yI):=⟨some ⟨b,o,none⟩⟩
instance(w:z8)(o:Nat):CoeDep (z8×Nat) (w,o) yI:=⟨⟨w.heap.size,o,none⟩⟩
instance(w:z8)(o:Nat):CoeDep (z8×Nat) (w,o) (Option yI):=⟨some ⟨w.heap.size,o,none⟩⟩
instance:CoeOut z8 Nat:=⟨λw=>w.heap.size⟩
instance(b o:Nat):CoeDep (Nat×Nat) (b,o) zx:=⟨.pointer (some ⟨b,o,none⟩)⟩
instance(w:z8)(o:Nat):CoeDep (z8×Nat) (w,o) zx:=⟨.pointer (some ⟨w.heap.size,o,none⟩)⟩
instance:Coe Nat zx:=⟨λn=>.int .i64 n⟩
instance:Coe Int zx:=⟨λn=>.int .i64 n⟩
inductive yi4:z8->Nat->Nat->zx->Type
 |mk(w b o v):yi4 w b o v
inductive zy5:Nat->Nat->Type
 |mk(b o):zy5 b o
def zQ(b o):zy5 b o:=.mk b o
inductive yi5:z8->z8->Type
 |mk(w v):yi5 w v
def zR(w v):yi5 w v:=.mk w v
instance(w v):CoeSort (yi5 w v) Prop:=⟨λ_=>yE w.heap.size w v⟩
def gwz{p:Program}{f:Nat}{g:Array Value}{w:World}{Q T:Ending->World->Prop}{R:Prop}(c:Hid (Calls p f g w Q))(k:∀e v,Q e v->T e v)(h:Hid (Calls p f g w T)->R:=by intro k;go_wp2_with fail;exact k.out):R:=h (c.out.mono k)
def gqz{P R:Prop}(k:R)(h:R->P:=by intro k;go_wp2_with fail;exact k):P:=h k
def yv{c:Prop}{h:Decidable c}(d:¬c){α:Sort _}{t e:α}:ite c t e=e:=if_neg d
def yK{c:Prop}{h:Decidable c}(d:c){α:Sort _}{t e:α}:ite c t e=t:=if_pos d
def hdc{a b c:Prop}(x:a)(y:b)(z:c):Hid a/\Hid b/\Hid c:=⟨x,y,z⟩
def hdd{a b c d:Prop}(x:a)(y:b)(z:c)(u:d):Hid a/\Hid b/\Hid c/\Hid d:=⟨x,y,z,u⟩
def G0{a b c d e:Prop}(x:a)(y:b)(z:c)(u:d)(v:e):Hid a/\Hid b/\Hid c/\Hid d/\Hid e:=⟨x,y,z,u,v⟩
def ED{a b c d e f:Prop}(x:a)(y:b)(z:c)(u:d)(v:e)(w:f):Hid a/\Hid b/\Hid c/\Hid d/\Hid e/\Hid f:=⟨x,y,z,u,v,w⟩
def EB{a b c d e f g:Prop}(x:a)(y:b)(z:c)(u:d)(v:e)(w:f)(s:g):Hid a/\Hid b/\Hid c/\Hid d/\Hid e/\Hid f/\Hid g:=⟨x,y,z,u,v,w,s⟩
def OH{a b c d e f g h:Prop}(x:a)(y:b)(z:c)(u:d)(v:e)(w:f)(s:g)(t:h):Hid a/\Hid b/\Hid c/\Hid d/\Hid e/\Hid f/\Hid g/\Hid h:=⟨x,y,z,u,v,w,s,t⟩
instance(b o):CoeOut (zy5 b o) yI:=⟨λ_=>⟨b,o,none⟩⟩
instance(b o):CoeOut (zy5 b o) (Option yI):=⟨λ_=>some ⟨b,o,none⟩⟩
instance(b o):CoeOut (zy5 b o) zx:=⟨λ_=>.pointer (some ⟨b,o,none⟩)⟩
def zk(w b o v):yi4 w b o v:=.mk w b o v
instance(w b o v):CoeSort (yi4 w b o v) Prop:=⟨λ_=>w.cell? ⟨b,o,none⟩=some v⟩
section
variable{P:Prop}
def xjg(h:P:=by
 rw[<-hD];clear a0 a1' a2 a3 a4 a5 a6 a7 a8 g0 g1 g2 g3 g4 g5 g6 EA hD hnx n0 n0' d0 d0';have oB:=Ea.trans zy6;have hz6:(w:Nat)+2<=(W6:Nat):=by have:=zy6.size;omega
 have hT6:=Dr hT oB;have HB3:=Z dE;have EC:=Z VT;clear dE VT;refine(Tryz.utf8_ValidString D W6 (by omega) hT6).mono ?_;rintro e W7 ⟨rfl,XZ⟩
 cases hv:Lib.validD D.data.toList
 .have HF:=Z (HB3.o hv);clear hv;go_wp2;go_ret;refine⟨oB.trans (XZ.mono (by omega)),?_⟩;rw[HF.o];exact rfl
 .have iK:=Z hv;clear hv;have hR7:=hR6.below XZ (by omega);have yy0:zR w W7:=oB.trans (XZ.mono (by omega));have s37:Vx (w:Nat) W3 W7:=(s34.trans s46).trans (Vx.below XZ);have hz7:(w:Nat)+2<=(W7:Nat):=by have:=XZ.size;omega
  obtain⟨a0,a1',a2,a3,a4,a5,a6,a7,a8⟩:=hR7.a;go_wp2_with fail;refine(Tryz.utf8_RuneCountInString D W7 (by omega)).mono ?_;rintro e W8 ⟨rfl,pos,rfl⟩;have hpt:(qQ D.data.toList).2=D.data.toList.length:=(Gj _).1 iK.o;have wI:=Yc D D.size 0 (by omega) (by omega) (by rw[qW,hpt,vL];simp);rw[qW]at wI;rw[show Lib.runeCount D=(qQ D.data.toList).1.length from wI.1];have HCP:=Z wI;have HPT:=Z hpt;clear wI hpt;obtain⟨cnt,oC⟩:∃n,(qQ D.data.toList).1.length=n:=⟨_,rfl⟩;rw[oC];have yi6:=Z oC;clear oC;by_cases wL:cnt=10
  .subst wL;have hrf:Vf D D.size 0 #[]=((xk D.data.toList).map (yZ .i32)).toArray:=by have:=HCP.o.2 #[];simpa using this
   have wM:(xk D.data.toList).length=10:=by
    have:=congrArg xJ (Gg _ D.data.toList (Y _));rw[vU,yi6.o]at this;exact this
   obtain⟨rs,QD⟩:∃r:List Int,r=xk D.data.toList:=⟨_,rfl⟩;rw[<-QD]at hrf wM;have hcv:∀W:z8,(convert 9 137 (.string D)).run prog W = .ok (.slice (zQ (W:Nat) 0) 10 (wV W 10 0 21)) (W.drew.alloc (.cells ((rs.map (yZ .i32)).toArray++vQ (wV W 10 0 21 - 10) (.int .i32 0)) 21)):=by
    intro W;have:=run_runes_of_string (P:=prog) W 9 137 21 D underlying9 underlying137 underlying21 (by rw[hrf];simp;omega);rw[hrf]at this;simpa[wM]using this
   have HRF:=Z hrf;have HRS:=Z QD;clear hrf QD;go_wp2_with fail;have OI:(W7.iter D pos).drew.cell? (w,7)=some (.string D):=by
    show(W7.alloc _).cell? _=_;rw[zc _ _ _ (by simp;omega)];exact a7
   refine Vy (λW':z8=>zk W' (w:Nat) 7 (.string D)) [0,1,2,3,4,5] 2 OI ?_;refine gU 6 (λK hK=>?_);go_simp;refine hK.out _ _ ?_ λ_=>?_
   .show((W7.iter D pos).alloc _).cell? _=_;rw[P8 (by show _<(W7.alloc _).heap.size;simp;omega)];exact OI
   clear hK K;refine gU 7 (λK hK=>?_);go_simp;have vqk:(((W7.iter D pos).alloc (.cells ((rs.map (yZ .i32)).toArray++vQ (wV (W7.iter D pos).drew 10 0 21 - 10) (.int .i32 0)) 21)).drew.drew).heap[(w:Nat)+1]? = W7.heap[(w:Nat)+1]? := by
    show((W7.alloc _).alloc _).heap[(w:Nat)+1]? = _;rw[xQ _ _ _ (by simp;omega),xQ _ _ _ (by omega)]
   have hVB:=vqk.trans hR7.hB;have xjb:=zy9 (W7.iter D pos) rs (vQ (wV (W7.iter D pos).drew 10 0 21 - 10) (.int .i32 0)) (wV (W7.iter D pos).drew 10 0 21) ((w:Nat)+1) wM hVB (by simp);rw[xjb];simp only[yt];refine hK.out _ _ ?_ λ_=>?_
   .rw[World.cell?_setCells_out _ _ _ _ _ (λh=>absurd h (by simp))];show((W7.iter D pos).alloc _).cell? _=_;rw[P8 (by show _<(W7.alloc _).heap.size;simp;omega)];exact OI
   clear hK K;refine Y5 ?_ _;go_wp2;refine yU (v := .pointer ((w:Nat)+1,0)) ?_ rfl ?_
   .simp[yN,results26,go_sem]
   .have HK:=yy2 (fi:=fi) (ne:=ne) HDD.o r3 r4 r5 (p1 (by omega)) (p2 (by omega)) (p3 (by omega)) HPT.o yi6.o;rw[show ra=true from r1,show rb=true from r2];exact zyz (nx:=nx) hR7 yy0 hz7 wM HNX.out HRS.o HDD.o HK (s13.trans s37) s37 HZW.o EE hz1 Th HQ1.o HQ3.o
  .have ugj:((cnt:Int) !=10)=true:=by simp;omega
   have HF:=Z (EC.o (λh=>wL (yi6.o.symm.trans h)));go_wp2;go_ret;refine⟨yy0.trans (Ds _ _ _ _ (by omega)),?_⟩;rw[HF.o];exact rfl):P:=h
def J(h:P:=by omega):P:=h
def xg0(h:P:=by
 cases b
 .have HR:=Yy;simp only[oK,LB]at XD;go_wp2;all_goals first
   |(exfalso;rename_i hh;simp[FD,hfr]at hh;omega)|(exfalso;rename_i hh;simp[FD]at hh;omega)
   |skip
  refine yU (v := .tuple #[.agg #[.bool false,.slice ad (wh.length+fr.length) cap,(fr.length:Int)],.bool true]) ?_ rfl ?_
  .simp[yN,results35,go_sem,zr, *]
  .refine⟨_,_,_,by rw[XD.o],by first|exact⟨_,_,_,rfl⟩|exact HSV.o,?_,?_⟩
   .refine hB.trans ?_;(repeat(first|(with_reducible exact zu _ _)|(with_reducible refine below_drewN ?_ _)|(with_reducible refine qs ?_)|(with_reducible refine KH ?_ ?_ _;rotate_left;focus(first|(simp;done)|(simp;omega)))|(with_reducible refine ZE ?_ ?_ _;rotate_left;focus(first|(simp;done)|(simp;omega)))))
   .intro _;rw[HW.o,HF.o];refine⟨HB.o.symm,rfl,?_⟩;(repeat(with_reducible refine vz ?_ iJ _))
    exact HR.o
 .simp only[jd]at XD;go_wp2_with fail;all_goals first
   |(exfalso;rename_i hh;simp[FD,hfr]at hh;omega)|(exfalso;rename_i hh;simp[FD]at hh;omega)
   |skip
  refine(I5 (wh++fr) (wh.length+fr.length) (by simp) ad cap true _ _ (by simp;omega) (((j7 Yy.o (by simp)).set ?_ _).set ?_ _)).mono ?_
  .intro q hq he;subst hq;exact iJ (by simp[yA];exact he.symm)
  .intro q hq he;subst hq;exact iJ (by simp[yA];exact he.symm)
  rintro e w2 ⟨rfl,qX⟩;have Ka:(w:Nat)+1<=(w2:Nat):=by have:=qX.size;simp at this;omega
  have DG:zR w w2:=((hB.setCell (p:=(zQ (w:Nat) 1)) (Y _) _).setCell (p:=(zQ (w:Nat) 2)) (Y _) _).trans (qX.mono (by simp;omega));have hd0:zk w2 (w:Nat) 0 (.bool true):=by rw[qX.cell (by simp;omega)];simp[zr,YU]
  have Tw:zk w2 (w:Nat) 1 (.slice ad (wh.length+fr.length) cap):=by rw[qX.cell (by simp;omega)];simp[zr,VK]
  have Ec:zk w2 (w:Nat) 2 (fr.length:Int):=by rw[qX.cell (by simp;omega)];simp[zr,XY]
  have he0:w2.frozen? (zQ (w:Nat) 0)=false:=by rw[qX.frozen (by simp;omega)];go_simp
  have he1:w2.frozen? (zQ (w:Nat) 1)=false:=by rw[qX.frozen (by simp;omega)];go_simp
  have TI:w2.frozen? (zQ (w:Nat) 2)=false:=by rw[qX.frozen (by simp;omega)];go_simp
  have HR:=Z (dn (vz (vz Yy.o iJ _) iJ _) qX);clear qX YU VK XY hf0 Q6 ZL;generalize (wh++fr).all (· == 48)=z at XD|-
  cases z
  .simp only[LB]at XD;go_wp2;refine yU (v := .tuple #[.agg #[.bool true,.slice ad (wh.length+fr.length) cap,(fr.length:Int)],.bool true]) ?_ rfl ?_
   .simp[yN,results35,go_sem,zr, *]
   .refine⟨_,_,_,by rw[XD.o],by first|exact⟨_,_,_,rfl⟩|exact HSV.o,?_,?_⟩
    .refine DG.trans ?_;(repeat(first|(with_reducible exact zu _ _)|(with_reducible refine below_drewN ?_ _)|(with_reducible refine qs ?_)|(with_reducible refine KH ?_ ?_ _;rotate_left;focus(first|(simp;done)|(simp;omega)))|(with_reducible refine ZE ?_ ?_ _;rotate_left;focus(first|(simp;done)|(simp;omega)))))
    .intro _;rw[HW.o,HF.o];refine⟨HB.o.symm,rfl,?_⟩;(repeat(with_reducible refine vz ?_ iJ _))
     exact HR.o
  .simp only[Bool.not_true]at XD;go_wp2;refine yU (v := .tuple #[.agg #[.bool true,.slice ad (wh.length+fr.length) cap,(fr.length:Int)],.bool false]) ?_ rfl ?_
   .simp[yN,results35,go_sem,zr, *]
   .refine⟨_,_,_,by rw[XD.o],by first|exact⟨_,_,_,rfl⟩|exact HSV.o,?_,?_⟩
    .refine DG.trans ?_;(repeat(first|(with_reducible exact zu _ _)|(with_reducible refine below_drewN ?_ _)|(with_reducible refine qs ?_)|(with_reducible refine KH ?_ ?_ _;rotate_left;focus(first|(simp;done)|(simp;omega)))|(with_reducible refine ZE ?_ ?_ _;rotate_left;focus(first|(simp;done)|(simp;omega)))))
    .intro h;rw[XD.o]at h;cases h):P:=h
def yg(h:P:=by kernel_rfl):P:=h
def zV(h:P:=by simp):P:=h
def vqj(h:P:=by (repeat(first|(with_reducible exact zu _ _)|(with_reducible refine below_drewN ?_ _)|(with_reducible refine qs ?_)|(with_reducible refine KH ?_ ?_ _;rotate_left;focus(first|(simp;done)|(simp;omega)))|(with_reducible refine ZE ?_ ?_ _;rotate_left;focus(first|(simp;done)|(simp;omega)))))):P:=h
def yF(h:P:=by simp;omega):P:=h
def zW(h:P:=by decide):P:=h
def xp(h:P:=by cases h):P:=h
def XB(h:P:=by simpa[Fo.xD]using h):P:=h
def iG(h:P:=by first|(simp;done)|(simp;omega)):P:=h
def yd4(h:P:=by
 have zyy:bI n acc (t.drop m)=r:=by
  have h1:=Gf.o;rw[yv (by rw[HK.o];decide),LS.o.1,LS.o.2]at h1;rw[yK HK.o]at h1;exact h1
 have yi7:=Z zyy;have dH:u.extract (m+1) u.size=⟨(t.drop m).toArray⟩:=by rw[fN,HUD.o];rfl
 have Dt:u.extract 0 (m+1)=⟨(c::t.take m).toArray⟩:=by rw[fM,HUD.o];rfl
 have HX1:=Z Dt;have HX2:=Z dH;clear zyy Dt dH;go_wp2;rw[HX2.o];go_roundg n
 case measure=>omega
 case rel=>exact⟨acc,t.drop m,rfl,HO.o,hb,by simp at Z9|-;omega,by simp at hla|-;omega,yi7.o⟩):P:=h
def P9(h:P:=by first|(have:=HDL.o;simp at hla;simp only[zy,zY,yG];omega)|(simp at hla|-;omega)):P:=h
def Pz(h:P:=by rw[<-HR.o,VJ,HO.o];dsimp only;unfold Py;rw[HM.o,yK rfl,ZY]):P:=h
def yd6(h:P:=by
 obtain⟨va,t⟩:=q;rw[hn]at hq;obtain⟨rfl,iF⟩:=hq;have hva:=(dh hn).1;have kL:=VW.o;rw[hn]at kL;have Gd:=Z kL;have Wz:=Z iF;have xg1:=Z (Dh va va false w5 hva hva);clear kL hn iF;go_wp2_with fail;refine xg1.o.mono ?_;rintro e w6 ⟨⟨v,rfl,ht⟩,gT⟩;have Px:=Z ht;clear ht;go_wp2;go_ret2
 refine⟨?_,Ye.below gT⟩;rw[Gd.o];exact⟨⟨v,rfl,Px.o.keep (vH (Y _)) Ye.size (Y _)⟩,Wz.o.below gT⟩):P:=h
def iD(h:P:=by rw[EA];(repeat(first|(with_reducible exact zu _ _)|(with_reducible refine ZE ?_ ?_ _;rotate_left;focus(first|(simp;done)|(simp;omega)))))):P:=h
def QB(h:P:=by rw[hW];exact(zu _ _).alloc (Y _) _):P:=h
def xg2(h:P:=by rw[yv hw]at hq;have HT5:=Z (show R = .error (3,q)by rw[wN.o];show(ua rs 125 q).then _=_;unfold ua;rw[yv hw];rfl);have HQ:=Z hq;obtain⟨bf,rfl,_,_⟩:=hq;clear hw wN;go_wp2;exact⟨rfl,by rw[HT5.o];exact HQ.o,VT⟩):P:=h
def I6(h:P:=by first|exact .inl rfl|exact .inr (.inl rfl)|exact .inr (.inr rfl)):P:=h
def I7(h:P:=by show(if _ then _ else _:List _).length=(if _ then _ else _:List _).length;split<;>simp[h]):P:=h
def dS(h:P:=by unfold vp;omega):P:=h
def xg3(h:P:=by have iB:d=6:=HD.o.1 rfl;subst iB;go_wp2_with fail;refine(Yi p 4 Jk x2 dw.o.I8).mono ?_;rintro e x3 ⟨hf,hx3⟩;have HF:=Z hf;obtain⟨bf,rfl,_,_⟩:=hf;go_wp2;exact⟨rfl,by rw[Ee.o];exact HF.o,qX.below hx3⟩):P:=h
def yd7(h:P:=by refine hK.out _ _ trivial λ_=>?_;clear hK K;refine Ve [5,6,7,8,9,10,11,12,13,14,15,16,17,18,19,20] 0 (show True from trivial) ?_;refine Y5 ?_ _;go_wp2;go_ret;exact⟨by rw[HF.o,g1];simp,(zu _ _).drew⟩):P:=h
def xg4(h:P:=by rw[yv hw]at hq;have Ee:=Z (show R = .error (3,Jk)by rw[HT.o];unfold ua;rw[yv hw];rfl);have HQ:=Z hq;obtain⟨bf,rfl,_,_⟩:=hq;clear hw HT;go_wp2;exact⟨rfl,by rw[Ee.o];exact HQ.o,qX⟩):P:=h
def gJ(h:P:=by rw[HF.o];rfl):P:=h
def Yq(h:P:=by rw[IntKind.wrap_i64];omega):P:=h
def Vi(h:P:=by rw[size_mk];unfold vp;omega):P:=h
def yd8(h:P:=by clear oE;go_enter func166,ntmps166;go_wp2_with fail;refine HA.o.mono ?_;rintro e w1 ⟨rfl,qI⟩;obtain⟨j0,j1⟩:=HPS.o w1 qI;have wO:=Z (HP.o.below qI);go_wp2_with fail;refine(HCW.o _).mono ?_;rintro e w2 ⟨rfl,rfl⟩;go_wp2;go_ret;exact⟨⟨by rw[HSV.o];rfl,(wO.o.step j0).2 rfl⟩,(xN.of qI).trans (xN.set p _ 0 _)⟩):P:=h
def uK(h:P:=by go_simp):P:=h
def yd9(h:P:=by clear oE;go_enter func166,ntmps166;go_wp2_with fail;refine HA.o.mono ?_;rintro e w1 ⟨rfl,qI⟩;obtain⟨j0,j1⟩:=HPS.o w1 qI;have wO:=Z (HP.o.below qI);go_wp2_with fail;refine(HCW.o _).mono ?_;rintro e w2 ⟨rfl,rfl⟩;go_wp2;go_ret;exact⟨⟨by rw[HSV.o];rfl,(wO.o.step j0).1⟩,(xN.of qI).trans (xN.set p _ 0 _)⟩):P:=h
def ydz(h:P:=by have ha3:=hf.cell HP.o.q.a0 (λe=>HP.o.nR.2.1 e.symm);have Th:=(hf.frozen (a:=(zQ A 0)) (X _ _ HP.o.q.a0) (λe=>HP.o.nR.2.1 e.symm)).trans HP.o.q.az;have HB3:=Z (HP.o.q.dD.trans (hf.low (λq e=>by rw[e];exact HP.o.lR) HP.o.q.dD.size));clear HN DD hf ho;go_wp2;exact Kc HAe.o ha3 Th HO.o HB3.o HB.o):P:=h
def iC(h:P:=by go_wp2;refine zyx HAe.o HE.o (λVQ hb=>?_);unfold YQ;rw[HB.o];exact⟨rfl,EC.o.trans (hb.mono EC.o.size)⟩):P:=h
def Dw(h:P:=by rw[Yl];exact(zu _ _).alloc (Y _) _):P:=h
def xg6(h:P:=by
 intro l h
 cases l with
 |nil=>simp[xg]
 |cons c t =>
  rw[xg.eq_def];dsimp only;by_cases hc:c=39
  .rw[yK hc]
   cases t with
   |nil=>simp
   |cons d u =>
    dsimp only;by_cases hd:d=39
    .rw[yK hd];have:=ih u (by simp at h;omega);simp;omega
    .rw[yv hd];simp
  .rw[yv hc];have:=ih t (by simp at h;omega);simp;omega):P:=h
def ZM(h:P:=by simp[xu]):P:=h
def ydy(h:P:=by
 obtain⟨T,t⟩:=q;rw[hn]at hq;obtain⟨⟨v,rfl,ht⟩,iF⟩:=hq;have kL:=VW.o;rw[hn]at kL;have Gd:=Z kL;have Px:=Z ht;have Wz:=Z iF;clear kL hn ht iF;go_wp2;go_ret2
 refine⟨?_,QC⟩;rw[Gd.o];exact⟨⟨v,rfl,Px.o.keep (vH (Y _)) Vl.size (Y _)⟩,Wz.o⟩):P:=h
def ydx(h:P:=by
 obtain⟨T,t⟩:=q;rw[hn]at hq;obtain⟨⟨v,rfl,ht⟩,iF⟩:=hq;have kL:=VW.o;rw[hn]at kL;have Gd:=Z kL;have Px:=Z ht;have Wz:=Z iF;clear kL hn ht iF;go_wp2;go_ret2
 refine⟨?_,Vl⟩;rw[Gd.o];exact⟨⟨v,rfl,Px.o.keep (vH (Y _)) Ye.size (Y _)⟩,Wz.o⟩):P:=h
def iE(h:P:=by clear hn;go_enter func159,ntmps159;go_wp2;all_goals (first|(exfalso;omega)|(go_ret;exact⟨rfl,rfl⟩))):P:=h
def QE(h:P:=by unfold dI;rw[dL];simp only[hc]):P:=h
def xg7(h:P:=by have h1:=Gf.o;rw[yv (by rw[HK.o];decide),LS.o.1,LS.o.2]at h1;rw[yv (by rw[HK.o];decide)]at h1;exact h1):P:=h
def xg8(h:P:=by simp at hla;simp only[zy,zY,yG,yr];omega):P:=h
def ydv(h:P:=by
 have lt:∀(a:yI) (v:zx),w.cell? a=some v->a.block<(w:Nat):=λa v h=>X w a h
 refine⟨λc hc=>?_,λi hi=>⟨?_,?_⟩⟩
 .rw[hb.cell (lt _ _ (h.1 c hc))];exact h.1 c hc
 .rw[hb.cell (lt _ _ (h.2 i hi).1)];exact(h.2 i hi).1
 .rw[hb.cell (lt _ _ (h.2 i hi).2)];exact(h.2 i hi).2):P:=h
def ydu(h:P:=by rw[hn]at hq TL;obtain rfl:=hq;have VW:=Z TL;clear TL hn;go_wp2;refine⟨rfl,?_,QC⟩;rw[VW.o]):P:=h
def zyv(h:P:=by go_wp2;go_ret;rw[HB.o];exact⟨rfl,(HF.o.trans (wP.o.wide (λ_ q=>q.elim) |>.tg (λ_ q => .inl q):Fr (· = M) (· = M) wr w5)).tg (λ_ q=>q.elim)⟩):P:=h
def ydq(h:P:=by rw[yv (by rw[oH.o];simp),HR.o];refine⟨_,q,g,mb,vC,vI,rs,cv,ov,rfl,⟨LW 0,LW 1,HPA.o.below Ke,zC FD LA.size,HX.o.below LA FD,yiy.cell HC0.o id,yiy.cell HC1.o id⟩,λW hW=>HQC.o W (LA.trans (hW.mono LA.size)),λW hW=>HQO.o W (LA.trans (hW.mono LA.size))⟩):P:=h
def ydj(h:P:=by
 go_enter func166,ntmps166;go_wp2_with fail;refine HA.o.mono ?_;rintro e w1 ⟨⟨v,ev,rfl,hev⟩,qI⟩;rcases hev with rfl|⟨N,rfl⟩
 .go_wp2_with fail;refine(HCW.o _).mono ?_;rintro e w2 ⟨rfl,rfl⟩;go_wp2;exact⟨rfl,rfl,xN.of qI⟩
 .go_wp2;exact⟨rfl,rfl,xN.of qI⟩):P:=h
def xg9(h:P:=by exact⟨⟨⟨K,i,f,ma,mc,rfl,rfl,oI,vs,Yy.o.keep HKP.o qX.size HKP.o.1,yY.keep HKP.o qX.size HKP.o.1 _ _ Gb.o⟩,HSF.o⟩,HBF.o⟩):P:=h
def ydg(h:P:=by rw[uB]at hq;obtain⟨ZN,rfl,ho⟩:=hq;have HE:=Z (show Ym full l=none by rw[HIR.o,<-HQ.o,uB];rfl);have HO:=Z ho;have Ei:=Z ((dw.o.1.drew.fr.tr gW.GZ (λq hq => .inl hq)));clear hJ uB gW ho dw;exact⟨rfl,Ki HE.o HO.o Ei.o⟩):P:=h
def zyu(h:P:=by
 induction l with
 |nil=>simp
 |cons a t ih=>have:=(XC a).1;simp only[zh,zy,zY];omega):P:=h
def xG(h:P:=by rfl):P:=h
def zyq(h:P:=by
 have h1:vs[i]? = some x0:=by rw[Pv.o,<-HUS.o];simp
 rw[zj (by have:=iK.o;omega)]at h1;exact zL h1):P:=h
def ydf(h:P:=by rw[uB]at hq;obtain⟨ZN,rfl,ho⟩:=hq;have HE:=Z (show Ym full l=none by rw[HIR.o,<-HQ.o,uB];rfl);have HO:=Z ho;have Ei:=Z ((dw.o.1.fr.tr gW.GZ (λq hq => .inl hq)));clear uB gW ho dw;exact⟨rfl,Ki HE.o HO.o Ei.o⟩):P:=h
def I9(h:P:=by simp only[Fo.app,Fo.uC,Fo.ZO r g];omega):P:=h
def Vv(h:P:=by rw[HN.o];exact uh):P:=h
def FB(h:P:=by intro u hu;simp at hu;subst hu;rfl):P:=h
def zyj(h:P:=by have:=uW k hk;omega):P:=h
def kG(h:P:=by cases q):P:=h
def FC(h:P:=by rw[yr];omega):P:=h
def gG(h:P:=by cases e):P:=h
def iH(h:P:=by
 simp only[Fo.wf,Fo.app,zv]at h|-
 exact⟨h.1,Fo.GY r g h.2 h2⟩):P:=h
def xgz(h:P:=by obtain⟨en1,en2⟩:=en;have HQ:=Z hq;obtain⟨bf,rfl,_,_⟩:=hq;go_wp2;exact⟨rfl,by rw[HT3.o];exact HQ.o,dE⟩):P:=h
def ydd(h:P:=by
 have hq:=yy7.o;rw[e6]at hq;have HP6:=Z hq;have E6:=Z e6;clear hq e6;have kL:r=none:=by
  rw[<-HR.o];simp[qy,E1.o,E2.o,E3.o,E4.o,E5.o,E6.o]
 have Gd:=Z kL;clear kL;go_wp2;refine⟨rfl,?_,Vl⟩;rw[Gd.o]):P:=h
def xgy(h:P:=by rw[yj iI,uJ,El.o];simp[HK2.o,HK.o,hq]):P:=h
def iL(h:P:=by obtain⟨D,⟨es,clock,ho,_⟩,_⟩:=h;exact(yR.1 ho).1):P:=h
def zyg(h:P:=by rw[zc _ _ ⟨1,0,none⟩ (by simp<;>omega),zc _ _ ⟨1,0,none⟩ uh];exact hg):P:=h
def ydb(h:P:=by
 cases r with
 |nil=>exact⟨rfl,rfl⟩
 |text t r=>cases D4
 |hash r=>cases D4
 |put n a r=>cases D4
 |num n a r=>cases D4
 |br n a fo of cl bs r=>cases D4
 |xi k0 a0 m0 r0=>exfalso;simp only[Fo.len]at Z9;omega):P:=h
def yb0(h:P:=by
 obtain⟨x,t,hx⟩:∃x t,rs.drop (i+1)=x::t:=by
  rw[h1]
  cases k.map zI with
  |nil=>exact⟨_,_,rfl⟩
  |cons x t=>exact⟨_,_,rfl⟩
 rw[EH hx]at k2;have h2:rs.drop i=32::x::t:=by rw[h0,<-h1,hx]
 exact Pu h2 k2):P:=h
def iM(h:P:=by
 simp only[Fo.wf,Fo.app,zv]at h|-
 exact⟨h.1,La r g h.2⟩):P:=h
def zyf(h:P:=by
 cases xs with
 |nil=>have h1:=iK.o;rw[Pv.o]at h1;have:=HUS.o;simp at h1;omega
 |cons a b=>exact⟨a,b,rfl⟩):P:=h
def yb1(h:P:=by
 refine⟨?_,?_,?_,?_⟩
 .rw[zc _ _ _ uh,<-hA];exact zZ _ _ _ _ _
 .rw[<-h1];exact zZ _ _ _ _ _
 .rw[zU (xQ _ _ _ uh)];subst hA;simp
 .rw[<-h1];simp):P:=h
def xgx(h:P:=by rw[HF.o];have hk:vx (w1:Nat) (w2:Nat) w2 w3:=⟨dE.size,λk _ hk=>dE.block k hk⟩;exact⟨[],ma,mc,vs,rfl,Yy.o.keep hk (Y _) dE.size,yY.keep hk (Y _) dE.size _ _ Gb.o,rfl⟩):P:=h
def yb2(h:P:=by subst hx;simp only[↓reduceIte];exact⟨by rw[Qi hi (show kF (.string m)from trivial)];simp,by rw[Uo hi (show kF (.string m)from trivial)];simp⟩):P:=h
def yb3(h:P:=by
 obtain⟨n,hn⟩:=List.mem_iff_getElem?.1 hx;rw[kz]at hn;split at hn
 .obtain⟨y,hy,rfl⟩:=Option.map_eq_some_iff.1 hn;exact h y (ze hy)
 .exact h x (ze hn)):P:=h
def zyd(h:P:=by
 rcases ud t.block (w:Nat)with h|h
 .exact h
 .simp[FK,jA h]at ht0):P:=h
def Yn(h:P:=by rw[h1];rfl):P:=h
def yb4(h:P:=by refine⟨QK,?_⟩;rw[yv (by rw[oH.o];simp),HR.o];exact⟨P,q,g,mb,vC,vI,rs,cv,ov,rfl,iO.o,λW hW=>HQ.o.1 W (qX.trans (hW.mono qX.size)),λW hW=>HQ.o.2 W (qX.trans (hW.mono qX.size))⟩):P:=h
def yb5(h:P:=by
 simp only[hx,↓reduceIte];have gN:(Lit.string x) ≠ .string m:=λq=>hx (by cases q;rfl)
 exact⟨by rw[OU gN];exact(h3 x).1,by rw[dc gN];exact(h3 x).2⟩):P:=h
def Iz(h:P:=by rw[<-hA];exact(Fr.refl _ _).alloc _):P:=h
def zyb(h:P:=by exact⟨MkS.le_trans (s.yiq _ _) a,by simp only[Fo.keys,Fo.cw,MkS.uw,yG];omega⟩):P:=h
def yb6(h:P:=by exact⟨rfl,Ki HE.o HO.o Ei.o⟩):P:=h
def xgv(h:P:=by
 have kL:r=none:=by rw[<-HR.o,VJ,HO.o];dsimp only;unfold Py;rw[HM.o,yK rfl,HN.o];simp[hm0]
 have Gd:=Z kL;subst hm0;clear kL;go_wp2;refine⟨rfl,?_,zx0⟩;rw[Gd.o]):P:=h
def xgu(h:P:=by obtain⟨en1,en2⟩:=en;have HQ:=Z hq;obtain⟨bf,rfl,_,_⟩:=hq;have HTE:=Z (show R = .error (en1,en2)from Iy.o);go_wp2;exact⟨rfl,by rw[HTE.o];exact HQ.o,Qr⟩):P:=h
def Yo(h:P:=by exact Y _):P:=h
def yb7(h:P:=by have hf:Fr yH yH w w':=Fr.of hb;exact⟨hf.cell h.p0 id,hf.cell h.p1 id,h.prog.below hb,zC h.gl hb.size,h.loc.below hb h.gl,hf.cell h.g0 id,hf.cell h.g1 id⟩):P:=h
def zx1(h:P:=by simp[yf9,EU,OQ];omega):P:=h
def QH(h:P:=by simpa using h):P:=h
def iP(h:P:=by go_wp2;go_ret;rw[HB.o];exact⟨rfl,Ix.o.tg (λ_ q=>q.elim)⟩):P:=h
def Iv(h:P:=by simp[app,len,jE r g];omega):P:=h
def Pq(h:P:=by intro u hu;simp at hu;rcases hu with rfl|rfl<;>rfl):P:=h
def xgq(h:P:=by
 calc (10*v+(c.toNat - 48)+1)*10 ^ t.length<=((v+1)*10)*10 ^ t.length:=uM _ h3
  _=(v+1)*10 ^ (t.length+1):=by rw[fC,Up,dU 10]):P:=h
def zx2(h:P:=by exact⟨⟨[],rfl,rfl⟩,Qs.more HG.o HI.o ((Fr.refl yH _).alloc _) (λ_ q=>q.elim)⟩):P:=h
def zx3(h:P:=by obtain⟨D,⟨es,clock,ho,rest⟩,h2⟩:=h;exact⟨D,⟨es,clock,hb.trans ho,rest⟩,h2⟩):P:=h
def B0(h:P:=by go_wp2;go_ret;exact⟨rfl,rfl⟩):P:=h
def iR(h:P:=by have:=Fo.Q7 r;simp only[Fo.cw,Fo.uC];omega):P:=h
def Pk(h:P:=by
 go_wp2;go_ret2
 refine⟨?_,yik⟩;rw[HRN.o];rfl):P:=h
def yb8(h:P:=by
 rcases hk with h|h|h|h
 .exact .inl (.inl h)
 .exact .inl (.inr (.inl h))
 .exact .inl (.inr (.inr (.inl h)))
 .exact(hs' k h).imp (λq => .inr (.inr (.inr q))) id):P:=h
def B1(h:P:=by rw[zy];omega):P:=h
def zx4(h:P:=by rw[kx Iu.o,kx HSR.o];omega):P:=h
def zx5(h:P:=by simp[Lit.wf,IntKind.min,IntKind.max,EU,OQ];omega):P:=h
def Iq(h:P:=by simp[xE,uA,ue]):P:=h
def GX(h:P:=by rw[yx D5];rfl):P:=h
def zx6(h:P:=by rw[zj (by have:=Pj.o;omega)]at h1;exact zL h1):P:=h
def GV(h:P:=by simp at h;omega):P:=h
def zx7(h:P:=by exact zZ _ _ _ _ _):P:=h
def Lc(h:P:=by simp only[Fo.app,Fo.cnt,Fo.Q8 r g];omega):P:=h
def Wy(h:P:=by rw[Wx,Ql,zj hj]at hu;simpa using hu):P:=h
def Le(h:P:=by have:=D6.lt;omega):P:=h
def Li(h:P:=by have:=VG.lt;omega):P:=h
def B2(h:P:=by rw[Yl];exact zZ _ _ _ _ _):P:=h
def yig(h:P:=by rw[HBB.o];have e1:=HA1.o;have e2:=HA.o;have e3:=HNW.o;have e4:=HLW.o;have e5:=HLF.o;have e6:=HL.o;subst e1 e2 e4 e5 e6;unfold Vm;rw[<-e3];try simp):P:=h
def yif(h:P:=by rw[fN,HUD.o];rfl):P:=h
def yid(h:P:=by rw[fM,HUD.o];rfl):P:=h
def Wv(h:P:=by have:=Ll cl bs [] [];have:=HF.o.few;simp only[yG]at *;omega):P:=h
def yib(h:P:=by unfold B3;simp only[zA,zj yl0,Vd,hm,TX,zj hmd]):P:=h
def yl1(h:P:=by unfold B3;simp only[zA,zj yl2,Vd,hm,TX,zj hmd]):P:=h
def Wu(h:P:=by simp only[zY,zy,yG,Fo.uC];omega):P:=h
def zxz(h:P:=by obtain⟨vt,b,rfl,l1,l2,c0,c1,hr⟩:=h;obtain⟨us,xs,rfl,h1,h2⟩:=yY.split r vt hr;exact⟨_,xs,rfl,⟨us,b,rfl,l1,l2,c0,c1,h1⟩,h2⟩):P:=h
def Lm(h:P:=by
 go_wp2_with fail;go_meet
 case rel=>exact⟨rfl,rfl⟩):P:=h
def zxy(h:P:=by rw[hn]at hq;obtain rfl:=hq;have kL:=VW.o;rw[hn]at kL;have Gd:=Z kL;clear kL hn;go_wp2;refine⟨rfl,?_,QC⟩;rw[Gd.o];rfl):P:=h
def zxx(h:P:=by rw[hn]at hq;obtain rfl:=hq;have kL:=VW.o;rw[hn]at kL;have Gd:=Z kL;clear kL hn;go_wp2;refine⟨rfl,?_,Vl⟩;rw[Gd.o];rfl):P:=h
def zxv(h:P:=by rw[hn]at hq;obtain rfl:=hq;have kL:=VW.o;rw[hn]at kL;have Gd:=Z kL;clear kL hn;go_wp2;refine⟨rfl,?_,Ye⟩;rw[Gd.o];rfl):P:=h
def Wq(h:P:=by intro u hu;simp only[vu,uy]at hu;obtain⟨c,_,rfl⟩:=hu;rfl):P:=h
def Vn(h:P:=by rw[xy];simp):P:=h
def Wk(h:P:=by obtain⟨k1,k2⟩:=XE ht r h.2.2 h.2.1;exact⟨⟨h.1,k2,k1⟩,k2⟩):P:=h
def Wj(h:P:=by have wR:u.size=t.length+1:=ZX.o;omega):P:=h
def Ln(h:P:=by simp only[Fo.app,Fo.sq,Fo.Vo n r g]):P:=h
def Lo(h:P:=by simp only[binOp];simp[Op.equal,Op.maxDepth,h 9999]):P:=h
def Wf(h:P:=by
 cases b;all_goals
  go_wp2;go_meet
 all_goals exact⟨by rw[HE.o],rfl⟩):P:=h
def B4(h:P:=by rw[yx qX];rfl):P:=h
def zxu(h:P:=by
 go_enter func56,ntmps56;go_wp2_with fail;refine HP.o.mono ?_;rintro e w' ⟨rfl,rfl⟩;go_wp2;go_ret2
 exact⟨rfl,rfl⟩):P:=h
def Wb(h:P:=by have:=(zD.1 hu).1;simpa[vu,xB]using this):P:=h
def WZ(h:P:=by rw[<-hW];exact(zu _ _).alloc (Y _) _):P:=h
def zxq(h:P:=by
 unfold MkS.kV;split
 .exact I.xL _ _ _ h
 .exact MkS.ky P _ (λs c h=>by split;exact I.xL _ _ _ h;exact h) _ _ h):P:=h
def WY(h:P:=by rw[Lp];exact(zu _ _).alloc (Y _) _):P:=h
def zxk(h:P:=by rw[size_mk];exact uh):P:=h
def WX(h:P:=by have:=uW k h2.symm;omega):P:=h
def Lr(h:P:=by subst hr;exact⟨.nil,_,rfl,rfl,rfl,rfl,rfl⟩):P:=h
def zxj(h:P:=by
 intro l h' hh hg g e;rcases wW with q|q
 .exact hg g (q▸e)
 .rw[q]at e
  cases e;exact .inr (zg hh hb.size)):P:=h
def B5(h:P:=by simp[Fo.len,yY.count r vt hr hm]):P:=h
def Ls(h:P:=by rw[zj hn,e]):P:=h
def yl3(h:P:=by
 exfalso;rw[FK,jA h]at hg
 cases hg):P:=h
def B6(h:P:=by first|rfl|simp):P:=h
def zxg(h:P:=by rw[oH.o];simp):P:=h
def WV(h:P:=by simp only[Fo.app,Fo.hs,Fo.Vp b r g,and_assoc]):P:=h
def zxf(h:P:=by
 have:(vu l++zX k (yZ .u8 0)).length=(n+k)*1:=by simp[vu,Pg]
 rw[<-this];exact Jo):P:=h
def zxd(h:P:=by
 cases t with
 |nil=>simp[uT]at h
 |cons d u =>
  simp[uT]at h;obtain⟨rfl,rfl⟩:=h;rfl):P:=h
def GU(h:P:=by simp at hj;omega):P:=h
def zxb(h:P:=by
 cases hv:v.ownBlock with
 |none=>exact .inl rfl
 |some g=>exact .inr (λe=>by have:=(h.lt g hv).1;cases e;omega)):P:=h
def WU(h:P:=by rw[Hs];omega):P:=h
def GQ(h:P:=by rw[vL];omega):P:=h
def WQ(h:P:=by rw[List.dropLast_concat_getLast]):P:=h
def WK(h:P:=by show(w.heap.push _)[(w:Nat)]? = _;simp):P:=h
def zv0(h:P:=by obtain⟨vt,rfl,hr⟩:=h;obtain⟨us,xs,rfl,h1,h2⟩:=yY.split r vt hr;exact⟨_,xs,rfl,⟨us,rfl,h1⟩,h2⟩):P:=h
def WJ(h:P:=by unfold D7;rw[MkS.Kl _ (λs i=>XH s i 0)];omega):P:=h
def WG(h:P:=by clear hp;go_wp2;go_ret;refine⟨Ea,?_⟩;rw[HF.o];exact rfl):P:=h
def zv1(h:P:=by rw[xA,beq_iff_eq,beq_iff_eq];rw[xA,beq_iff_eq,decide_eq_true_eq]at h2;rw[<-h2];omega):P:=h
def zv2(h:P:=by
 have kL:r=none:=by rw[<-Gf.o,yK HK.o]
 have Gd:=Z kL;clear kL;go_wp2;refine⟨rfl,?_,hb⟩;rw[Gd.o]):P:=h
def Qt(h:P:=by simpa using uh):P:=h
def zv3(h:P:=by have HQ:=Z hq;obtain⟨bf,rfl,_,_⟩:=hq;clear ZY;go_wp2;exact⟨rfl,by rw[Ee.o];exact HQ.o,qI⟩):P:=h
def Lt(h:P:=by exact .inr (by rw[e];exact h.WD)):P:=h
def Lh(h:P:=by have:=h.WD;have:=h.Km;omega):P:=h
def GK(h:P:=by simp only[Fo.tb];omega):P:=h
def zv4(h:P:=by
 rcases hO.2 with⟨hv,_⟩|⟨g2,GJ,cur,hv,_,hh,_⟩
 .cases hv
 .cases hv;exact vF hh j):P:=h
def zv5(h:P:=by rw[<-hV,zc _ _ _ (by show A<_;omega),<-hA];exact zZ _ _ _ _ _):P:=h
def WB(h:P:=by simp only[Fo.app,Fo.tb,Fo.fP r g];omega):P:=h
def M0(h:P:=by rw[HN.o];exact Y _):P:=h
def zv6(h:P:=by unfold dI;rw[dL];simp only[hc];generalize QJ E t r.gs=z;rcases z with⟨n,g'⟩|⟨v,g'⟩<;>rfl):P:=h
def zv7(h:P:=by rw[show((48:Int))=(((48:UInt8).toNat:Nat):Int)from rfl,YA];simpa using λe=>oE ⟨Vu,e⟩):P:=h
def Vr(h:P:=by simp at h):P:=h
def YK(h:P:=by cases hk):P:=h
def WC(h:P:=by rw[e]at hc;revert hc;cases num<;>decide):P:=h
def zv8(h:P:=by show((xg (rs.drop (i+1))).1.flatMap enc).length+4*i<=4*(i+1+(xg (rs.drop (i+1))).2);omega):P:=h
def WE(h:P:=by rw[<-hW,<-hA];exact zZ _ _ _ _ _):P:=h
def WH(h:P:=by simp only[Fo.app,Fo.hs,Fo.Vp b r g]):P:=h
def zv9(h:P:=by
 rcases b with b|b|b
 .rw[b,tM]at t;cases t
 .rw[ty q b]at t;simp at t
 .rw[b,h.tQ]at t;simp at t):P:=h
def M3(h:P:=by simp[Fo.keys];omega):P:=h
def B7(h:P:=by rw[Xg];omega):P:=h
def zvz(h:P:=by have h2:(B3 ds l k).length<=4:=Yp _;simp only[zy];split<;>simp<;>omega):P:=h
def M4(h:P:=by go_wp2;exact⟨rfl,HQ.o⟩):P:=h
def WI(h:P:=by unfold MkS.sz at hs;omega):P:=h
def WL(h:P:=by simp[xE,uA,ue,vq]):P:=h
def M5(h:P:=by unfold vp at h2;omega):P:=h
def zvy(h:P:=by
 have:j<3:=hj;match j,this with
 | 0,_=>(go_simp;rfl)
 | 1,_=>(go_simp;rfl)
 | 2,_=>(go_simp;rfl)):P:=h
def WM(h:P:=by simp only[Fo.app,Fo.tb,Fo.fP r g]):P:=h
def zvx(h:P:=by obtain⟨vt,b,rfl,l1,l2,c0,c1,hr⟩:=h;exact⟨_,b,rfl,l1,l2,c0,c1,yY.app hg r vt hr⟩):P:=h
def zvv(h:P:=by rcases hg with hg|hg<;>cases hg;have:=Q9.base;show L1.B<=(w1:Nat);omega):P:=h
def zvu(h:P:=by rw[hD,HL.o]at h;exact h):P:=h
def zvq(h:P:=by
 obtain⟨e,he,rfl⟩:=uy.1 hp;rcases a2 e he with q|q
 .cases q
 .show e≠i;omega):P:=h
def WN(h:P:=by rw[<-hB];exact(Fr.refl _ _).alloc _):P:=h
def WO(h:P:=by rw[<-hC];exact(Fr.refl _ _).alloc _):P:=h
def zvk(h:P:=by obtain⟨e1,e2⟩:=xvj.1 e;exact hz.2 ⟨xgj.o e1,by subst e2;rfl⟩):P:=h
def M6(h:P:=by unfold XI at h2;omega):P:=h
def M7(h:P:=by have:=dw.o.1.Km;omega):P:=h
def yl4(h:P:=by rw[show q.add 0=q by unfold fG;simp]at dT;exact dT):P:=h
def WR(h:P:=by exact⟨rfl,by rw[this.2];exact key _ this.1⟩):P:=h
def WS(h:P:=by cases r<;>simp[Fo.len]at Z9<;>first|rfl|omega):P:=h
def zvj(h:P:=by obtain⟨k,cap,hv,he,hc⟩:=h;exact⟨k,cap,hv,he,λW hW=>hc W (hW.via hk h1 h2)⟩):P:=h
def zvg(h:P:=by rw[zr,yv (λe=>hAB (congrArg qb e).symm)];exact hB):P:=h
def zvf(h:P:=by rw[hXr.len];exact yy9):P:=h
def yl5(h:P:=by have:=Vq.o;rw[show(j==0)=false by simpa using hj0]at this;simpa using this):P:=h
def yl6(h:P:=by
 have:=hw.2
 cases hl:vE l with
 |nil=>rw[hl]at this;cases this
 |cons a b=>simp):P:=h
def zvd(h:P:=by have:=(XC (yz rs i)).1;show(enc (yz rs i)).length+4*i<=4*(i+1);omega):P:=h
def zvb(h:P:=by
 rcases hq with hq|hq|hq
 .exact Q6.fp q hq
 .cases hq;exact .inr Q6.size
 .cases hq):P:=h
def zu0(h:P:=by have:=congrArg xJ h;rw[yr,zy]at this;omega):P:=h
def yl7(h:P:=by simp[yN,results178,go_sem,k0,k1,k2]):P:=h
def M8(h:P:=by constructor<;>kernel_rfl):P:=h
def WT(h:P:=by simp[xE,uA,ue,vq,j8]):P:=h
def WW(h:P:=by rcases hg with hg|hg<;>cases hg):P:=h
def zu1(h:P:=by rw[<-HR.o,HN.o];show(match pOr ws with|some (T,[])=>some T|_=>none)=_;rw[HPO.o]):P:=h
def zu2(h:P:=by
 rcases hf.fp k hk with h|h
 .exact hF k h
 .exact hE.gA k (by have:=hE.gb;omega)):P:=h
def zu3(h:P:=by rw[zP];exact(hf.frozen (a:=(zQ A j)) lA nA).trans (h.z j)):P:=h
def WA(h:P:=by simp only[Fo.cnt,Fo.wt];omega):P:=h
def zu4(h:P:=by unfold uq;rw[XL,zy];exact B8):P:=h
def Wa(h:P:=by have:=h.WD;have:=h.G6;omega):P:=h
def M9(h:P:=by have:=Vs.o.size;omega):P:=h
def zu5(h:P:=by simpa using Vq.o):P:=h
def Mz(h:P:=by have:=OL.o.1;omega):P:=h
def zu6(h:P:=by have:=Em.lt;omega):P:=h
def zu7(h:P:=by have:=En.lt;omega):P:=h
def My(h:P:=by simpa using hj):P:=h
def zu8(h:P:=by unfold yz;rw[zA,zj h];rfl):P:=h
def Bz(h:P:=by simpa using ho):P:=h
def Wc(h:P:=by rw[hW];constructor<;>go_simp):P:=h
def zu9(h:P:=by
 rw[<-e]
 cases hq:gO f with
 |nil=>rfl
 |cons a t=>rw[hq]at h;cases h):P:=h
def zuz(h:P:=by rw[show runN jw rs i=ku rs i from rfl,hN];exact hk):P:=h
def Vt(h:P:=by cases hf):P:=h
def zuy(h:P:=by exact(hf.tg (F'':=F r.gs) (λk hk => .inl hk)).wide (λk hk=>hF k hk)):P:=h
def We(h:P:=by cases hh;exact⟨rfl,rfl⟩):P:=h
def zux(h:P:=by go_wp2;go_ret;exact⟨by rw[HB.o];simp[h0,h1],(Fr.refl yH w).alloc _⟩):P:=h
def zuv(h:P:=by show q≠B+1;omega):P:=h
def zuu(h:P:=by have:=cQD.lt;omega):P:=h
def Wi(h:P:=by split;exact By _;simp):P:=h
def zuq(h:P:=by
 split
 .exact⟨x.Qz _ _,XH _ _ _⟩
 .exact MkS.yl8 _ _ _ _):P:=h
def zuk(h:P:=by rcases h with rfl|rfl|rfl<;>simp[xE,uA,ue,vq]):P:=h
def Wl(h:P:=by rw[u4];omega):P:=h
def Mx(h:P:=by have:=HN1.o;omega):P:=h
def Mv(h:P:=by rw[yx this];rfl):P:=h
def yl9(h:P:=by have hk2:g2=k:=zL hk;have:=Ik.1;omega):P:=h
def Mu(h:P:=by constructor<;>intro h<;>omega):P:=h
def Wm(h:P:=by simp[ByteArray.getElem_eq_getElem_data]):P:=h
def zuj(h:P:=by simp only[Fo.wf,zv]at w;exact Fo.Vh b r w.2 o t2 h):P:=h
def ylz(h:P:=by have:=HD.o.2 e;cases this):P:=h
def zug(h:P:=by obtain⟨vt,e,hr⟩:=h;exact⟨vt,e,yY.keep hk h1 h2 r vt hr⟩):P:=h
def Wn(h:P:=by simp[uT]at h;subst h;rfl):P:=h
def zuf(h:P:=by simp only[Fo.app,Fo.sq,Fo.Vo n r g,and_assoc]):P:=h
def Mq(h:P:=by have:=hR.1;omega):P:=h
def zud(h:P:=by rw[yj h,List.any_append,h0];simp[hT]):P:=h
def zub(h:P:=by simp only[Fo.keys,Fo.uC,yG];omega):P:=h
def Bx(h:P:=by simp only at this;omega):P:=h
def zq0(h:P:=by rw[he]at b2;exact⟨a2.1.trans b2.1.symm,a2.2.trans b2.2.symm⟩):P:=h
def zq1(h:P:=by simp only[Fo.keys,Fo.cw,yG];omega):P:=h
def yly(h:P:=by have:=Yp gr;rw[zy];omega):P:=h
def ylx(h:P:=by have:=Yp po;rw[zy];omega):P:=h
def zq2(h:P:=by go_wp2;go_ret;exact⟨by rw[HB.o];rfl,(Fr.refl yH w).alloc _⟩):P:=h
def zq3(h:P:=by obtain⟨vt,rfl,hr⟩:=h;exact⟨_,rfl,yY.app hg r vt hr⟩):P:=h
def Wo(h:P:=by simp[yN,results130,go_sem]):P:=h
def Wp(h:P:=by rw[hch];exact⟨rfl,HF.o⟩):P:=h
def zq4(h:P:=by rw[zr,yv (ne j hj)];exact hf.cell hc nA):P:=h
def zq5(h:P:=by rw[zh,zy,zY];omega):P:=h
def ylu(h:P:=by have:=zt.2 (Qy r);omega):P:=h
def Mk(h:P:=by exact(GG h).trans s1):P:=h
def zq6(h:P:=by go_wp2;go_ret;rw[HB.o];exact⟨rfl,HF.o.tg (λ_ q=>q.elim)⟩):P:=h
def zq7(h:P:=by exact(List.prefix_iff_eq_take.1 (bn _)).symm):P:=h
def zq8(h:P:=by have:=(XC 39).1;show(enc 39).length+4*i<=4*(i+2);omega):P:=h
def zq9(h:P:=by have:=(XC 39).1;show(enc 39).length+4*i<=4*(i+1);omega):P:=h
def zqz(h:P:=by
 have:=Kn.o
 cases r2<;>simp[Fo.len]at Eo<;>first|rfl|omega):P:=h
def zqy(h:P:=by have:=wa.o;simp[Fo.wf]at this;exact this.1):P:=h
def zqx(h:P:=by rw[hb.cell (X w _ h2)];exact h2):P:=h
def zqv(h:P:=by
 rcases yV.1 hz with rfl|hz
 .exact b2
 .exact a5 z hz):P:=h
def zqu(h:P:=by have:=ZX.o;have:=xgb.o;simp at this;omega):P:=h
def ylq(h:P:=by rw[hlw]at hx;exact oJ hx):P:=h
def ylk(h:P:=by rw[hlf]at hx;exact jz hx):P:=h
def Wr(h:P:=by cases h;exact⟨ha,Y _⟩):P:=h
def ylj(h:P:=by simp[yA]at e;have qI:=yby.o;have:=HBq.o;omega):P:=h
def ylg(h:P:=by simp[yA]at e;have:=HBq.o;omega):P:=h
def zqq(h:P:=by exact .inr ⟨k',q1,by rw[fR];exact q2,DB q3,q4⟩):P:=h
def Ws(h:P:=by unfold gO;rw[hs]):P:=h
def ylf(h:P:=by have:=Pf gr fi ne ds lw k;simp;omega):P:=h
def zqk(h:P:=by dsimp only[uk];rw[zy];simpa[bh]using ho):P:=h
def yld(h:P:=by simp[yA]at e;have:=HQ.o;omega):P:=h
def zqj(h:P:=by have:=ty _ q;rw[h.tA]at this;simp at this):P:=h
def zqg(h:P:=by have:=ty _ q;rw[h.tQ]at this;simp at this):P:=h
def Mj(h:P:=by rw[bne,j1];rfl):P:=h
def zqf(h:P:=by have:=zt.2 h1;simp;omega):P:=h
def zqd(h:P:=by cases hg;exact qV _ (Q9.lt q)):P:=h
def zqb(h:P:=by have:=hF g q;have:=(h.all g hg).2.1;omega):P:=h
def zk0(h:P:=by rw[OU gN];exact(h3 k).1):P:=h
def ylb(h:P:=by
 intro L;refine wpAnyH_ready (rs:=[1,3,4]) yg (by simp) (ub rfl (λK hK=>?_) (ub rfl (λK hK=>?_) (ub rfl (λK hK=>?_) XV)))
 .skip
  go_simp;refine(Wt.o wD FE HPD.o).mono ?_;rintro e Yj ⟨hq,Mg⟩;obtain⟨q0,ZY⟩:=zw (gF (t).tail);rw[ZY]at hq
  cases q0 with
  |none =>
   obtain rfl:=hq;refine⟨rfl,?_,FE.trans Mg⟩;exact Pz
  |some q0 =>
   obtain⟨mv,t3⟩:=q0;have HN:=Z ZY;obtain⟨rfl,iT⟩:=hq;have Pd:=Z iT;have gq:=FE.trans Mg;have D6:=cQD.but Mg Ep;clear ZY;clear iT;refine hK.out _ _ D6.c λ_=>?_;clear hK K;refine wpAnyH_ready (rs:=[3,4]) yg (by simp) (ub rfl (λK hK=>?_) (ub rfl (λK hK=>?_) XV))
   .skip
    go_simp;have FA:∃N,N=Yj.alloc (.cells #[(.int .i64 0)] 3)/\xN p Yj N/\vS N (Yj:Nat) (.int .i64 0):=⟨_,rfl,(xN.refl _ _).alloc _,vS.made _ _ _ zW⟩;obtain⟨bw,hW,ZP,Em⟩:=FA;have Er:∀o,o=qL (Yj,0)->o=o:=λ_ _=>rfl
    rw[<-hW];have Bv:=Z (Pd.o.below (show yE Yj Yj bw by rw[hW];exact(zu _ _).alloc (Y _) _));have ju:=gq.trans ZP;have VG:=D6.but ZP Ep;have dW:(w:Nat)<=(Yj:Nat):=gq.size;have XM:(Yj:Nat)≠Q:=λe=>Le
    clear hW Er;obtain⟨k4,KL⟩:∃k,k=(Yj:Nat):=⟨_,rfl⟩;rw[<-KL]at Em dW XM|-
    have VF:k4≠p:=J
    have HK4:=Z KL;clear KL;refine hK.out _ _ VG.c λ_=>?_;clear hK K;refine gU 4 (λK hK=>?_);go_simp;have FA:∃N,N=bw.alloc (.cells #[.nilFunc] 294)/\xN p bw N/\vS N (bw:Nat) .nilFunc:=⟨_,rfl,(xN.refl _ _).alloc _,vS.made _ _ _ zW⟩;obtain⟨Pb,hW,b7,Qh⟩:=FA;have Er:∀o,o=qL (bw,0)->o=o:=λ_ _=>rfl
    rw[<-hW];have GF:=Z (Bv.o.below (show yE bw bw Pb by rw[hW];exact(zu _ _).alloc (Y _) _));have b8:=ju.trans b7;have Yr:=VG.but b7 Ep;have dA:(w:Nat)<=(bw:Nat):=ju.size;have XN:(bw:Nat)≠Q:=λe=>Li
    clear hW Er;have VD:=Em.but b7 VF;have Bu:(bw:Nat)≠k4:=λe=>zu6
    obtain⟨k5,DC⟩:∃k,k=(bw:Nat):=⟨_,rfl⟩;rw[<-DC]at Qh dA XN|-
    rw[<-DC]at Bu;have VB:k5≠p:=J
    have HK5:=Z DC;clear DC;refine hK.out _ _ Yr.c λ_=>?_;clear hK K;refine Qx (m:=#[true,true,true,true,true,false,false]) (by kernel_rfl) ?_;exact L Pb k4 k5 mv ⟨⟨t3,HN.o,GF.o⟩,b8,Yr,VD,Qh,dW,dA,J,VF,VB,XM,XN⟩
   .skip
    go_simp;have FA:∃N,N=Yj.alloc (.cells #[.nilFunc] 294)/\xN p Yj N/\vS N (Yj:Nat) .nilFunc:=⟨_,rfl,(xN.refl _ _).alloc _,vS.made _ _ _ zW⟩;obtain⟨bw,hW,ZP,En⟩:=FA;have Er:∀o,o=qL (Yj,0)->o=o:=λ_ _=>rfl
    rw[<-hW];have Bv:=Z (Pd.o.below (show yE Yj Yj bw by rw[hW];exact(zu _ _).alloc (Y _) _));have ju:=gq.trans ZP;have VG:=D6.but ZP Ep;have dA:(w:Nat)<=(Yj:Nat):=gq.size;have XN:(Yj:Nat)≠Q:=λe=>Le
    clear hW Er;obtain⟨k5,DC⟩:∃k,k=(Yj:Nat):=⟨_,rfl⟩;rw[<-DC]at En dA XN|-
    have VB:k5≠p:=J
    have HK5:=Z DC;clear DC;refine hK.out _ _ VG.c λ_=>?_;clear hK K;refine gU 3 (λK hK=>?_);go_simp;have FA:∃N,N=bw.alloc (.cells #[(.int .i64 0)] 3)/\xN p bw N/\vS N (bw:Nat) (.int .i64 0):=⟨_,rfl,(xN.refl _ _).alloc _,vS.made _ _ _ zW⟩;obtain⟨Pb,hW,b7,VD⟩:=FA;have Er:∀o,o=qL (bw,0)->o=o:=λ_ _=>rfl
    rw[<-hW];have GF:=Z (Bv.o.below (show yE bw bw Pb by rw[hW];exact(zu _ _).alloc (Y _) _));have b8:=ju.trans b7;have Yr:=VG.but b7 Ep;have dW:(w:Nat)<=(bw:Nat):=ju.size;have XM:(bw:Nat)≠Q:=λe=>Li
    clear hW Er;have Qh:=En.but b7 VB;have Bu:(bw:Nat)≠k5:=λe=>zu7
    obtain⟨k4,KL⟩:∃k,k=(bw:Nat):=⟨_,rfl⟩;rw[<-KL]at VD dW XM|-
    rw[<-KL]at Bu;have VF:k4≠p:=J
    have HK4:=Z KL;clear KL;refine hK.out _ _ Yr.c λ_=>?_;clear hK K;refine Qx (m:=#[true,true,true,true,true,false,false]) (by kernel_rfl) ?_;exact L Pb k4 k5 mv ⟨⟨t3,HN.o,GF.o⟩,b8,Yr,VD,Qh,dW,dA,J,VF,VB,XM,XN⟩
 .skip
  go_simp;have FA:∃N,N=wD.alloc (.cells #[(.int .i64 0)] 3)/\xN p wD N/\vS N (wD:Nat) (.int .i64 0):=⟨_,rfl,(xN.refl _ _).alloc _,vS.made _ _ _ zW⟩;obtain⟨Yj,hW,Mg,yyy⟩:=FA;have Er:∀o,o=qL (wD,0)->o=o:=λ_ _=>rfl
  rw[<-hW];have Pd:=Z (HPD.o.below (show yE wD wD Yj by rw[hW];exact(zu _ _).alloc (Y _) _));have gq:=FE.trans Mg;have D6:=cQD.but Mg Ep;have dW:(w:Nat)<=(wD:Nat):=FE.size;have XM:(wD:Nat)≠Q:=λe=>zuu
  clear hW Er;obtain⟨k4,KL⟩:∃k,k=(wD:Nat):=⟨_,rfl⟩;rw[<-KL]at yyy dW XM|-
  have VF:k4≠p:=J
  have HK4:=Z KL;clear KL;refine hK.out _ _ D6.c λ_=>?_;clear hK K;refine wpAnyH_ready (rs:=[1,4]) yg (by simp) (ub rfl (λK hK=>?_) (ub rfl (λK hK=>?_) XV))
  .skip
   go_simp;refine(Wt.o Yj gq Pd.o).mono ?_;rintro e bw ⟨hq,ZP⟩;obtain⟨q0,ZY⟩:=zw (gF (t).tail);rw[ZY]at hq
   cases q0 with
   |none =>
    obtain rfl:=hq;refine⟨rfl,?_,gq.trans ZP⟩;exact Pz
   |some q0 =>
    obtain⟨mv,t3⟩:=q0;have HN:=Z ZY;obtain⟨rfl,iT⟩:=hq;have Bv:=Z iT;have ju:=gq.trans ZP;have VG:=D6.but ZP Ep;clear ZY;have Em:=yyy.but ZP VF;clear iT;refine hK.out _ _ VG.c λ_=>?_;clear hK K;refine gU 4 (λK hK=>?_);go_simp;have FA:∃N,N=bw.alloc (.cells #[.nilFunc] 294)/\xN p bw N/\vS N (bw:Nat) .nilFunc:=⟨_,rfl,(xN.refl _ _).alloc _,vS.made _ _ _ zW⟩;obtain⟨Pb,hW,b7,Qh⟩:=FA;have Er:∀o,o=qL (bw,0)->o=o:=λ_ _=>rfl
    rw[<-hW];have GF:=Z (Bv.o.below (show yE bw bw Pb by rw[hW];exact(zu _ _).alloc (Y _) _));have b8:=ju.trans b7;have Yr:=VG.but b7 Ep;have dA:(w:Nat)<=(bw:Nat):=ju.size;have XN:(bw:Nat)≠Q:=λe=>Li
    clear hW Er;have VD:=Em.but b7 VF;have Bu:(bw:Nat)≠k4:=λe=>zu6
    obtain⟨k5,DC⟩:∃k,k=(bw:Nat):=⟨_,rfl⟩;rw[<-DC]at Qh dA XN|-
    rw[<-DC]at Bu;have VB:k5≠p:=J
    have HK5:=Z DC;clear DC;refine hK.out _ _ Yr.c λ_=>?_;clear hK K;refine Qx (m:=#[true,true,true,true,true,false,false]) (by kernel_rfl) ?_;exact L Pb k4 k5 mv ⟨⟨t3,HN.o,GF.o⟩,b8,Yr,VD,Qh,dW,dA,J,VF,VB,XM,XN⟩
  .skip
   go_simp;have FA:∃N,N=Yj.alloc (.cells #[.nilFunc] 294)/\xN p Yj N/\vS N (Yj:Nat) .nilFunc:=⟨_,rfl,(xN.refl _ _).alloc _,vS.made _ _ _ zW⟩;obtain⟨bw,hW,ZP,En⟩:=FA;have Er:∀o,o=qL (Yj,0)->o=o:=λ_ _=>rfl
   rw[<-hW];have Bv:=Z (Pd.o.below (show yE Yj Yj bw by rw[hW];exact(zu _ _).alloc (Y _) _));have ju:=gq.trans ZP;have VG:=D6.but ZP Ep;have dA:(w:Nat)<=(Yj:Nat):=gq.size;have XN:(Yj:Nat)≠Q:=λe=>Le
   clear hW Er;have Em:=yyy.but ZP VF;have Bu:(Yj:Nat)≠k4:=λe=>by have:=yyy.lt;omega
   obtain⟨k5,DC⟩:∃k,k=(Yj:Nat):=⟨_,rfl⟩;rw[<-DC]at En dA XN|-
   rw[<-DC]at Bu;have VB:k5≠p:=J
   have HK5:=Z DC;clear DC;refine hK.out _ _ VG.c λ_=>?_;clear hK K;refine gU 1 (λK hK=>?_);go_simp;refine(Wt.o bw ju Bv.o).mono ?_;rintro e Pb ⟨hq,b7⟩;obtain⟨q0,ZY⟩:=zw (gF (t).tail);rw[ZY]at hq
   cases q0 with
   |none =>
    obtain rfl:=hq;refine⟨rfl,?_,ju.trans b7⟩;exact Pz
   |some q0 =>
    obtain⟨mv,t3⟩:=q0;have HN:=Z ZY;obtain⟨rfl,iT⟩:=hq;have GF:=Z iT;have b8:=ju.trans b7;have Yr:=VG.but b7 Ep;clear ZY;have VD:=Em.but b7 VF;have Qh:=En.but b7 VB;clear iT;refine hK.out _ _ Yr.c λ_=>?_;clear hK K;refine Qx (m:=#[true,true,true,true,true,false,false]) (by kernel_rfl) ?_;exact L Pb k4 k5 mv ⟨⟨t3,HN.o,GF.o⟩,b8,Yr,VD,Qh,dW,dA,J,VF,VB,XM,XN⟩
 .skip
  go_simp;have FA:∃N,N=wD.alloc (.cells #[.nilFunc] 294)/\xN p wD N/\vS N (wD:Nat) .nilFunc:=⟨_,rfl,(xN.refl _ _).alloc _,vS.made _ _ _ zW⟩;obtain⟨Yj,hW,Mg,yyx⟩:=FA;have Er:∀o,o=qL (wD,0)->o=o:=λ_ _=>rfl
  rw[<-hW];have Pd:=Z (HPD.o.below (show yE wD wD Yj by rw[hW];exact(zu _ _).alloc (Y _) _));have gq:=FE.trans Mg;have D6:=cQD.but Mg Ep;have dA:(w:Nat)<=(wD:Nat):=FE.size;have XN:(wD:Nat)≠Q:=λe=>zuu
  clear hW Er;obtain⟨k5,DC⟩:∃k,k=(wD:Nat):=⟨_,rfl⟩;rw[<-DC]at yyx dA XN|-
  have VB:k5≠p:=J
  have HK5:=Z DC;clear DC;refine hK.out _ _ D6.c λ_=>?_;clear hK K;refine wpAnyH_ready (rs:=[1,3]) yg (by simp) (ub rfl (λK hK=>?_) (ub rfl (λK hK=>?_) XV))
  .skip
   go_simp;refine(Wt.o Yj gq Pd.o).mono ?_;rintro e bw ⟨hq,ZP⟩;obtain⟨q0,ZY⟩:=zw (gF (t).tail);rw[ZY]at hq
   cases q0 with
   |none =>
    obtain rfl:=hq;refine⟨rfl,?_,gq.trans ZP⟩;exact Pz
   |some q0 =>
    obtain⟨mv,t3⟩:=q0;have HN:=Z ZY;obtain⟨rfl,iT⟩:=hq;have Bv:=Z iT;have ju:=gq.trans ZP;have VG:=D6.but ZP Ep;clear ZY;have En:=yyx.but ZP VB;clear iT;refine hK.out _ _ VG.c λ_=>?_;clear hK K;refine gU 3 (λK hK=>?_);go_simp;have FA:∃N,N=bw.alloc (.cells #[(.int .i64 0)] 3)/\xN p bw N/\vS N (bw:Nat) (.int .i64 0):=⟨_,rfl,(xN.refl _ _).alloc _,vS.made _ _ _ zW⟩;obtain⟨Pb,hW,b7,VD⟩:=FA;have Er:∀o,o=qL (bw,0)->o=o:=λ_ _=>rfl
    rw[<-hW];have GF:=Z (Bv.o.below (show yE bw bw Pb by rw[hW];exact(zu _ _).alloc (Y _) _));have b8:=ju.trans b7;have Yr:=VG.but b7 Ep;have dW:(w:Nat)<=(bw:Nat):=ju.size;have XM:(bw:Nat)≠Q:=λe=>Li
    clear hW Er;have Qh:=En.but b7 VB;have Bu:(bw:Nat)≠k5:=λe=>zu7
    obtain⟨k4,KL⟩:∃k,k=(bw:Nat):=⟨_,rfl⟩;rw[<-KL]at VD dW XM|-
    rw[<-KL]at Bu;have VF:k4≠p:=J
    have HK4:=Z KL;clear KL;refine hK.out _ _ Yr.c λ_=>?_;clear hK K;refine Qx (m:=#[true,true,true,true,true,false,false]) (by kernel_rfl) ?_;exact L Pb k4 k5 mv ⟨⟨t3,HN.o,GF.o⟩,b8,Yr,VD,Qh,dW,dA,J,VF,VB,XM,XN⟩
  .skip
   go_simp;have FA:∃N,N=Yj.alloc (.cells #[(.int .i64 0)] 3)/\xN p Yj N/\vS N (Yj:Nat) (.int .i64 0):=⟨_,rfl,(xN.refl _ _).alloc _,vS.made _ _ _ zW⟩;obtain⟨bw,hW,ZP,Em⟩:=FA;have Er:∀o,o=qL (Yj,0)->o=o:=λ_ _=>rfl
   rw[<-hW];have Bv:=Z (Pd.o.below (show yE Yj Yj bw by rw[hW];exact(zu _ _).alloc (Y _) _));have ju:=gq.trans ZP;have VG:=D6.but ZP Ep;have dW:(w:Nat)<=(Yj:Nat):=gq.size;have XM:(Yj:Nat)≠Q:=λe=>Le
   clear hW Er;have En:=yyx.but ZP VB;have Bu:(Yj:Nat)≠k5:=λe=>by have:=yyx.lt;omega
   obtain⟨k4,KL⟩:∃k,k=(Yj:Nat):=⟨_,rfl⟩;rw[<-KL]at Em dW XM|-
   rw[<-KL]at Bu;have VF:k4≠p:=J
   have HK4:=Z KL;clear KL;refine hK.out _ _ VG.c λ_=>?_;clear hK K;refine gU 1 (λK hK=>?_);go_simp;refine(Wt.o bw ju Bv.o).mono ?_;rintro e Pb ⟨hq,b7⟩;obtain⟨q0,ZY⟩:=zw (gF (t).tail);rw[ZY]at hq
   cases q0 with
   |none =>
    obtain rfl:=hq;refine⟨rfl,?_,ju.trans b7⟩;exact Pz
   |some q0 =>
    obtain⟨mv,t3⟩:=q0;have HN:=Z ZY;obtain⟨rfl,iT⟩:=hq;have GF:=Z iT;have b8:=ju.trans b7;have Yr:=VG.but b7 Ep;clear ZY;have VD:=Em.but b7 VF;have Qh:=En.but b7 VB;clear iT;refine hK.out _ _ Yr.c λ_=>?_;clear hK K;refine Qx (m:=#[true,true,true,true,true,false,false]) (by kernel_rfl) ?_;exact L Pb k4 k5 mv ⟨⟨t3,HN.o,GF.o⟩,b8,Yr,VD,Qh,dW,dA,J,VF,VB,XM,XN⟩):P:=h
def zk1(h:P:=by
 have HBB:=Z OM;clear OM;have hX1:=hX.below qI hg;have oL:=hB.KW qI (by intro q hq;cases hq;exact hgd);refine(yyv gd od n cap sc _ l _ hl hs PZ J oL).mono ?_;rintro e w2 ⟨⟨a1,cp1,rfl,ha1,hI⟩,qX⟩;obtain⟨nw,hnw⟩:∃k:Nat,k=n - sc:=⟨_,rfl⟩;obtain⟨lw,hlw⟩:∃k:List Int,k=l.take nw:=⟨_,rfl⟩;rw[<-hnw]at hI|-
 rw[<-hlw]at hI;have hlen:lw.length=nw:=by rw[hlw];simp;omega
 have hdw:∀x∈lw,0<=x/\x<=9:=λx hx=>hd x ylq
 have xf2:=IsBuilder.later ym1 qX;have EE:(w:Nat)+2<=(w2:Nat):=by have:=qX.size;omega
 have Wh:zR w w2:=qI.trans (qX.mono J);have hd0:zk w2 (w:Nat) 0 (.bool bb):=by rw[HBB.o,qX.cell (by simp;omega)];exact YU
 have Tw:zk w2 (w:Nat) 1 (.slice (zQ gd od) n cap):=by rw[qX.cell yF];exact VK
 have Ec:zk w2 (w:Nat) 2 sc:=by rw[qX.cell yF];exact XY
 clear YU VK XY ym1 qI oL hX1 qX xf3;have HNW:=Z hnw;have HLW:=Z hlw;have uf4:nw<=10000:=J
 have QI:=Z hlen;have HL:=Z hl;clear hnw hlw hlen hl;go_wp2;go_loopw [22] (λi wr=>∃k:Nat,k<=nw/\i = .int .i64 k/\xe 113 5 ((w:Nat)+1) ((w:Nat)+1) (yq (Es++VC gr fi ne ds lw k)) wr/\yE ((w:Nat)+1) w2 wr) (λi _=>nw - (intOf i).toNat)
 case atStart=>exact⟨0,J,rfl,by simpa[VC]using xf2,zu _ _⟩
 case round =>
  obtain⟨k,hk,rfl,iW,Et⟩:=hrel;have XO:zR w wr:=Wh.trans (Et.mono J);have hXr:=hX.below XO hg;have hIr:=hI.KW Et (by intro q hq;have:=ha1 q hq;omega);have hzr:(w:Nat)+2<=(wr:Nat):=by have:=Et.size;omega
  have Ke:(Es++VC gr fi ne ds lw k).length<=200000:=ylf
  by_cases uh:k<nw
  .have yl0:k<lw.length:=by rw[QI.o];exact uh
   obtain⟨q,rfl,dT⟩:=hIr k yl0;obtain⟨m,hm,yy9⟩:=Ko (hdw lw[k] (yf yl0));rw[hm]at dT;have hmd:m<ds.length:=zvf
   have hdm:=hXr.c7 m hmd;have c4:=hXr.c4;have oM:(nw:Int) - (k:Int)=((nw - k:Nat):Int):=J
   have QL:=Ij gr fi ne ds lw k;have zk2:B3 ds lw k=yi ds[m]:=yib
   rw[zk2,QI.o]at QL;have Vq:=Z QL;have oN:=hds ds[m] (yf hmd);have hxm:(0:Int)<=(m:Int):=J
   have xf4:m<10:=yy9;clear hm zk2 QL;by_cases iA:0<k
   .go_wp2_with fail;refine(Ww g mi po gr fi ne ds (nw - k) _ hXr J hfi gN vk2).mono ?_;rintro e w3 ⟨rfl,nq,rfl⟩;obtain⟨pb,hpb⟩:∃p,Ys gr fi ne (nw - k)=p:=⟨_,rfl⟩;rw[hpb];have ZR:=Vq.o;rw[hpb]at ZR;have xf6:decide (0<k)=true:=by simpa using iA
    rw[xf6,jd]at ZR;have Vk:=Z ZR;have xf7:=IsBuilder.later iW (below_drewN (zu _ _) nq);have hbq:=below_drewN (zu ((w:Nat)+1) wr) nq;have hdq:zk (wr.drewN nq) g (7+m) (.int .i32 ds[m]):=hdm;clear Vq ZR xf6 hpb
    cases pb
    .go_wp2_with fail;refine(Vw _ _ _ _ oN _ xf7 J (by simp;omega)).mono ?_;rintro e w4 ⟨⟨v,rfl⟩,Mf,VT⟩;have GD:xe 113 5 ((w:Nat)+1) ((w:Nat)+1) (yq (Es++VC gr fi ne ds lw (k+1))) w4:=by
      rw[Vk.o];simpa using Mf
     have hbf:=Et.trans (hbq.trans VT);go_wp2;go_roundw
     case rel=>exact⟨k+1,J,by go_num,GD,hbf⟩
     case measure=>simp[intOf];omega
    .go_wp2_with fail;refine(Vw _ _ _ _ PY _ xf7 J (by simp;omega)).mono ?_;rintro e w4 ⟨⟨v,rfl⟩,Mf,VT⟩;have xf8:=VT.size;have vk3:zk w4 g (7+m) (.int .i32 ds[m]):=by rw[VT.cell (by simp;omega)];exact hdq
     have vk4:(Es++VC gr fi ne ds lw k++yi gr).length<=300000:=yly
     go_wp2_with fail;refine(Vw _ _ _ _ oN _ Mf J (by simp at xf8;omega)).mono ?_;rintro e w5 ⟨⟨v5,rfl⟩,ym2,ZV⟩;have GD:xe 113 5 ((w:Nat)+1) ((w:Nat)+1) (yq (Es++VC gr fi ne ds lw (k+1))) w5:=by
      rw[Vk.o];simpa using ym2
     have hbf:=Et.trans (hbq.trans (VT.trans ZV));go_wp2;go_roundw
     case rel=>exact⟨k+1,J,by go_num,GD,hbf⟩
     case measure=>simp[intOf];omega
   .have vk5:k=0:=by omega
    subst vk5;clear iA;have ym3:wr.cell? q=some (.int .u8 m):=yl4
    have ZR:VC gr fi ne ds lw 1=VC gr fi ne ds lw 0++yi ds[m]:=zu5
    have Vk:=Z ZR;clear ZR dT Vq;go_wp2_with fail;refine(Vw _ _ _ _ oN _ iW J (by omega)).mono ?_;rintro e w4 ⟨⟨v,rfl⟩,Mf,VT⟩;have GD:xe 113 5 ((w:Nat)+1) ((w:Nat)+1) (yq (Es++VC gr fi ne ds lw 1)) w4:=by
     rw[Vk.o];simpa using Mf
    have hbf:=Et.trans VT;go_wp2;go_roundw
    case rel=>exact⟨1,J,by go_num,GD,hbf⟩
    case measure=>simp[intOf];omega
  .have hk':k=nw:=by omega
   subst hk';clear hIr hI uh;have he0:zk wr (w:Nat) 0 (.bool bb):=by rw[Et.cell zV];exact hd0
   have he1:zk wr (w:Nat) 1 (.slice (zQ gd od) n cap):=by rw[Et.cell zV];exact Tw
   have TI:zk wr (w:Nat) 2 sc:=by rw[Et.cell zV];exact Ec
   have hBr:=hB.KW XO (by intro q hq;cases hq;exact hgd);go_wp2_with fail;refine(zk3 gd od n cap sc _ l _ HL.o hs PZ J hBr).mono ?_;rintro e w3 ⟨⟨a2,cp2,rfl,ha2,hF⟩,dE⟩;rw[<-HNW.o]at hF;obtain⟨lf,hlf⟩:∃x:List Int,x=l.drop k:=⟨_,rfl⟩;rw[<-hlf]at hF;have hlen:lf.length=sc:=by rw[hlf];simp;have:=HL.o;have:=HNW.o;omega
   have ED:∀x∈lf,0<=x/\x<=9:=λx hx=>hd x ylk
   have xf9:=IsBuilder.later iW dE;have Th:(w:Nat)+2<=(w3:Nat):=by have:=dE.size;omega
   have vk6:zR w w3:=XO.trans (dE.mono J);obtain⟨oO,ym4⟩:∃x:List UInt8,x=Es++VC gr fi ne ds lw k:=⟨_,rfl⟩;rw[<-ym4]at xf9 Ke;have HLF:=Z hlf;have HFN:=Z hlen;have HA1:=Z ym4;clear hlf hlen ym4 iW dE he0 he1 TI hd0 Tw Ec Et XO hXr hzr hBr xf2 Wh EE;have hsc:sc<=10000:=by omega
   go_wp2;go_loopw [53] (λi wr=>∃k:Nat,k<=sc/\i = .int .i64 k/\xe 113 5 ((w:Nat)+1) ((w:Nat)+1) (yq (oO++fS po ds lf k)) wr/\yE ((w:Nat)+1) w3 wr) (λi _=>sc - (intOf i).toNat)
   case atStart=>exact⟨0,J,rfl,by simpa[fS]using xf9,zu _ _⟩
   case round =>
    obtain⟨j,hj,rfl,iW,Et⟩:=hrel;have XO:zR w wr:=vk6.trans (Et.mono J);have hXr:=hX.below XO hg;have hFr:=hF.KW Et (by intro q hq;have:=ha2 q hq;omega);have hzr:(w:Nat)+2<=(wr:Nat):=by have:=Et.size;omega
    have ym5:(oO++fS po ds lf j).length<=400000:=by have:=Ig po ds lf j;simp;omega
    by_cases uh:j<sc
    .have yl2:j<lf.length:=by rw[HFN.o];exact uh
     obtain⟨q,rfl,dT⟩:=hFr j yl2;obtain⟨m,hm,yy9⟩:=Ko (ED lf[j] (yf yl2));rw[hm]at dT;have hmd:m<ds.length:=zvf
     have hdm:=hXr.c7 m hmd;have c3:=hXr.c3;have QL:=Bq po ds lf j;have zk2:B3 ds lf j=yi ds[m]:=yl1
     rw[zk2]at QL;have Vq:=Z QL;have oN:=hds ds[m] (yf hmd);have hxm:(0:Int)<=(m:Int):=J
     have xf4:m<10:=yy9;clear hm zk2 QL;by_cases hj0:j=0
     .subst hj0;have ym3:wr.cell? q=some (.int .u8 m):=by rw[show q.add 0=q by unfold fG;simp]at dT;exact dT
      have ZR:fS po ds lf 1=fS po ds lf 0++(yi po++yi ds[m]):=zu5
      have Vk:=Z ZR;clear ZR dT Vq;go_wp2_with fail;refine(Vw _ _ _ _ hpo _ iW J (by omega)).mono ?_;rintro e w4 ⟨⟨v,rfl⟩,Mf,VT⟩;have xf8:=VT.size;have vk3:zk w4 g (7+m) (.int .i32 ds[m]):=by rw[VT.cell (by simp;omega)];exact hdm
      have vk4:(oO++fS po ds lf 0++yi po).length<=500000:=ylx
      go_wp2_with fail;refine(Vw _ _ _ _ oN _ Mf J (by omega)).mono ?_;rintro e w5 ⟨⟨v5,rfl⟩,ym2,ZV⟩;have GD:xe 113 5 ((w:Nat)+1) ((w:Nat)+1) (yq (oO++fS po ds lf 1)) w5:=by
       rw[Vk.o];simpa using ym2
      have hbf:=Et.trans (VT.trans ZV);go_wp2;go_roundw
      case rel=>exact⟨1,J,by go_num,GD,hbf⟩
      case measure=>simp[intOf];omega
     .have uf6:((j:Int)==0)=false:=by simpa using hj0
      have ZR:fS po ds lf (j+1)=fS po ds lf j++yi ds[m]:=yl5
      have Vk:=Z ZR;clear ZR Vq;go_wp2_with fail;refine(Vw _ _ _ _ oN _ iW J (by omega)).mono ?_;rintro e w4 ⟨⟨v,rfl⟩,Mf,VT⟩;have GD:xe 113 5 ((w:Nat)+1) ((w:Nat)+1) (yq (oO++fS po ds lf (j+1))) w4:=by
       rw[Vk.o];simpa using Mf
      have hbf:=Et.trans VT;go_wp2;go_roundw
      case rel=>exact⟨j+1,J,by go_num,GD,hbf⟩
      case measure=>simp[intOf];omega
    .have hj':j=sc:=by omega
     subst hj';clear hFr hF uh;have GD:oO++fS po ds lf j=Vm bb l j mi po gr fi ne ds:=yig
     rw[HBB.o]at GD;have XD:=Z GD;clear GD;go_wp2_with fail;refine(Tryz.Builder_String_any _ _ _ _ iW J).mono ?_;rintro e w5 ⟨rfl,ZV⟩;go_wp2;go_ret;exact⟨by rw[<-XD.o];rfl,XO.trans (ZV.mono (by omega))⟩):P:=h
def A1(h:P:=by
 have HL:=HLK;have HS:=HSK;have D5:=A2;clear HLK HSK A2;obtain⟨Jk,hJ⟩:=zw (xx rs j);rw[hJ]at HT;have HJ:=Z hJ;clear hJ;refine(jn p rs j d Xk HS.out).mono ?_;rintro e x1 ⟨rfl,Vu,Dt⟩;rw[HJ.o]at Vu;have qI:=D5.trans Dt;have KM:=Z Vu;have PX:=Z (HL.out.but Dt J);have g5:=Vu.at_;clear Vu Dt HJ HL HS D5;go_wp2_with fail;refine(ZS p rs Jk d 123 x1 KM.o (by decide)).mono ?_;rintro e x2 ⟨hq,dH⟩;have qX:=qI.trans dH;have HL2:=Z (PX.o.but dH (by omega));clear g5;by_cases hw:yz rs Jk=123
 .rw[yK hw]at hq;obtain⟨rfl,Yt⟩:=hq;have dw:=Z Yt;have g6:=Yt.deep;have Ee:=Z (show R=Kp rs msg A3 K i Jk (Jk+1)by rw[HT.o];unfold ua;rw[yK hw];rfl);clear Yt hw HT
  cases msg with
  |none =>
   exact xg3
  |some m =>
   have iB:d≠6:=λe=>ylz
   have uf7:((d:Int)==6)=false:=yF
   have ie:=HMC.o m rfl A3 (Jk+1) x2 dw.o (oP.o.but qX);obtain⟨r,hr⟩:=zw (m A3 (Jk+1));rw[hr]at ie;rw[PV]at ie;have Bk:=Z ie;have HT3:=Z (show R=r.then λf q=>(ua rs 125 q).then λ_ z => .ok (.xi K i f .nil,xx rs z)by rw[Ee.o,<-hr];rfl);clear ie hr Ee;go_wp2_with fail;refine Bk.o.mono ?_;rintro e x3 ⟨hq,hx3⟩;have dE:=qX.trans hx3;have HL3:=Z (HL2.o.but hx3 J)
   cases r with
   |error en =>
    exact xgz
   |ok fq =>
    obtain⟨f,q⟩:=fq;obtain⟨⟨ma,mc,rfl,vs,Yx,D8⟩,oI,hs3⟩:=hq;obtain⟨wN,Yy,Gb,PU⟩:=hdd (show R=(ua rs 125 q).then λ_ z => .ok (.xi K i f .nil,xx rs z)from HT3.o) Yx D8 hs3;have z2:=HL3.o.z 2;have q2:=HL3.o.c2;have HSK:=Z (PU.o.own (B:=B) J 2 (.slice ma f.len mc));have HLK:=Z (HL3.o.vk9 (u := .slice ma f.len mc));have A2:xN p w (x3.setCell (zQ B 2) (.slice ma f.len mc)):=dE.own (by have:=HB.o;omega) 2 _;obtain⟨Yk,hY⟩:=zw (x3.setCell (zQ B 2) (.slice ma f.len mc));rw[hY]at HSK HLK A2;have HY:=Z hY;clear Yx D8 hs3 HT3 Bk hY;go_wp2_with fail;rw[HY.o];refine(ZS p rs q d 125 Yk HSK.o (by decide)).mono ?_;rintro e x4 ⟨hq,hx4⟩;have VT:=A2.trans hx4;have HL4:=Z (HLK.o.but hx4 (by omega));by_cases hw:yz rs q=125
    .rw[yK hw]at hq;obtain⟨rfl,Ow⟩:=hq;have Iu:=Z Ow;obtain⟨J2,hJ2⟩:=zw (xx rs (q+1));have HT5:=Z (show R = .ok (.xi K i f .nil,J2)by rw[wN.o,<-hJ2];show(ua rs 125 q).then _=_;unfold ua;rw[yK hw];rfl);have HJ2:=Z hJ2;clear Ow hw hJ2 wN;go_wp2_with fail;refine(jn p rs (q+1) d x4 Iu.o).mono ?_;rintro e x5 ⟨rfl,hs5,hx5⟩;rw[HJ2.o]at hs5;have ZV:=VT.trans hx5;have A4:=Z (HL4.o.but hx5 J);have we:=Z hs5;have k0:=A4.o.c0;have k1:=A4.o.c1;have k2:=A4.o.c2;have y0:=A4.o.z 0;have y1:=A4.o.z 1;have y2:=A4.o.z 2;clear hs5;have Bj:B<(x2:Nat):=X _ _ HL2.o.c0;have HKP:=Z (((((((vH (lo:=(x2:Nat)) (Y (x3:Nat))).put Bj 2 (.slice ma f.len mc))).but (by rw[HY.o];exact hx4) (by omega)).but hx5 (by omega)).put Bj 0 (zO K)).put Bj 1 i |>.put Bj 2 (.slice ma f.len mc));have HBF:=Z (((ZV.own (B:=B) (by have:=HB.o;omega) 0 (zO K)).own (B:=B) (by have:=HB.o;omega) 1 i).own (B:=B) (by have:=HB.o;omega) 2 (.slice ma f.len mc));have HSF:=Z (((we.o.own hpB 0 (zO K)).own hpB 1 i).own hpB 2 (.slice ma f.len mc));go_wp2;rw[HT5.o];refine yU (v := .agg #[zO K,i,.slice ma f.len mc]) ?_ rfl ?_
     .exact yl7
     exact xg9
    .exact xg2
 .exact xg4):P:=h
def zk6(h:P:=by
 intro v5 w5 XP U0 _;have hBg:some B≠(ux (g2,0) (xU r).length GJ).ownBlock:=λe=>ylg
 have hqg:some q≠(ux (g2,0) (xU r).length GJ).ownBlock:=λe=>yld
 have xfz:some (B+1)≠(ux (g2,0) (xU r).length GJ).ownBlock:=λe=>ylj
 have PK:0<(xU r).length+x.2.length:=ylu
 obtain⟨g5,Kr,rfl,ufy,ufx,_⟩:=xY XP PK;have b0:=U0.cell a0 hBg;have b1:=U0.cell a1 hBg;have b2:=U0.cell a2 hBg;have r0:=U0.cell p0 hqg;have r1:=U0.cell p1 hqg;have r2:=U0.cell p2 hqg;have hq4:q<(w4:Nat):=X w4 _ p0;have f0:=(zU (a:=(q,0)) (U0.block q hq4 hqg)).trans x0;have f1:=(zU (a:=(q,1)) (U0.block q hq4 hqg)).trans x1;have f2:=(zU (a:=(q,2)) (U0.block q hq4 hqg)).trans x2;have hr5:=Eh.grown U0 xfz;have xfy:zR w w5:=Ea.grown U0 Ea.size (λk hk=>yl9);have ufv:B+1<q:=by have:=yby.o;have:=HBq.o;have:=HQ.o;omega
 have hBw:(w:Nat)<=B:=by have:=HBq.o;omega
 simp only[Act.put,Qm,List.set_cons_zero,List.set_cons_succ];refine hK.out _ _ ⟨b0,b1,b2⟩ λ_=>?_;clear hK K a0 a1 a2 p0 p1 p2 x0 x1 x2 Eh Ea B8 hB4 U0 hBg hqg xfz hi hz;refine Ve [7] 3 ⟨b0,b1,b2⟩ ?_;refine gU 8 (λK hK=>?_);go_simp;have ufu:¬q=B:=J
 refine hK.out _ _ ⟨by rw[yO (h:=by first|(simp;done)|(simp;omega))];exact b0,by rw[yO (h:=by first|(simp;done)|(simp;omega))];exact b1,by rw[yO (h:=by first|(simp;done)|(simp;omega))];exact b2⟩ λ_=>?_;clear hK K;have t0:zk (w5.setCell (zQ q 1) (.slice (zQ g5 0) ((xU r).length+x.2.length) Kr)) q 0 (.bool false):=by rw[yO (h:=zV)];exact r0
 have t1:zk (w5.setCell (zQ q 1) (.slice (zQ g5 0) ((xU r).length+x.2.length) Kr)) q 1 (.slice (zQ g5 0) ((xU r).length+x.2.length) Kr):=by rw[qY (h:=r1)]
 have t2:zk (w5.setCell (zQ q 1) (.slice (zQ g5 0) ((xU r).length+x.2.length) Kr)) q 2 (.int .i64 0):=by rw[yO (h:=zV)];exact r2
 have u2:(w5.setCell (q,1) (.slice (g5,0) ((xU r).length+x.2.length) Kr)).frozen? (q,2)=false:=by simpa using f2
 have c0:zk (w5.setCell (zQ q 1) (.slice (zQ g5 0) ((xU r).length+x.2.length) Kr)) B 0 (.bool b):=by rw[yO (h:=iG)];exact b0
 have c1:zk (w5.setCell (zQ q 1) (.slice (zQ g5 0) ((xU r).length+x.2.length) Kr)) B 1 (.slice (zQ g go) (x.1.length+x.2.length) cap):=by rw[yO (h:=iG)];exact b1
 have c2:zk (w5.setCell (zQ q 1) (.slice (zQ g5 0) ((xU r).length+x.2.length) Kr)) B 2 (.int .i64 x.2.length):=by rw[yO (h:=iG)];exact b2
 have Ks:=hr5.set (a:=(q,1)) zuv (.slice (g5,0) ((xU r).length+x.2.length) Kr);have oB:=xfy.setCell (p:=(q,1)) (show (w:Nat)<=q by omega) (.slice (g5,0) ((xU r).length+x.2.length) Kr);have xfx:g5≠q:=λe=>by
  subst e;exact Md XP (Qy r) r0
 have G8:=vz (p:=(zQ q 1)) XP (λe=>xfx (by simpa[yA,eq_comm]using e)) (.slice (zQ g5 0) ((xU r).length+x.2.length) Kr);clear b0 b1 b2 r0 r1 r2 f0 f1 f2 hr5 xfy XP;generalize w5.setCell (zQ q 1) (.slice (zQ g5 0) ((xU r).length+x.2.length) Kr)=w6 at *;refine Ve [9] 1 ⟨c0,c1,c2⟩ ?_;refine gU 10 (λK hK=>?_);go_simp;refine hK.out _ _ ⟨by rw[yO (h:=by first|(simp;done)|(simp;omega))];exact c0,by rw[yO (h:=by first|(simp;done)|(simp;omega))];exact c1,by rw[yO (h:=by first|(simp;done)|(simp;omega))];exact c2⟩ λ_=>?_;clear hK K;have d0:zk (w6.setCell (zQ q 2) (.int .i64 x.2.length)) q 0 (.bool false):=by rw[yO (h:=zV)];exact t0
 have d1:zk (w6.setCell (zQ q 2) (.int .i64 x.2.length)) q 1 (.slice (zQ g5 0) ((xU r).length+x.2.length) Kr):=by rw[yO (h:=zV)];exact t1
 have d2:zk (w6.setCell (zQ q 2) (.int .i64 x.2.length)) q 2 (.int .i64 x.2.length):=by rw[qY (h:=t2)]
 have PJ:=Ks.set (a:=(q,2)) zuv (.int .i64 x.2.length);have yy0:=oB.setCell (p:=(q,2)) (show (w:Nat)<=q by omega) (.int .i64 x.2.length);have ho7:=vz (p:=(q,2)) G8 (λe=>xfx (by simpa[yA,eq_comm]using e)) (.int .i64 x.2.length);clear t0 t1 t2 u2 c0 c1 c2 Ks oB G8;generalize w6.setCell (q,2) (.int .i64 x.2.length)=w7 at *;refine Y5 ?_ _;have e0:=PJ.c0;have e1:=PJ.c1;have e2:=PJ.c2;have z0:=PJ.z0;have z1:=PJ.z1;have z2:=PJ.z2;have HO7:=Z ho7;have HR7:=Z PJ;clear ho7 PJ;go_wp2;refine yU (v := .agg #[.bool false,.slice (g5,0) ((xU r).length+x.2.length) Kr,.int .i64 x.2.length]) ?_ rfl ?_
 .simp[yN,results168,go_sem,e0,e1,e2]
 rw[<-HR.o];refine GB (w:=w) ?_ HR7.o J yy0;have hdd:vu (xU r)++vu x.2=vu (xU r++x.2):=by simp[vu]
 have ho8:=HO7.o;rw[hdd]at ho8;have Z0:=jN 9 r J;exact Kt (w:=w) (x:=(xU r,x.2)) rfl (by simp) (bL ho8 (by omega)) ⟨Kh r,HO.o.zk8,Qy r,by show(xU r).length<=100;omega,hl2⟩):P:=h
def ym8(h:P:=by
 rintro Pb k4 k5 mv ⟨⟨t3,ZY,hp3⟩,b8,Yr,VD,Qh,dW,dA,ybk,VF,VB,XM,XN⟩;have HN:=Z ZY;have hmv:=(dh ZY).1;have oM:=U1 ZY;have GF:=Z hp3;clear ZY hp3;refine gU 5 (λK hK=>?_);have y4:=VD.c;have y4z:=VD.z;go_simp;refine hK.out _ _ (Yr.other (j:=k4) XM.symm _).c λ_=>?_;clear hK K y4 y4z;have c4S:=VD.same mv;have c5S:=Qh.other (j:=k4) ybk.symm mv;have cQS:=Yr.other (j:=k4) XM.symm mv;have ybj:=b8.put dW mv;have HPS:=Z (GF.o.put VF VD.n mv);generalize Pb.setCell (k4,0) mv=wS at c4S c5S cQS ybj HPS|-
 refine gU 6 (λK hK=>?_);have y5:=c5S.c;have y5z:=c5S.z;go_simp;refine hK.out _ _ (cQS.other (j:=k5) XN.symm _).c λ_=>?_;clear hK K y5 y5z;have c4T:=c4S.other (j:=k5) ybk (.func (.func kf) #[] KN);have c5T:=c5S.same (.func (.func kf) #[] KN);have cQT:=cQS.other (j:=k5) XN.symm (.func (.func kf) #[] KN);have zx0:=ybj.put dA (.func (.func kf) #[] KN);have HPT:=Z (HPS.o.put VB c5S.n (.func (.func kf) #[] KN));generalize wS.setCell (k5,0) (.func (.func kf) #[] KN)=wT at c4T c5T cQT zx0 HPT|-
 refine Y5 ?_ _;have y4:=c4T.c;have yQ:=cQT.c;have yQz:=cQT.z;by_cases hm0:mv=0
 .exact xgv
 .have hmz:((mv:Int)==0)=false:=by simp;omega
  have hre:VJ (c::t)=match qy t3 with
    |none=>none
    |some ((i,nt),v)=>some ((λx=>i (oR F mv x) !=nt),v):=by
   rw[VJ,HO.o];dsimp only;unfold Py;rw[HM.o,yK rfl,HN.o];simp only[yv hm0];rfl
  have HRE:=Z hre;have Q9:0<mv:=J
  clear hre hm0;have cU:=cQT.same (.func (.func 167) #[] #[(k5,0),(k4,0)]);have PG:=zx0.put (show (w:Nat)<=Q by have:=HQ.o;omega) (.func (.func 167) #[] #[(k5,0),(k4,0)]);have HPU:=Z (HPT.o.put Ep cQT.n (.func (.func 167) #[] #[(k5,0),(k4,0)]));have c4U:=c4T.other (j:=Q) XM (.func (.func 167) #[] #[(k5,0),(k4,0)]);have c5U:=c5T.other (j:=Q) XN (.func (.func 167) #[] #[(k5,0),(k4,0)]);go_wp2_with fail;generalize wT.setCell (Q,0) (.func (.func 167) #[] #[(k5,0),(k4,0)])=wU at cU PG HPU c4U c5U|-
  have hFU:OpR (w:Nat) (wU:Nat) wU (.func (.func 167) #[] #[(k5,0),(k4,0)]) (oR F mv) :=
   ⟨167,_,rfl,λargs w=>enters_of func167 yg rfl args w,λW hW nv x hx =>
    zk9 nv x k5 k4 _ mv F 0 0 W hx hmv Q9 ((hW.cell (p:=(k5,0)) dA c5U.lt).trans c5U.c) ((hW.cell (p:=(k4,0)) dW c4U.lt).trans c4U.c) (HFV.o 0 0 W) (zJ _)⟩
  have HFU:=Z hFU;have cQ:=cU;clear hFU y4 yQ yQz;have ym9:=Z (PF p (t3) wU HPU.o (λx h=>HX.o x (uj _ (xh (oM.mem x h)))) (HT.o.but PG) (by have hz1:=oM.len;have EE:(t).tail.length<=(t).length:=zV;omega));go_wp2_with fail;refine ym9.o.mono ?_;rintro e w7 ⟨hq,XZ⟩;have QC:=PG.trans XZ;have TL:r=match qy (t3) with
    |none=>none
    |some ((i,nt),v)=>some ((λx=>i ((oR F mv) x) !=nt),v):=by
   rw[<-HR.o];exact HRE.o
  cases hn:qy (t3) with
  |none =>
   exact ydu
  |some q =>
   obtain⟨⟨Tm,nt⟩,t'⟩:=q;rw[hn]at hq TL;obtain⟨⟨v,rfl,htm⟩,hp7⟩:=hq;have VW:=Z TL;have HTM:=Z htm;have HP7:=Z hp7;have cQ7:=cQ.but XZ Ep;have hQ7:=cQ7.lt;have HF7:=Z (OpR.keep (lo':=(w:Nat)) (hi':=(w7:Nat)) HFU.o (XZ.keep uh (Y _)) (Y _) XZ.size);obtain⟨kt,cpt,rfl,_⟩:=htm;clear TL hn hp7;go_wp2;go_ret;have hbA:=QC.alloc (.cells #[.func (.func kt) #[] cpt] 177);have hbB:=hbA.alloc (.cells #[.bool nt] 4);have hsA:(w7.alloc (.cells #[.func (.func kt) #[] cpt] 177)).heap.size=(w7:Nat)+1:=zV
   have hsB:((w7.alloc (.cells #[.func (.func kt) #[] cpt] 177)).alloc (.cells #[.bool nt] 4)).heap.size=(w7:Nat)+2:=zV
   have zkz:yE w7 w7 ((w7.alloc (.cells #[.func (.func kt) #[] cpt] 177)).alloc (.cells #[.bool nt] 4)):=((zu _ _).alloc (Y _) _).alloc (by simp) _;refine⟨?_,hbB⟩;rw[VW.o];have hQw:=HQ.o;have hw7:=QC.size;refine⟨⟨_,rfl,170,_,rfl,λargs w=>enters_of func170 (by kernel_rfl) rfl args w,λW hW nv x hx=>?_⟩,HP7.o.below zkz⟩;rw[hsB]at hW;have il:vx w.heap.size (w7:Nat) w7 W:=hW.via (vY zkz (Y _) (Y _)) (Y _) J;refine PD nv x _ _ _ _ _ nt Tm ((oR F mv)) w.heap.size (w7:Nat) W hx ((hW.cell ?_ ?_).trans ?_) ((il.cell ?_ hQ7).trans cQ7.c) ((hW.cell ?_ ?_).trans ?_) (HTM.o.keep (il.via (vH (Y _)) (by have:=PG.size;omega) (Y _)) (by have:=PG.size;omega) (Y _)) (HF7.o.keep il (Y _) (Y _)) il.1;all_goals first|(show w.heap.size<=(w7:Nat);omega)|(show (w7:Nat)<(w7:Nat)+2;omega)|(show w.heap.size<=(w7:Nat)+1;omega)|(show (w7:Nat)+1<(w7:Nat)+2;omega)|(show w.heap.size<=Q;omega)|(go_simp;done)):P:=h
def zky(h:P:=by
 obtain⟨r,hr⟩:=zw (bM rs msg NB j);rw[hr]at ht;obtain⟨Bk,Iy,HLT,Yh,xd1⟩:=G0 (λW hs hE=>(hr▸HBR.o NB j W hs hE:zE prog 178 #[(zQ p 0),.bool NB] W (xd3 p rs d r W))) ht (λf q (e:r = .ok (f,q))=>im hu.o (hr.trans e)) (HGR.o.but (xN.of (p:=p) qI) J) (oP.o.but D5);have hw1:=qI.size;have hN:=Z hn';clear ht hr hn';go_wp2_with fail;refine Dp (λW':z8=>zk W' C 4 (.slice ga acc.len gc)) 13 [0,1,2,3,4,5,6,7] 6 HB1.o.c4 ?_;refine dF 8 (λK hK=>?_);go_simp;rw[vj0.o];refine(Bk.o w1.drew (KM.o.below (zu _ _).drew) (xd1.o.but (xN.refl _ _).drew)).mono ?_;rintro e w2 ⟨hq,dH⟩;have dH:xN p w1 w2:=(xN.refl p w1).drew.trans dH;have Qr:=D5.trans dH
 cases r with
 |error en =>
  exact xgu
 |ok fq =>
  obtain⟨f,q⟩:=fq;obtain⟨⟨k,pl,m,ma,mc,hf,rfl,Ew,vs,Yx,D8⟩,Yt⟩:=hq;obtain⟨Yy,Gb,dw,oS,Kw,Ee⟩:=ED Yx D8 Yt (HB1.o.but dH J) (Yh.o.but dH (by omega)) (show R=(qx rs msg NB n' (acc.app f) q).then G from Iy.o);have hjq:=HLT.o f q rfl;have HF:=Z hf;have HMM:=Z Ew;have xd4:=Yt.here;have hwx:=dH.size;have q4':=oS.o.c4;clear Yx D8 Yt dH hf HLT Iy Ew Bk;refine hK.out _ _ oS.o.c4 λ_=>?_;clear hK K;refine dF 9 (λK hK=>?_);go_simp;have q43:=(oS.o.but (xN.of (p:=p) ((zu (w2:Nat) w2).alloc (Y _) (.cells #[zO k,pl,.slice ma m.len mc] 221))) (by omega)).c4;refine hK.out _ _ q43 λ_=>?_;clear q43;clear hK K;have dE:yE w2 w2 (w2.alloc (.cells #[zO k,pl,.slice ma m.len mc] 221)):=(zu _ _).alloc (Y _) _;have HC3:=Z (λi=>zZ w2 #[zO k,pl,.slice ma m.len mc] 221 (0,0) i);obtain⟨w3,hw3⟩:=zw (w2.alloc (.cells #[zO k,pl,.slice ma m.len mc] 221));rw[hw3]at dE HC3|-
  have HB3:=Z (oS.o.but (xN.of (p:=p) dE) J);have PU:=Z (dw.o.below dE);have vj2:=Z (Kw.o.but (xN.of (p:=p) dE) (by omega));have H7:=Qr.below dE;have yyf:=dE.size;have zkv:acc.len<=2000000:=by
   have:=xd5.o;have:=HH.o.len;omega
  clear hw3;refine dF 10 (λK hK=>?_);rw[yK (by rfl)];refine yyd PC _ _ rfl (C+1) (w1:Nat) _ acc f ws rfl vj2.o ⟨(w2:Nat),0,none⟩ 1 1 [zO k,.int .i64 pl,.slice ma m.len mc] rfl rfl ?c1 ?c2 ?c3 J ?c4 (by rw[HF.o];rfl) (by omega) (by omega) ?c5
  case c1 =>
   intro jj u hu;rw[ve,HC3.o];simpa using hu
  case c2 =>
   intro u hu;simp at hu;rcases hu with rfl|rfl|rfl<;>rfl
  case c3 =>
   exact xgx
  case c4 =>
   intro kk oT;exact(Yh.o.lt kk oT).2
  case c5 =>
   intro v' w4 VA PY;have A5:=Z VA;have oW:=Z (λkk oT=>(Yh.o.lt kk oT).1);have EC:=Z (HB3.o.grown PY (λe=>by have:=oW.o C e.symm;omega));have Iu:=Z (PU.o.grown PY (λq hq=>by have:=oW.o q hq;omega));have A6:=H7.grown PY (λq hq=>by have:=oW.o q hq;omega);have ufb:=PY.size;obtain⟨ga',gc',hv',_⟩:=VA.row;subst hv';clear VA PY;refine hK.out _ _ EC.o.c4 λ_=>?_;clear hK K;have q44:=EC.o.c4;have z44:=EC.o.z 4;refine jM [11,12] 1 rfl (by intro _ _ d _ _ h;cases d<;>exact h) yg (by kernel_rfl) EC.o.c4 ?_;(iterate 2 ((first|refine ty ?_|refine tn ?_);try simp only[pl]))
   refine yW ?_;refine D0 13 (λK hK=>?_);go_simp;refine hK.out _ _ ?_;clear hK K;refine D1 ?_ _;go_wp2;go_roundw
   case rel =>
    refine⟨acc.app f,q,n',_,_,Iu.o.own hpC 4 _,A6.own hwC 4 _,EC.o.vj5,A5.o.but (xN.set C _ 4 _) J,Fo.gi _ _ HLG.o (by rw[HF.o];rfl),Ee.o,by have:=hN.o;omega,?_⟩;rw[Fo.jE,show f.len=1 by rw[HF.o];rfl];have:=xd5.o;omega
   case measure =>
    rw[kx (Iu.o.own hpC 4 _),kx HSR.o];omega):P:=h
def zku(h:P:=by
 have zyy:bI n (acc++[c::t.take m]) (t.drop m)=r:=xg7
 have yi7:=Z zyy;have dH:u.extract (m+1) u.size=⟨(t.drop m).toArray⟩:=yif
 have Dt:u.extract 0 (m+1)=⟨(c::t.take m).toArray⟩:=yid
 have HX1:=Z Dt;have HX2:=Z dH;clear zyy Dt dH;go_wp2_with (at_builtin;refine jx fX rfl _ _ rfl (w:Nat) _ _ _ rfl (HO.o.alloc _) ⟨(wr:Nat),0,none⟩ 1 1 [.string (u.extract 0 (m+1))] rfl rfl (by exact cells_one (zZ _ _ _ _ _)) (by first|rfl|(intro x hx;simp at hx;subst hx;rfl)) J (by have:=hb.size;simp;omega) ?_);intro ir w5 XP U0;have ZV:zR w w5:=(hb.alloc hb.size _).grown U0 (by have:=hb.size;simp;omega) (λq hq=>(HO.o.lt q hq).1);obtain⟨a5,c5,rfl⟩:=zo XP;rw[HX1.o]at XP;have oA:=Z XP;clear XP U0;go_wp2;rw[HX2.o];go_roundg n
 case measure=>omega
 case rel=>exact⟨acc++[c::t.take m],t.drop m,rfl,by simpa using oA.o,ZV,by simp at Z9|-;omega,xg8,yi7.o⟩):P:=h
def ymx(h:P:=by
 have KO:=iO.o;rw[hm]at KO;have HQ2:=Z KO;have HM:=Z hm;clear KO hm;have cQ:=cQ2;obtain⟨Q,hQ⟩:∃Q,Q=(w:Nat):=⟨_,rfl⟩;rw[<-hQ]at cQ cQ2 Ep|-
 have HQ:=Z hQ;clear hQ;have ym9:=Z (PF p (t) w2 HQ2.o (λx h=>HX.o x (by simp[h])) (HT.o.but PE) J);go_wp2_with fail;refine ym9.o.mono ?_;rintro e w7 ⟨hq,XZ⟩;have QC:=PE.trans XZ;have TL:r=match qy (t) with
   |none=>none
   |some ((i,nt),v)=>some ((λx=>i (F x) !=nt),v):=by
  rw[<-HR.o];rw[VJ,HO.o];dsimp only;unfold Py;rw[HM.o];rfl
 cases hn:qy (t) with
 |none =>
  exact ydu
 |some q =>
  obtain⟨⟨Tm,nt⟩,t'⟩:=q;rw[hn]at hq TL;obtain⟨⟨v,rfl,htm⟩,hp7⟩:=hq;have VW:=Z TL;have HTM:=Z htm;have HP7:=Z hp7;have cQ7:=cQ.but XZ Ep;have hQ7:=cQ7.lt;have HF7:=Z (OpR.keep (lo':=(w:Nat)) (hi':=(w7:Nat)) (HFV.o (w:Nat) (w2:Nat) w2) (XZ.keep uh (Y _)) (Y _) XZ.size);obtain⟨kt,cpt,rfl,_⟩:=htm;clear TL hn hp7;go_wp2;go_ret;have hbA:=QC.alloc (.cells #[.func (.func kt) #[] cpt] 177);have hbB:=hbA.alloc (.cells #[.bool nt] 4);have hsA:(w7.alloc (.cells #[.func (.func kt) #[] cpt] 177)).heap.size=(w7:Nat)+1:=zV
  have hsB:((w7.alloc (.cells #[.func (.func kt) #[] cpt] 177)).alloc (.cells #[.bool nt] 4)).heap.size=(w7:Nat)+2:=zV
  have zkz:yE w7 w7 ((w7.alloc (.cells #[.func (.func kt) #[] cpt] 177)).alloc (.cells #[.bool nt] 4)):=((zu _ _).alloc (Y _) _).alloc (by simp) _;refine⟨?_,hbB⟩;rw[VW.o];have hQw:=HQ.o;have hw7:=QC.size;refine⟨⟨_,rfl,170,_,rfl,λargs w=>enters_of func170 (by kernel_rfl) rfl args w,λW hW nv x hx=>?_⟩,HP7.o.below zkz⟩;rw[hsB]at hW;have il:vx w.heap.size (w7:Nat) w7 W:=hW.via (vY zkz (Y _) (Y _)) (Y _) J;refine PD nv x _ _ _ _ _ nt Tm (F) w.heap.size (w7:Nat) W hx ((hW.cell ?_ ?_).trans ?_) ((il.cell ?_ hQ7).trans cQ7.c) ((hW.cell ?_ ?_).trans ?_) (HTM.o.keep (il.via (vH (Y _)) (by have:=PE.size;omega) (Y _)) (by have:=PE.size;omega) (Y _)) (HF7.o.keep il (Y _) (Y _)) il.1;all_goals first|(show w.heap.size<=(w7:Nat);omega)|(show (w7:Nat)<(w7:Nat)+2;omega)|(show w.heap.size<=(w7:Nat)+1;omega)|(show (w7:Nat)+1<(w7:Nat)+2;omega)|(show w.heap.size<=Q;omega)|(go_simp;done)):P:=h
def zkq(h:P:=by
 have Iu:=Z (PU.o.grown Qw (λk hk=>zyj));have A6:=H7.grown Qw (λk hk=>by have:=uW k hk;omega);have PB4:=Qw.cell PB3 (λe=>by have:=uW B e.symm;omega);have A5:=Z VA;obtain⟨ga',gc',rfl,_⟩:=VA.row;clear VA Qw uW;go_wp2;go_roundw
 case rel=>exact⟨acc.app (.text t .nil),q,n',_,Iu.o,A6,PB4,A5.o,(Fo.kN _ _ HM.o rfl),Ee.o,by have:=HN.o;omega,by have:=HN.o;omega,by rw[Fo.jE,(show Fo.len (.text t .nil)=1 from rfl)];omega,λs e=>by rw[gD _ zV acc]at e;cases e;omega⟩
 case measure =>
  exact zx4):P:=h
def zkk(h:P:=by
 go_wp2_with fail;refine HTX.o.mono ?_;rintro e w2 ⟨rfl,Yt,dH⟩;have Qr:=H8.trans dH;have If:zk w2 B 0 (p,0):=dH.cell PB1 (by show B≠p;omega);have Kw:=Z (Yh.o.but dH J);have dw:=Z Yt;have Ka:=dH.size;have hlc:zk w2 g (acc.len - 1) (.iface 206 (zO s)):=dH.cell yx1 (by show g≠p;omega);have hzc:w2.frozen? (g,acc.len - 1)=false:=Kw.o.1.frozenAt _;clear Yt dH;have HJ:=Z (Kw.o.A7 HM.o HL.o K0 hul t);go_wp2;have ymq:acc.len - 1=us.length:=by omega
 rw[Gv,ymq];have hj:=HJ.o;rw[HJ.o.2]at hj;have hS3:=dw.o.own (B:=g) J us.length (.iface 206 (zO (s++t)));go_roundw
 case rel=>exact⟨acc.yn t,q,n',_,hS3,Qr.own J _ _,by rw[zr,yv (λe=>by have:=congrArg qb e;simp at this;omega)];exact If,hj.1,(iw HM.o HL.o t).1,Iy.o,by have:=HN.o;omega,by have:=HN.o;omega,by rw[HJ.o.2];omega,λx e=>by rw[(iw HM.o HL.o t).2]at e;cases e;rw[zy];omega⟩
 case measure =>
  rw[kx hS3,kx HSR.o];omega):P:=h
def zkj(h:P:=by refine(Bg (w:Nat) _).mono ?_;rintro e u' VQ ⟨rfl,rfl,hb⟩;have hc:zk VQ (w:Nat) 0 (.pointer none):=(hb.cell (X _ _ HE.o.1)).trans HE.o.1;simp[Ur,settle,yN,results32,go_sem,hc];exact(HE.o.2.below hb).low (λ_ q=>q.elim) (Y _)):P:=h
def Mb(h:P:=by
 have ym5:(t.take (m+1)).all (λd=>yo d==yo c)=true:=xgy
 have vj6:=Z ym5;clear hq ym5;go_wp2;exact⟨⟨m+1,J,by go_num,vj6.o⟩,by simp[intOf];omega⟩):P:=h
def Z1(h:P:=by have:=hb.size;simp;omega):P:=h
def zkg(h:P:=by
 simp only[ui,FH,zv,vW,decide_eq_true_eq]at h;have hw:=h.1.1.1.1;have hf:=h.1.1.1.2;simp only[uY,zv]at hw;refine⟨hw.1,?_,?_,h.1.1.2⟩
 .rcases hf with hf|hf
  .have hp:¬(J0 l).idxOf 46<(J0 l).length:=by simpa[U2]using hf
   have:uX l=[]:=by unfold uX;exact yL J
   rw[this];rfl
  .simp only[uY,zv]at hf;exact hf.1
 .exact yl6):P:=h
def zkf(h:P:=by
 clear uB D9 hck hwk hih hd0 Tw Ec hd3 hd4 hd5 Bf Dz k1' k2' k3' k4' k5' k6' k7' k8' Bd;go_wp2_with fail;refine HBR.o.mono ?_;rintro e w2 ⟨rfl,L2,Jz,KO,ZL⟩;have EI:=Z Jz;have Va:=Z ZL;clear Jz ZL HBR;go_wp2;go_roundw
 case rel=>exact zkd.o _ _ r _ L2 w2 rfl Pv.o DE.o EL.o l8.o.2.2.2.2.2.2.2 HWQ.o QI.o (by have:=ZX.o;simp at this;omega) EI.o KO Va.o Gf.o J
 case measure=>simp only[intOf];omega):P:=h
def GC(h:P:=by exact⟨.text x pre,by rw[h1];rfl,λm=>h2 m,λt=>by rw[Fo.yn,h3];rfl;simp⟩):P:=h
def zkb(h:P:=by
 go_wp2_with fail;refine HLV.o.mono ?_;rintro e w3 ⟨rfl,l9,PH⟩;have Dy:=Z l9;have oe:=Z PH;have vj9:=PH.cell wo nW;clear l9 PH HLV;go_wp2;go_roundw
 case rel=>exact⟨j+1,s'.xL idx j,by go_num,J,HG.o.symm,Dy.o,HF'.o.trans oe.o,HI'.o.fr oe.o,MkS.le_trans HLE.o (s'.Qz _ _),by rw[XH];exact ZX.o,vj9⟩
 case measure=>simp only[intOf];omega):P:=h
def Bb(h:P:=by first|(have:=HDL.o;simp at Z9;omega)|(simp at Z9|-;omega)|(simp at Z9|-;exact Z9)):P:=h
def zj0(h:P:=by
 have hDs:D.size<=1000000:=by rw[hD];decide
 have HDD:=Z (show D.data.toList=Jy L by rw[hD,d0];rfl);have dE:Lib.validD D.data.toList=false->xl ra rb mi po gr fi ne L=false:=λh=>absurd h (by rw[hD];decide)
 have VT:¬(qQ D.data.toList).1.length=10->xl ra rb mi po gr fi ne L=false:=λh=>absurd (by rw[hD];exact om) h
 exact xjg):P:=h
def zj1(h:P:=by
 have hDs:D.size<=1000000:=by rw[hD];exact hd
 have HDD:=Z (show D.data.toList=Jy L by rw[hD,HL.o];unfold Jy;rw[yv d0]);have dE:Lib.validD D.data.toList=false->xl ra rb mi po gr fi ne L=false:=λh=>ot zvu
 have VT:¬(qQ D.data.toList).1.length=10->xl ra rb mi po gr fi ne L=false:=λh=>oh d0 zvu
 exact xjg):P:=h
def uN(h:P:=by go_num):P:=h
def zj2(h:P:=by
 intro j v hj;have hj3:j<3:=by
  apply yy;intro hc;rw[uG yF]at hj
  cases hj
 refine⟨by have:=Pj.o;omega,?_⟩;have h1:ws[i2*3+j]? = some v:=by
  rw[PI.o,<-Pj.o,yp J,Z7,<-hj];match j,hj3 with
  | 0,_=>rfl
  | 1,_=>rfl
  | 2,_=>rfl
 exact zx6):P:=h
def ymd(h:P:=by
 intro l;induction l with
 |nil=>intro v _;simp
 |cons c t ih =>
  intro v h;simp only[u7,zv]at h;have hc:=(vy c).1 h.1;have:=ih (10*v+(c.toNat - 48)) h.2;rw[vP,zY];refine zC this ?_;have h3:10*v+(c.toNat - 48)+1<=(v+1)*10:=J
  exact xgq):P:=h
def A8(h:P:=by have:=congrArg qb e;simp at this;omega):P:=h
def kO(h:P:=by simp[go_sem]):P:=h
def MZ(h:P:=by
 go_enter func72,ntmps72;go_wp2_with fail;go_quiet (fail)
 go_wp2;go_ret;exact⟨gJ,nq,rfl⟩):P:=h
def zj3(h:P:=by obtain⟨rfl,hi2⟩:=hq;have BZ:=Z (show R = .TM c s2 from ON.o);go_wp2;refine⟨rfl,?_⟩;rw[BZ.o];exact⟨rfl,Ib.o _ _ _ _ hi2 J⟩):P:=h
def zj5(h:P:=by have h1:=congrArg xJ ymb.o;have h2:=HFL.o;simp only[zy,zY,yG]at h1;simp;omega):P:=h
def GH(h:P:=by have:=ZX.o;simp at this;omega):P:=h
def zj6(h:P:=by have BZ:=Z (show R = .go false s2 from ON.o);go_wp2;go_ret;rw[BZ.o];exact⟨rfl,Ib.o _ _ _ _ HIX.o J⟩):P:=h
def MY(h:P:=by rw[hW];exact((zu _ _).alloc (Y _) _).alloc zV _):P:=h
def zj7(h:P:=by intro l h' hh hg;refine⟨zg hh (zg hb.size Z6.size),λk k1 k2=>?_⟩;rw[Z6.block k (by have:=hb.size;omega) (λe=>by rcases hg k e.symm with q|q<;>omega)];exact hb.block k J):P:=h
def MX(h:P:=by rw[zP];exact h.z j):P:=h
def MV(h:P:=by show B<_;omega):P:=h
def A9(h:P:=by exact⟨c,by simp only[Fo.keys,Fo.uC,MkS.uw,yG];omega⟩):P:=h
def BX(h:P:=by rw[Fo.yn,qv r t XB];rfl):P:=h
def MU(h:P:=by rw[beq_eq_false_iff_ne];rintro rfl;exact absurd hc.1 zW):P:=h
def K1(h:P:=by first|rfl|simp[go_sem]):P:=h
def zj8(h:P:=by exact Zz (by rw[hD,yv (λq=>h ⟨q.1.2,q.2⟩)]) (by rw[hS,yv (λq=>h ⟨q.1,by have:=q.2.1;simp[least]at this;omega,q.2.2⟩)]) J):P:=h
def zj9(h:P:=by
 intro n;induction n with
 |zero =>
  intro l h;have:l=[]:=zN J;subst this;simp[xg]
 |succ n ih =>
  exact xg6):P:=h
def zjz(h:P:=by refine⟨b,_,_,by rw[XD.o],by first|exact⟨_,_,_,rfl⟩|exact HSV.o,?_,λh=>by rw[XD.o]at h;cases h⟩;refine hB.trans ?_;exact vqj):P:=h
def U3(h:P:=by cases hg):P:=h
def zjy(h:P:=by have:=(OO.drop (n:=3) (by omega:l.length<=c)).drop (n:=k - 4) (cap:=c - 3) FC;rw[e4,BV,yv (λq=>gN q.symm)]at this;exact this):P:=h
def Az(h:P:=by
 cases m with
 |zero=>rfl
 |succ k=>exact congrArg (yZ .i64) J):P:=h
def zjx(h:P:=by
 rcases hs' k hk with h|h
 .exact hS k h
 .exact⟨J,λq=>by have:=ug hO.row q;omega,λq=>by have:=ug ZR q;omega⟩):P:=h
def zjv(h:P:=by have HO:=Z ho;have Ei:=Z ((lz.o.1.drew.fr.tr gW.GZ (λq hq => .inl hq)));clear hJ uB gW ho lz;exact yb6):P:=h
def U4(h:P:=by simp<;>omega):P:=h
def MK(h:P:=by exact⟨⟨h.1,λ_ _ e=>gG,k2,k1⟩,k2⟩):P:=h
def yn0(h:P:=by refine yW ?_;refine gU 4 (λK hK=>?_);go_simp;refine(HD.o _).mono ?_;rintro e w' ⟨rfl,rfl⟩;exact yd7):P:=h
def BU(h:P:=by show B≠p;omega):P:=h
def Ay(h:P:=by rw[yX _ _ _ _ zV];exact h.hA):P:=h
def MJ(h:P:=by rw[Us];exact h.2):P:=h
def zju(h:P:=by simp only[Fo.uC]at m;simp only[Fo.wf,zv]at w;exact⟨h.1.1,Fo.Yg r h.2 w.2 J o⟩):P:=h
def K3(h:P:=by cases hx):P:=h
def BQ(h:P:=by exact GB HNV.o hr J OM):P:=h
def zjq(h:P:=by
 have h1:=MG HOW.o m J (.int .u8 ((d:Nat):Int));rw[BK _ _ _ hd]at h1;try rw[HDD.o]
 exact h1):P:=h
def Ax(h:P:=by rw[<-hJ];exact yl rs _):P:=h
def MF(h:P:=by simp only[Fo.cw]at hw;omega):P:=h
def zjk(h:P:=by have:=OP.o.2.2;simp only[zy,zY,yG];omega):P:=h
def BJ(h:P:=by have:=K4.size;omega):P:=h
def zjj(h:P:=by
 rcases ho.2 with⟨hv,_⟩|⟨g2,GJ,cur,hv,_,_,hh,hh2,_⟩
 .cases hv
 .cases hv;exact⟨hh,hh2⟩):P:=h
def zjg(h:P:=by
 rw[yv zV]at Dx;subst Dx;clear hb qI;go_wp2;go_ret2
 refine⟨XR,?_⟩;rw[yK oH.o];rfl):P:=h
def zjf(h:P:=by go_wp2_with fail;refine HS.o.mono ?_;rintro e w' ⟨rfl,rfl⟩;go_wp2;go_ret;exact⟨gJ,rfl⟩):P:=h
def zjd(h:P:=by rw[hW];exact⟨zZ _ _ _ _ _,zZ _ _ _ _ _,zZ _ _ _ _ _,λj=>uK⟩):P:=h
def Av(h:P:=by rw[zP];exact h.z0):P:=h
def Au(h:P:=by rw[xg];exact Y _):P:=h
def zjb(h:P:=by
 clear hf hc;go_wp2;all_goals (first|(exfalso;omega)|skip)
 go_ret;exact⟨gJ,zg0⟩):P:=h
def Aq(h:P:=by have:=qI.size;omega):P:=h
def zg1(h:P:=by rw[zc _ _ ⟨(w:Nat),0,none⟩ yF];simp):P:=h
def Ak(h:P:=by refine⟨QK,?_⟩;rw[yv zxg,HR.o];rfl):P:=h
def Aj(h:P:=by go_wp2;go_ret;exact⟨rfl,zu _ _⟩):P:=h
def zg2(h:P:=by rintro e w' ⟨N,rfl,_,_,hb⟩;exact⟨⟨_,_,rfl,.inr ⟨_,rfl⟩⟩,hb⟩):P:=h
def BG(h:P:=by simpa using h2):P:=h
def zg3(h:P:=by
 apply yy;intro hc;rw[kP J]at h2
 cases h2):P:=h
def zg4(h:P:=by rw[dT (acc.len - 1) J,K0,show acc.len - 1=us.length by omega];simp):P:=h
def Ag(h:P:=by go_wp2;go_ret;rw[HR.o];exact⟨rfl,rfl⟩):P:=h
def zg5(h:P:=by simp only[zh,zy,List.take_succ_cons];omega):P:=h
def zg6(h:P:=by
 rcases hq with e|e|e
 .exact .inl e
 .exact Lt
 .exact .inr (h.lo q e)):P:=h
def zg7(h:P:=by exact⟨rfl,((zu _ _).alloc (Y _) _).alloc zV _⟩):P:=h
def Af(h:P:=by rw[hb.frozen zV];go_simp):P:=h
def MD(h:P:=by rw[HG.o];exact hb):P:=h
def zg8(h:P:=by simp[hy]):P:=h
def MB(h:P:=by simpa using BF):P:=h
def zg9(h:P:=by unfold K5;exact zg Ft zV):P:=h
def Ad(h:P:=by intro q hq;cases hq;rfl):P:=h
def Ab(h:P:=by clear hold hI ly h1 h2;exact M4):P:=h
def zgz(h:P:=by
 have:(b.add 0)=b:=by simp[fG]
 rw[this]at lx;exact lx):P:=h
def AZ(h:P:=by have:=zgy.size;omega):P:=h
def AY(h:P:=by simp[jO,kR]):P:=h
def zgx(h:P:=by rw[World.cell?_alloc_at _ _ _ _ zV];rfl):P:=h
def AX(h:P:=by simp[yA]):P:=h
def zgv(h:P:=by have:=fU (rs:=rs) (show i<=j by omega);exact GK):P:=h
def AV(h:P:=by
 intro v6 W6 gW hg6;have HF6:=Z gW;have uW:∀k,(ux fa1 (s1).2.length fc1).ownBlock=some k->B+3<=k:=λk hk=>(HQ3.o.lt k hk).1
 have gN:∀k,k<B+3->(some k:Option Nat)≠(ux fa1 (s1).2.length fc1).ownBlock:=λk h1 h2=>WX
 have q7:=hg6.cell q5 (gN B J);have q8:W6.frozen? (zQ B 0)=false:=(zU (a:=(zQ B 0)) (hg6.block B (X _ _ q5) (gN B J))).trans z5;have hI6:=MC (room':=room) HI5.o hg6 uW gW (by have:=Ll cl bs [] [];simp only[yG]at this;omega);obtain⟨fa6,fc6,rfl⟩:=zo gW;refine hK.out _ _ q7 λ_=>?_;clear hK K;refine D0 4 (λK hK=>?_);go_simp;refine hK.out _ _ ?_;clear hK K;refine D1 ?_ _;rw[zy]at hI6;have HI6:=Z hI6;clear hI6;go_wp2;go_ret;have hch:gB s (.br n a fo of cl bs r) = .go true (s1.1,s1.2++K6 cl [] [] bs):=by
  show Out.go true ((uV s n a (jH (.br n a fo of cl bs r))).1,(uV s n a (jH (.br n a fo of cl bs r))).2++K6 cl [] [] bs)=_;rw[HKV.o,Vk.o]
 rw[hch];exact⟨rfl,HI6.o⟩):P:=h
def zgu(h:P:=by
 rw[yx2];clear yx2 H9;refine HIM.o.mono ?_;rintro e w2 ⟨rfl,hp2,qX⟩;have PE:=PL.trans qX;have Ep:(w:Nat)≠p:=J
 have cQ2:=cQ1.but qX Ep;have iO:=Z hp2;clear hp2 cQ1
 cases hm:AU (t.headD [])
 .exact ymx
 .have KO:=iO.o;rw[hm]at KO;have HQ2:=Z KO;have HM:=Z hm;clear KO hm;have cQ:=cQ2;obtain⟨Q,hQ⟩:∃Q,Q=(w:Nat):=⟨_,rfl⟩;rw[<-hQ]at cQ cQ2 Ep|-
  have HQ:=Z hQ;clear hQ;have Wt:=Z (λW (hb:xN p w W) (hp:dB W p t.tail)=>ZT p t.tail W hp (λx h=>HX.o x (uj _ (xh h))) (HT.o.but hb));have OI:zk w2.drew Q 0 (.func (.func kf) #[] KN):=cQ2.c;have FE:=PE.drew;have HPD:=Z (show dB w2.drew p t.tail from HQ2.o.below (zu _ w2).drew);have cQD:vS w2.drew Q (.func (.func kf) #[] KN):=⟨cQ2.c,cQ2.z,cQ2.n⟩;clear PL;go_wp2_with fail;refine Vy (λW':z8=>zk W' Q 0 (.func (.func kf) #[] KN)) [0,2] 5 OI ?_;generalize w2.drew=wD at FE HPD cQD|-
  apply xdy (P:=λ(W:z8) (k4 k5 mv:Nat)=>(∃t3,gF (t).tail=some (mv,t3)/\dB W p t3)/\xN p w W/\vS W Q (.func (.func kf) #[] KN)/\vS W k4 (.int .i64 0)/\vS W k5 .nilFunc/\(w:Nat)<=k4/\(w:Nat)<=k5/\k4≠k5/\k4≠p/\k5≠p/\k4≠Q/\k5≠Q)
  case h2 =>
   exact ylb
  case h1 =>
   exact ym8):P:=h
def zgq(h:P:=by
 have lu:=OR.o;rw[vg,PM]at lu;have ON:=Z lu.symm;rw[PM]at HCC;clear PM lu OR YU U5;go_wp2_with fail;refine HCC.o.mono ?_;rintro e w2 hq
 cases o1 with
 |TM c s2 =>
  exact zj3
 |go b s2 =>
  obtain⟨rfl,hi2⟩:=hq;have HIX:=Z hi2;clear hi2
  cases b with
  |false =>
   exact zj6
  |true =>
   have BZ:=Z (show vg F r s2=R from ON.o.symm);go_wp2;go_roundw
   case rel=>exact⟨i+1,us++[y],_,r,s2,zV,J,DE.o,EL.o,AQ.o,by simp[HUS.o],by rw[Pv.o,yk];rfl,by have:=QI.o;omega,by have:=ZX.o;omega,HIX.o,BZ.o⟩
   case measure=>simp only[intOf];omega):P:=h
def zgk(h:P:=by
 have DE:=Z uB;clear uB;have AQ:=Z (show r.wf 2000000=true from AQ.o);have EL:=Z (show r.ya=true from EL.o);have QI:=Z (show i+(r.len+1)=L from Z9);have BZ:=Z (show vg F r s1=R from OR.o);have ZX:=Z (show zH r<=zH f by have:=ZX.o;simp at this;omega);go_wp2;go_roundw
 case rel=>exact⟨i+1,us++[y],_,r,s1,zV,J,DE.o,EL.o,AQ.o,by simp[HUS.o],by rw[Pv.o,yk];rfl,by have:=QI.o;omega,by have:=ZX.o;omega,G9.o,BZ.o⟩
 case measure=>simp only[intOf];omega):P:=h
def ZW(h:P:=by intro _ _ d _ _ h;cases d<;>exact h):P:=h
def zgj(h:P:=by have HE:=Z (show(W.setCell (w,0) (.pointer none)).cell? (w,0)=some (.pointer none)/\Fr yH yH w (W.setCell (w,0) (.pointer none)) from⟨xq Vs.o.1 _,HF.o.set _ (.inr (Y _))⟩);clear HC hk h3;go_wp2;refine kI (f:=55) (args:=#[(w,0)]) zV (by simp[go_sem]) ?_;exact zkj):P:=h
def BD(h:P:=by rw[Pv.o,yk];rfl):P:=h
def zgg(h:P:=by
 have bu:=K7 (p:=λd=>yo d==yo c) hm El.o (λh=>absurd h iI);have LS:=Z bu;have b2:¬((m:Int)+1<(u.size:Int)):=by have wR:u.size=t.length+1:=ZX.o;omega
 have b1:¬(m+1<u.size):=J
 have b3:m+1<=u.size:=Wj
 clear bu iI;exact zku):P:=h
def zgf(h:P:=by
 have hb:∀(l:Wd) (v:Nat),l.all yC=true->l.foldl (λv c=>10*v+(c.toNat - 48)) v<(v+1)*10 ^ l.length:=ymd
 have h1:=hb l 0 hd;have h2:10 ^ l.length<=10 ^ 9:=Nat.pow_le_pow_right zW h;have h3:(10:Nat) ^ 9=1000000000:=zW
 unfold yb;omega):P:=h
def K8(h:P:=by exact cells_one (zZ _ _ _ _ _)):P:=h
def zgd(h:P:=by
 go_wp2;go_roundw
 case rel=>exact⟨i+1,c3+1,_,uN,J,HM9.o,by have:=Dy.o.2.1;omega,HB.o,λy e he=>by
  split at he
  .cases he;exact hD6
  .exact Dy.o.2.2 y e he,oe.o.trans HF9.o⟩
 case measure=>simp only[intOf];omega):P:=h
def AK(h:P:=by
 go_wp2;go_roundw
 case rel=>exact⟨k+1,J,uN,HF.o,OM⟩
 case measure=>simp[intOf];omega):P:=h
def zgb(h:P:=by obtain⟨k,hk,rfl⟩:=ja.1 hr;simp only[u4,yr]at hk;have h1:=(hf k J).2;rw[ME (AJ k J)]at h1;simpa using h1):P:=h
def zf0(h:P:=by obtain⟨vt,b,e,l1,l2,c0,c1,hr⟩:=h;exact⟨vt,b,e,J,J,(hk.cell (p:=(b,0)) l1 l2).trans c0,(hk.cell (p:=(b,1)) l1 l2).trans c1,yY.keep hk h1 h2 r vt hr⟩):P:=h
def AG(h:P:=by cases hq;exact Y _):P:=h
def BB(h:P:=by first|exact Gf.o|simpa using Gf.o):P:=h
def zf1(h:P:=by refine⟨J,rfl,?_,by simp[Fo.len];omega,by simp[Fo.cnt];omega⟩;simp only[Fo.wf,zv,decide_eq_true_eq];exact⟨J,trivial⟩):P:=h
def zf2(h:P:=by rw[zr,yv (λe=>neB (congrArg qb e).symm),zr,yv (λe=>neA (congrArg qb e).symm)];exact(hc 0)):P:=h
def zf3(h:P:=by have bu:=K7 (p:=λd=>yo d==yo c) hm El.o (λh=>by simp[HK2.o,HK.o,hq]);have LS:=Z bu;clear bu hq;exact zku):P:=h
def zf4(h:P:=by rw[zr,yv (λe=>neB (congrArg qb e).symm),zr,yv (λe=>neA (congrArg qb e).symm)];exact f1):P:=h
def zf5(h:P:=by
 go_wp2;go_roundw
 case rel=>exact⟨j+1,s',uN,J,HG.o.symm,HM'.o,HF'.o,HI'.o,HLE.o,ZX.o,wo⟩
 case measure=>simp only[intOf];omega):P:=h
def zf6(h:P:=by
 intro v4 w4 VA Qw;have uW:∀k,(.slice (g,0) acc.len gc:zx).ownBlock=some k->B+1<=k:=λk hk=>(Yh.o.lt k hk).1
 exact zkq):P:=h
def zf7(h:P:=by
 intro v4 w4 VA Qw;have uW:∀k,(.slice ga acc.len gc:zx).ownBlock=some k->B+1<=k:=λk hk=>(Yh.o.lt k hk).1
 exact zkq):P:=h
def GI(h:P:=by have:=h.rows.len;omega):P:=h
def MH(h:P:=by rw[zr,yv zV];exact h.c1):P:=h
def zf8(h:P:=by exact zf9 (by rw[hD,yK ⟨⟨zV,h.1⟩,h.2⟩]) (by rw[hS,yK ⟨h.1,by simp[least];omega,h.2.2⟩]) zW):P:=h
def MI(h:P:=by exact ow (OS 0) (OS 1)):P:=h
def zfz(h:P:=by rw[Te J];simpa using hT.keep (lj l0 h0 EM hg0) (Y _) (Y _)):P:=h
def BC(h:P:=by rw[Fo.yn,h3];rfl):P:=h
def zfy(h:P:=by have hg':w.drew.heap[g]? = some (.cells cur 5 (0,0)):=hg;simp[World.shape?,hg']):P:=h
def GL(h:P:=by rw[h3];omega):P:=h
def zfx(h:P:=by
 go_wp2;go_round
 case rel=>exact⟨k+1,J,uN,HF.o⟩
 case measure=>simp[intOf];omega):P:=h
def zfv(h:P:=by
 go_wp2;go_round
 case rel=>exact⟨k+1,J,uN,HX.o⟩
 case measure=>simp[intOf];omega):P:=h
def zfu(h:P:=by simp only[zy,zY,yG];omega):P:=h
def ML(h:P:=by have:=XR.size;omega):P:=h
def zfq(h:P:=by have HF:=Z hf;clear hf;go_wp2;go_ret;exact⟨by rw[HF.o];rfl,zg0⟩):P:=h
def zfk(h:P:=by go_wp2;go_ret;exact⟨by rw[HB.o zV zV];rfl,(Fr.refl yH w).alloc _⟩):P:=h
def GM(h:P:=by simp[xB]):P:=h
def MM(h:P:=by have:=HB.o;omega):P:=h
def GN(h:P:=by simp[hc]):P:=h
def AF(h:P:=by rw[hb.cell zV];go_simp):P:=h
def MN(h:P:=by simp at hn;omega):P:=h
def zfj(h:P:=by go_wp2;exact⟨⟨k+1,J,uN,HF.o⟩,by simp[intOf];omega⟩):P:=h
def zfg(h:P:=by unfold vp;have:=jN 9 r J;omega):P:=h
def AD(h:P:=by rw[<-hs];exact vS.made _ _ _ zW):P:=h
def zff(h:P:=by cases hg;exact qV _ (Dy.o.lt q)):P:=h
def AB(h:P:=by rw[heap_set h.hB];rfl):P:=h
def zfd(h:P:=by obtain rfl:l=[]:=List.length_eq_zero_iff.1 J;exact Au):P:=h
def zfb(h:P:=by go_wp2_with fail;refine EN.o.mono ?_;rintro e w6 ⟨⟨t1,k1,rfl,Vu⟩,gW⟩;have Va:=Z (Yf (c:=cp) (HL2.o.fr gW) (HE.o.1.below (MO.o.dD.trans ((gW.low (λ_ q=>q.elim) (Y _)).mono MO.o.dD.size))).cmp.tabs.err (HT5.o.fr gW) HT.o.1 (λt ht=>zg (HSM.o t ht) (by decide)) J);have KM:=Z Vu;have HF6:=Z gW;clear Vu gW EN;go_wp2_with fail;refine Va.o.mono ?_;rintro e w7 ⟨⟨t2,k2,rfl,Yt⟩,PN⟩;obtain⟨rfl,rfl⟩:=p5 KM.o Yt;have XZ:=MO.o.dD.trans (((HF6.o.trans PN).low (λ_ q=>q.elim) (Y _)).mono MO.o.dD.size);have HB7:=Z XZ;clear Yt PN XZ Va;go_wp2;go_ret;exact⟨by simp,HB7.o⟩):P:=h
def MP(h:P:=by have h1:=congrArg xJ Ix.o;have h2:=HFL.o;simp only[zy,zY,yG]at h1;simp;omega):P:=h
def zd0(h:P:=by
 rw[QM];have HS:=Z (Vq.o.trans (yv hy));clear QM hy;refine hK.out _ _ ⟨f2,f3,f0,f1⟩ λ_=>?_;clear hK K;refine Ve [7] 0 ⟨f2,f3,f0,f1⟩ ?_;refine Y5 ?_ _;go_wp2;go_roundw
 case rel =>
  exact⟨i+1,(m1,m2),zV,J,J,by rw[Z3];exact HS.o,f0,f1,xdu.o,⟨_,_,g0,g1⟩,xdq.o,xdk⟩
 case measure=>simp only[intOf];omega):P:=h
def zd1(h:P:=by
 go_enter func214,ntmps214;go_wp2_with fail;refine qh (λW':z8=>True) [0,1,2,3] 17 ZW yg yg (show True from trivial) ?_;(iterate 4 ((first|refine ty ?_|refine tn ?_);try simp only[pl]))
 exact yn0):P:=h
def BE(h:P:=by first|rfl|(intro x hx;simp at hx;subst hx;rfl)):P:=h
def zd2(h:P:=by
 refine⟨⟨(BV b 3 c).add (k - 4),c - 3 - (k - 4),?_,J,J,hbT.fr hfa (λ_ _=>id),by rw[addr_add,Qv]⟩,?_,zV⟩
 .rw[uS];exact zx7
 .have:=HF.o.size;intro q;rw[q]at hlb;omega):P:=h
def zd3(h:P:=by rw[fI _ _ t yF,fI _ _ t yF,fI _ _ t yF,fI _ _ t (Nat.ne_of_lt htl)];exact hf0):P:=h
def zd4(h:P:=by rw[zc _ _ t yF,zc _ _ t yF,zc _ _ t yF,zc _ _ t htl];exact ht0):P:=h
def zd5(h:P:=by rw[hw2];exact(((((zu _ _).alloc J _).alloc yF _).alloc (by simp;omega) _).alloc (by simp;omega) _).setCell zV _):P:=h
def zd6(h:P:=by rw[zr,yv (λe=>neB (congrArg qb e).symm),zr,yv (λe=>neA (congrArg qb e).symm)];exact(hc 1)):P:=h
def GO(h:P:=by rw[hS,MR zV]):P:=h
def zd7(h:P:=by rw[zr,yv (λe=>neB (congrArg qb e).symm),zr,yv (λe=>neA (congrArg qb e).symm)];exact f2):P:=h
def MS(h:P:=by rw[p6.o];simp[Fo.keys]):P:=h
def U6(h:P:=by have:=QI.o;omega):P:=h
def AE(h:P:=by rw[yn6 _ J,Jx _ _ h.rows.len k j x _ hk hr hj]):P:=h
def MT(h:P:=by rw[PI.o,yk];rfl):P:=h
def AH(h:P:=by rw[zP];exact h.z1):P:=h
def zd8(h:P:=by intro j x hx;exact uW.cells (g:=g) rfl j (.int .u8 x.toNat) (by simp[yq,hx])):P:=h
def zd9(h:P:=by go_wp2;refine kI (f:=55) (args:=#[(zQ (w:Nat) 0)]) zV kO ?_;exact zkj):P:=h
def AI(h:P:=by rw[zP];exact h7):P:=h
def BH(h:P:=by simpa using oA.o):P:=h
def zdz(h:P:=by rw[zm];intro c hc;rw[dQ hc];rfl):P:=h
def AL(h:P:=by show (w:Nat)<_;omega):P:=h
def MW(h:P:=by simpa using lg.o):P:=h
def MA(h:P:=by simpa using hf):P:=h
def BI(h:P:=by simp[vu]):P:=h
def GR(h:P:=by exactλk hk=>zC (Yh.o.lt k hk).2 J):P:=h
def zdy(h:P:=by
 have HF:=Z (Ma G9.o EO VA (room':=room) hnm J);clear EO VA;go_wp2;go_ret;have hch:gB s (.num n a r) = .go true ((λy=>if n=y then some kv else s.1 y,s.2):KP):=by show Out.go true (uV s n a 1)=_;rw[show(1:Nat)=kv from HKV.o,Vk.o]
 exact Wp):P:=h
def AM(h:P:=by have h:=X _ _ HF.o.kc;have:=Dv.size;dsimp only at h;omega):P:=h
def AN(h:P:=by rw[bJ _ _ _ (by rw[hc];rfl)];exact hc):P:=h
def Mc(h:P:=by rw[yk];exact Ix.o):P:=h
def GA(h:P:=by rw[hD,yv zV]):P:=h
def Me(h:P:=by have:=Pj.o;simp;omega):P:=h
def AO(h:P:=by rw[zP];exact h8):P:=h
def BL(h:P:=by simp[HUS.o];omega):P:=h
def AP(h:P:=by rw[Lp];exact ur _ _):P:=h
def AR(h:P:=by rw[zr,yK rfl,h.c0];rfl):P:=h
def BM(h:P:=by exact cells_one OS):P:=h
def AS(h:P:=by
 rcases ud 1 (w:Nat)with h|h
 .exact h
 .exact yl3):P:=h
def Ga(h:P:=by have:=ZX.o;omega):P:=h
def yn7(h:P:=by exact⟨zZ _ _ _ _ _,zZ _ _ _ _ _,zZ _ _ _ _ _,zV,zV,zV,zV⟩):P:=h
def zdv(h:P:=by
 simp only[yt];rw[jc];go_wp2;go_end0
 exact⟨rfl,HS.o,HW.o⟩):P:=h
def zdu(h:P:=by rw[zr,yv zV];exact c2):P:=h
def BN(h:P:=by have:=hP p hp;omega):P:=h
def BO(h:P:=by rw[HWS.o];simp):P:=h
def Mi(h:P:=by have:=yn8.o;omega):P:=h
def zdq(h:P:=by rw[zr,yv (λe=>A8)];exact h4 k hk):P:=h
def BP(h:P:=by cases e;rfl):P:=h
def AT(h:P:=by have:=KM.o.here;omega):P:=h
def zdk(h:P:=by rw[zG.1 hj];exact AW s n):P:=h
def zdj(h:P:=by have:=e.2.1;rw[HBB.o]at this;cases this):P:=h
def Gc(h:P:=by have:=yn9.o;omega):P:=h
def K9(h:P:=by simp[HUS.o]):P:=h
def AA(h:P:=by cases hg;exact Y _):P:=h
def zdg(h:P:=by rw[zr,yv zV];exact c0):P:=h
def Ml(h:P:=by have:=HAL.o;omega):P:=h
def BR(h:P:=by exact⟨_,rfl,rfl⟩):P:=h
end
variable{rs:List Int}{d i p:Nat}{w w':z8}
structure xr(p:Nat)(rs:List Int)(i d:Nat)(w:z8):Prop where
 row:∃g cap,zk w p 0 (.slice (some ⟨g,0,none⟩) rs.length cap)/\rs.length<=cap/\cap<=vp/\g<p/\∀j (h:j<rs.length),zk w g j (.int .i32 rs[j])
 at_:zk w p 1 i
 deep:zk w p 2 d
 z1:w.frozen? (p,1)=false
 z2:w.frozen? (p,2)=false
 len:rs.length<=1000000
 here:i<=rs.length+1
 low:d<=100
 pos:∀r∈rs,0<=r
def xr.lt(h:xr p rs i d w):p<(w:Nat):=X w _ h.at_
def xr.below(h:xr p rs i d w)(hb:zR w w'):xr p rs i d w':=by
 have a:=h.lt;obtain⟨⟨g,cap,h0,h1,h2,l,f⟩,m,n,o,q,r,b,c,e⟩:=h;refine⟨⟨g,cap,(hb.cell (p:=(zQ p 0)) a).trans h0,h1,h2,l,λj k=>?_⟩,(hb.cell (p:=(zQ p 1)) a).trans m,(hb.cell (p:=(zQ p 2)) a).trans n,(hb.frozen (p:=(zQ p 1)) a).trans o,(hb.frozen (p:=(zQ p 2)) a).trans q,r,b,c,e⟩;rw[hb.cell (X w _ (f j k))];exact f j k
def xr.move(h:xr p rs i d w)(j:Nat)(o:j<=rs.length+1):xr p rs j d (w.setCell (p,1) j):=by
 obtain⟨⟨g,cap,h0,h1,h2,f,h4⟩,l,m,h7,h8,n,c,a,b⟩:=h;refine⟨⟨g,cap,by rw[zr,yv zV];exact h0,h1,h2,f,λk hk=>zdq⟩,by rw[zr,yK rfl,l];rfl,by rw[zr,yv zV];exact m,AI,AO,n,o,a,b⟩
def xr.xdg(h:xr p rs i d w)(e:Nat)(he:e<=100):xr p rs i e (w.setCell (p,2) e):=by
 obtain⟨⟨g,cap,h0,h1,h2,f,h4⟩,j,l,h7,h8,m,a,c,b⟩:=h;refine⟨⟨g,cap,by rw[zr,yv zV];exact h0,h1,h2,f,λk hk=>zdq⟩,by rw[zr,yv zV];exact j,by rw[zr,yK rfl,l];rfl,AI,AO,m,a,he,b⟩
def xr.grown{row:Option Nat}(h:xr p rs i d w)(b:w.grownBy w' row)(hr:∀q,row=some q->p<q):xr p rs i d w':=by
 have m:=h.lt;have hp:some p≠row:=λe=>by have:=hr p e.symm;omega
 obtain⟨⟨g,cap,h0,h1,h2,n,o⟩,r,s,t,u,v,c,f,k⟩:=h;have l:some g≠row:=λe=>by have:=hr g e.symm;omega
 have hb:=b.block p m (λe=>hp (by rw[e]));exact⟨⟨g,cap,b.cell h0 hp,h1,h2,n,λj x=>b.cell (o j x) l⟩,b.cell r hp,b.cell s hp,(zU (a:=(zQ p 1)) hb).trans t,(zU (a:=(zQ p 2)) hb).trans u,v,c,f,k⟩
def yz(rs:List Int)(i:Nat):Int:=rs.getD i (-1)
def gC(p:Nat)(rs:List Int)(i d:Nat)(w:z8)(h:xr p rs i d w) :
  zE prog 79 #[(p,0)] w λe w'=>e = .returned (.int .i32 (yz rs i))/\zR w w':=by
 obtain⟨⟨g,cap,h0,h1,h2,x,j⟩,k,s,t,u,v,c,q⟩:=h;have l:=Z j;obtain⟨n,hn⟩:=zw rs.length;rw[hn]at h0 v c;have HN:=Z hn;have a:zk w.drew p 1 i/\zk w.drew p 0 (.slice (zQ g 0) n cap):=⟨k,h0⟩;clear h1 j hn s t u h2;by_cases uh:i<n
 .have hc:=l.o i Vv;have HF:=Lib.hid (show yz rs i=rs[i]' Vv by unfold yz;rw[List.getD_eq_getElem?_getD,List.getElem?_eq_getElem (by rw[HN.o];exact uh)];rfl);obtain⟨r,hr⟩:=zw (rs[i]'(by rw[HN.o];exact uh));rw[hr]at hc;have m:=Lib.hid hr;have b:decide ((i:Int)<(n:Int))=true:=by simp;omega
  have f:zk w.drew.drew p 1 i/\zk w.drew.drew p 0 (.slice (zQ g 0) n cap)/\zk w.drew.drew g i (.int .i32 r):=⟨k,h0,hc⟩;clear hr;go_enter func79,ntmps79;go_wp2_with fail;refine Vy (λW':z8=>zk W' p 1 i/\zk W' p 0 (.slice (zQ g 0) n cap)) [0,1,2,3,4,5,6,7,8,9] 0 a ?_;refine Y5 ?_ _;go_wp2_with fail;refine Vy (λW':z8=>zk W' p 1 i/\zk W' p 0 (.slice (zQ g 0) n cap)/\zk W' g i (.int .i32 r)) [0,1,2,3,4,5,6,7,8,9,10] 0 f ?_;refine Y5 ?_ _;go_wp2;go_ret;exact⟨by rw[HF.o,m.o];rfl,(zu _ _).drew.drew⟩
 .have HF:=Lib.hid (show yz rs i = -1 by unfold yz;rw[List.getD_eq_getElem?_getD,List.getElem?_eq_none (by have:=HN.o;omega)];rfl);have b:decide ((i:Int)<(n:Int))=false:=by simp;omega
  go_enter func79,ntmps79;go_wp2_with fail;refine Vy (λW':z8=>zk W' p 1 i/\zk W' p 0 (.slice (zQ g 0) n cap)) [0,1,2,3,4,5,6,7,8,9] 0 a ?_;refine Y5 ?_ _;go_wp2;go_ret;exact⟨gJ,(zu _ _).drew⟩
def ld(p:Nat)(rs:List Int)(d:Nat)(r:zx)(j:Nat)(w:z8)(e:xX)(w':z8):Prop:=e = .returned r/\xr p rs j d w'/\xN p w w'
def xN.grown{a:z8}{row:Option Nat}(h:xN p a w)(b:w.grownBy w' row)(hr:∀q,row=some q->(a:Nat)<=q):xN p a w' :=
 ⟨b.os.trans h.os,b.tape.trans h.tape,b.output.trans h.output,zg h.size b.size,λk d c=>(b.block k (zC d h.size) (λe=>by have:=hr k (by rw[e]);omega)).trans (h.block k d c)⟩
def xN.Jv(h:xN p w w')(j:Nat)(u:zx):xN p w (w'.setCell (p,j) u):=h.trans (xN.set p w' j u)
def U7(p:Nat)(rs:List Int)(i d:Nat)(r:Int)(w:z8)(h:xr p rs i d w)(hr:r≠-1) :
  zE prog 174 #[(p,0),.int .i32 r] w (ld p rs d (.bool (yz rs i==r)) (if yz rs i=r then i+1 else i) w):=by
 have b:=Z (gC p rs i d w h);have g:=Z h;obtain⟨q,c⟩:=zw (yz rs i);have n:=Z c;rw[c]at b|-;by_cases a:q=r
 .subst a;have hi:i+1<=rs.length+1:=by
   have:i<rs.length:=by
    apply yy;intro hc;apply hr;rw[<-c];unfold yz;rw[zA,uG J];rfl
   omega
  clear c h;go_enter func174,ntmps174;go_wp2_with fail;refine b.o.mono ?_;rintro e w1 ⟨rfl,hb⟩;have hs:=g.o.below hb;have f:=Z hs;have s:=hs.at_;have t:=hs.z1;have j:=hs.len;clear hs b;go_wp2;go_ret;refine⟨zV,?_,(xN.of hb).Jv 1 _⟩;have:=f.o.move (i+1) hi;simpa using this
 .have k:(q !=r)=true:=by simpa using a
  have l:=Z (show(q==r)=false by simpa using a);have m:=Z (show(if q=r then i+1 else i)=i from yv a);clear c h;go_enter func174,ntmps174;go_wp2_with fail;refine b.o.mono ?_;rintro e w1 ⟨rfl,hb⟩;have f:=Z (g.o.below hb);clear b;go_wp2;go_ret;exact⟨by rw[l.o];rfl,f.o,xN.of hb⟩
def IZ(p:Nat)(w:z8):Prop:=∃x,zk w p 2 (.int .i64 x)/\w.frozen? (p,2)=false
def xr.I8(h:xr p rs i d w):IZ p w:=⟨_,h.deep,h.z2⟩
def IZ.below(h:IZ p w)(hb:zR w w'):IZ p w':=by
 obtain⟨x,h1,h2⟩:=h;have a:p<(w:Nat):=X w _ h1;exact⟨x,(hb.cell (p:=(p,2)) a).trans h1,(hb.frozen (p:=(p,2)) a).trans h2⟩
def Ge(p:Nat)(n:Nat)(at_:Nat)(e:xX)(w':z8):Prop:=∃b,e = .panicked [{ v := .iface 72 (.pointer (some ⟨b,0,none⟩)),recovered:=false }]/\zk w' b 0 n/\zk w' b 1 at_/\IZ p w'/\b≠p/\b<(w':Nat)
def Yi(p:Nat)(n at_:Nat)(w:z8)(hd:IZ p w) :
  zE prog 80 #[(p,0),n,at_] w λe w'=>Ge p n at_ e w'/\zR w w':=by
 go_enter func80,ntmps80;have a:=Z hd;clear hd;go_wp2;have hb:=λo=>(zu (w:Nat) w).alloc (Y _) o
 have b:p<(w:Nat):=by
  obtain⟨x,h1,_⟩:=a.o;exact X w _ h1
 exact⟨rfl,⟨_,rfl,zZ _ _ _ _ _,zZ _ _ _ _ _,a.o.below (hb _),J,zV⟩,hb _⟩
def kg(r:Int)(num:Bool):Bool:=r==123 ||(r==125 ||(r==35 && num))
def qK(r:Int):Bool:=(decide (97<=r) && decide (r<=122)) ||((decide (65<=r) && decide (r<=90)) ||r==95)
def vN(r:Int):Bool:=decide (48<=r) && decide (r<=57)
def U8(r:Int)(num:Bool)(w:z8):zE prog 135 #[.int .i32 r,.bool num] w λe w'=>e = .returned (.bool (kg r num))/\w=w':=by
 go_enter func135,ntmps135;go_wp2;all_goals (go_ret;refine⟨LN ?_,rfl⟩;show gL _=gL _;congr 1;first|(simp[kg, *];done)|(rw[xA];simp[kg, *];done)|(rw[xA];simp[kg];omega)|(rw[xA];simp[kg,Oi, *];done))
def Kz(r:Int)(w:z8):zE prog 103 #[.int .i32 r] w λe w'=>e = .returned (.bool (qK r))/\w=w':=by
 go_enter func103,ntmps103;go_wp2;all_goals (go_ret;refine⟨LN ?_,rfl⟩;show gL _=gL _;congr 1;first|(simp[qK, *];done)|(rw[xA];simp[qK, *];done)|(rw[xA];simp[qK];omega)|(rw[xA];simp[qK,Oi, *];done))
def Qu(r:Int)(w:z8):zE prog 104 #[.int .i32 r] w λe w'=>e = .returned (.bool (vN r))/\w=w':=by
 go_enter func104,ntmps104;go_wp2;all_goals (go_ret;refine⟨LN ?_,rfl⟩;show gL _=gL _;congr 1;first|(simp[vN, *];done)|(rw[xA];simp[vN, *];done)|(rw[xA];simp[vN];omega)|(rw[xA];simp[vN,Oi, *];done))
def xdf(p:Nat)(rs:List Int)(i d:Nat)(r:Int)(w:z8)(e:xX)(w':z8):Prop :=
 (if yz rs i=r then e = .returned (.tuple #[])/\xr p rs (i+1) d w' else Ge p 3 i e w')/\xN p w w'
def ZS(p:Nat)(rs:List Int)(i d:Nat)(r:Int)(w:z8)(h:xr p rs i d w)(hr:r≠-1) :
  zE prog 171 #[(p,0),.int .i32 r] w (xdf p rs i d r w):=by
 have f:=Z (U7 p rs i d r w h hr);by_cases c:yz rs i=r
 .have a:(yz rs i==r)=true:=by simpa using c
  rw[a,yK c]at f;have j:=Z c;clear h c a;go_enter func171,ntmps171;go_wp2_with fail;refine f.o.mono ?_;rintro e w1 ⟨rfl,hs,hb⟩;have m:=Z hs;clear hs f;go_wp2;refine yU (v := .tuple #[]) ?_ rfl ⟨by rw[yK j.o];exact⟨rfl,m.o⟩,hb⟩;simp[yN,results171,go_sem]
 .have a:(yz rs i==r)=false:=by simpa using c
  rw[a,yv c]at f;have j:=Z c;clear h c a;go_enter func171,ntmps171;go_wp2_with fail;refine f.o.mono ?_;rintro e w1 ⟨rfl,hs,hb⟩;have n:=hs.at_;have g:=Z hs.I8;clear hs f;go_wp2_with fail;refine(Yi p 3 i w1 g.o).mono ?_;rintro e w2 ⟨hf,k⟩;have l:=Z hf;obtain⟨b,rfl,_,_⟩:=hf;clear n;go_wp2;exact⟨rfl,by rw[yv j.o];exact l.o,hb.below k⟩
def enc(r:Int):List UInt8:=(Y3 r).data.toList
def XC(r:Int):(enc r).length<=4/\(Y3 r).size<=4:=by
 have h:(Y3 r).size<=4:=by
  unfold Y3;simp only[];generalize (if DY r=true then r.toNat else TV)=x;split
  .exact(by decide:1<=4)
  split
  .exact(by decide:2<=4)
  split
  .exact(by decide:3<=4)
  .exact(by decide:4<=4)
 exact⟨by simpa[enc]using h,h⟩
def zdd(g cap:Nat)(rs:List Int)(r:Int)(w:z8)(s:rs.length<=1000000)(hc:∀j (h:j<rs.length),zk w g j (.int .i32 rs[j])) :
  zE prog 236 #[.slice (g,0) rs.length cap,.int .i32 r] w λe w'=>(∃k:Int,e = .returned k/\decide (0<=k)=rs.contains r)/\w=w':=by
 have p:=Z hc;obtain⟨n,hn⟩:=zw rs.length;have HN:=Z hn;rw[hn]at s|-;clear hc hn;go_enter func236,ntmps236;go_wp2;go_loop [8] (λi=>∃k:Nat,k<=n/\i = .int .i64 k/\r ∉ rs.take k) (λi=>n - (intOf i).toNat)
 case atStart=>exact⟨0,zJ _,rfl,zV⟩
 case round =>
  obtain⟨k,t,rfl,b⟩:=hrel;have a:=Z b;clear b;by_cases uh:k<n
  .have c:=p.o k Vv;obtain⟨x,hx⟩:=zw (rs[k]' Vv);rw[hx]at c;have m:=Z hx;clear hx;by_cases f:r=x
   .have l:(r==x)=true:=(by simpa using f);have HF:=Z (show r∈rs by rw[f,<-m.o];exact yf _);clear f;go_wp2;go_ret;exact⟨⟨k,rfl,by simpa using HF.o⟩,rfl⟩
   .have l:(r==x)=false:=(by simpa using f);have HF:=Z (show r ∉ rs.take (k+1) by
     rw[yj Vv,zS];rintro(q|q)
     .exact a.o q
     .rw[m.o]at q;exact f (zG.1 q))
    exact zfx
  .obtain rfl:k=n:=(by omega);have d:=a.o;rw[ye M0]at d;have HF:=Z d;clear d;go_wp2;go_ret;exact⟨⟨-1,rfl,by simpa using HF.o⟩,rfl⟩
def Hz(g cap:Nat)(rs:List Int)(r:Int)(w:z8)(d:rs.length<=1000000)(hc:∀j (h:j<rs.length),zk w g j (.int .i32 rs[j])) :
  zE prog 210 #[.slice (g,0) rs.length cap,.int .i32 r] w λe w'=>e = .returned (.bool (rs.contains r))/\w=w':=by
 have a:=Z (zdd g cap rs r w d hc);clear hc;go_enter func210,ntmps210;go_wp2_with fail;refine a.o.mono ?_;rintro e w' ⟨⟨k,rfl,b⟩,rfl⟩;have c:=Z b;clear b a;go_wp2;go_ret;exact⟨by rw[<-c.o];rfl,rfl⟩
def gm(r:Int):Bool:=[32,9,10,13].contains r
def xx(rs:List Int)(i:Nat):Nat:=i+((rs.drop i).takeWhile gm).length
def zdb(h:gm (yz rs i)=true):i<rs.length/\xx rs i=xx rs (i+1):=by
 have uh:i<rs.length:=by
  apply yy;intro hc;unfold yz at h;rw[zA,uG J]at h;revert h
  decide
 refine⟨uh,?_⟩;have hn:yz rs i=rs[i]:=by unfold yz;rw[zA,zj uh];rfl
 rw[hn]at h;unfold xx;rw[yd uh,xO h];simp;omega
def yx6(h:gm (yz rs i)=false):xx rs i=i:=by
 unfold xx;by_cases a:i<rs.length
 .have hn:yz rs i=rs[i]:=by unfold yz;rw[zA,zj a];rfl
  rw[hn]at h;rw[yd a,kC (by simp[h])];rfl
 .rw[yL J];rfl
def Aa(p:Nat)(w:z8):Nat:=match w.cell? (p,1) with|some v=>(intOf v).toNat|none=>0
def kx(h:xr p rs i d w):Aa p w=i:=by
 unfold Aa;rw[h.at_];simp[intOf]
def jn(p:Nat)(rs:List Int)(i d:Nat)(w:z8)(h:xr p rs i d w) :
  zE prog 172 #[(p,0)] w (ld p rs d (.tuple #[]) (xx rs i) w):=by
 have E:=Z h;obtain⟨R,hR⟩:=zw (xx rs i);rw[hR];have F:=Z hR;clear h hR;go_enter func172,ntmps172;go_wp2_with fail;go_loopw [] (λwr=>∃j,xr p rs j d wr/\xN p w wr/\xx rs j=R) (λwr=>rs.length - Aa p wr)
 case atStart=>exact⟨i,E.o,xN.refl _ _,F.o⟩
 case round =>
  obtain⟨j,hs,m,x⟩:=hrel;have z:=Z hs;have t:=Z x;clear hs x;go_wp2_with fail;refine yw ?_;intro W hW;have hb:zR wr W:=QB;have hc:∀k (h:k<4),zk W (wr:Nat) k (.int .i32 ([32,9,10,13][k]'h)):=by
   rw[hW];intro k B;rw[zZ];match k,B with
   | 0,_=>rfl
   | 1,_=>rfl
   | 2,_=>rfl
   | 3,_=>rfl
  clear hW;refine(gC p rs j d W (z.o.below hb)).mono ?_;rintro e w1 ⟨rfl,n⟩;have g:=hb.trans (n.mono hb.size);have I:(wr:Nat)<(W:Nat):=X W _ (hc 0 zW);have u:∀k (h:k<4),zk w1 (wr:Nat) k (.int .i32 ([32,9,10,13][k]'h)):=λk B=>(n.cell (p:=⟨(wr:Nat),k,none⟩) I).trans (hc k B)
  have a:=Hz (wr:Nat) 4 [32,9,10,13] (yz rs j) w1 zW u;rw[show[32,9,10,13].contains (yz rs j)=gm (yz rs j)from rfl]at a;have f:=Z a;have c:=z.o.below g;have s:=Z c;have K:=c.at_;have L:=c.z1;have D:=c.len;have A:=c.here;obtain⟨G,q⟩:∃b,gm (yz rs j)=b:=⟨_,rfl⟩;rw[q]at f;have r:=Z q;clear hc u a hb n c q;go_wp2_with fail;refine f.o.mono ?_;rintro e w' ⟨rfl,rfl⟩;cases G
  .have y:=Z (show j=R by rw[<-t.o];exact(yx6 r.o).symm);go_wp2;go_end0
   exact⟨rfl,by rw[<-y.o];exact s.o,m.below g⟩
  .obtain⟨H,l⟩:=zdb r.o;have y:=Z (show xx rs (j+1)=R by rw[<-t.o,l]);have v:=s.o.move (j+1) J;have C:=Z (show xr p rs (j+1) d (w1.setCell (zQ p 1) (.int .i64 ((j:Int)+1)))by simpa using v);clear l v;go_wp2;go_roundw
   case rel=>exact⟨j+1,C.o,(m.below g).Jv 1 _,y.o⟩
   case measure=>rw[kx C.o,kx z.o];omega
def U9(l:List Int):runesBytes l=⟨(l.flatMap enc).toArray⟩:=by
 unfold runesBytes;have h:∀(l:List Int) (a:List UInt8),l.foldl (λr n=>r++Y3 n) (⟨a.toArray⟩:ByteArray)=⟨(a++l.flatMap enc).toArray⟩:=by
  intro l;induction l with
  |nil=>intro a;simp
  |cons c t b =>
   intro a;rw[vP,append_eq,toList_mk];rw[show(Y3 c).data.toList=enc c from rfl,b];simp
 have:=h l [];rw[xV]at this;exact this
def zb0(p:Nat)(rs:List Int)(i d:Nat)(w:z8)(v:zx)(F:Int->Nat->Bool):Prop :=
 ∃k cap,v = .func (.func k) #[] cap/\(∀args w,(callFunc k args).run prog w = .ok (.enter k args) w) /\
  ∀W,xN p w W->∀n,(n=0\/i+n<=rs.length)->n<=1000000->xr p rs (i+n) d W->zE prog k (#[.int .i32 (yz rs (i+n)),.int .i64 (n:Nat)]++cap) W λe W'=>e = .returned (.bool (F (yz rs (i+n)) n))/\zR W W'
def Uz(F:Int->Nat->Bool)(rs:List Int)(i:Nat):Nat->Nat->Nat
 | 0,n=>n
 |f+1,n=>if F (yz rs (i+n)) n=true then Uz F rs i f (n+1)else n
def runN(F:Int->Nat->Bool)(rs:List Int)(i:Nat):Nat:=Uz F rs i (rs.length+1) 0
def um(rs:List Int)(i n:Nat):Wd:=((rs.drop i).take n).flatMap enc
def ynz(p:Nat)(rs:List Int)(i d n:Nat)(w:z8)(e:xX)(w':z8):Prop :=
 (if n=0 then Ge p 3 i e w' else e = .returned (zO (um rs i n))/\xr p rs (i+n) d w')/\xN p w w'
def kP(h:rs.length<=i):yz rs i = -1:=by
 unfold yz;rw[zA,uG h];rfl
variable{n:Nat}
def zb1{F:Int->Nat->Bool}{R f:Nat}(h:Uz F rs i (f+1) n=R):(F (yz rs (i+n)) n=true->Uz F rs i f (n+1)=R)/\(F (yz rs (i+n)) n=false->n=R):=by
 rw[Uz]at h;constructor
 .intro q;rw[yK q]at h;exact h
 .intro q;rw[yv (by rw[q];simp)]at h;exact h
def lZ(p:Nat)(rs:List Int)(i d:Nat)(w:z8)(v:zx)(F:Int->Nat->Bool)(h:xr p rs i d w)(hf:zb0 p rs i d w v F)(D:∀n,F (-1) n=false) :
  zE prog 211 #[(p,0),v] w (ynz p rs i d (runN F rs i) w):=by
 obtain⟨kf,cf,rfl,p7,m⟩:=hf;have HH:=Z h;have t:=Z m;obtain⟨R,hR⟩:=zw (runN F rs i);rw[hR];have HR:=Z hR;have hi0:=h.at_;have vrg:=h.here;have hL0:=h.len;clear h m hR;go_enter func211,ntmps211;go_wp2_with fail;clear hi0;go_loopw [] (λwr=>∃n,n<=rs.length/\(n=0\/i+n<=rs.length)/\xr p rs (i+n) d wr/\xN p w wr/\Uz F rs i (rs.length+1 - n) n=R) (λwr=>rs.length+1 - Aa p wr)
 case atStart=>exact⟨0,zJ _,.inl rfl,HH.o,xN.refl _ _,HR.o⟩
 case round =>
  obtain⟨n,hn,q,hs,c,G⟩:=hrel;have S:=Z hs;have M:=zb1 (F:=F) (rs:=rs) (i:=i) (n:=n) (R:=R) (f:=rs.length - n) (by rw[show rs.length - n+1=rs.length+1 - n by omega];exact G);have x:=Z M;have h5:=hs.at_;have A:zk wr.drew p 1 ((i+n:Nat):Int):=h5;have Tw:((i+n:Nat):Int) - (i:Int)=(n:Int):=J;have Ec:vG.wrap ((i:Int)+(n:Int) - (i:Int))=(n:Int):=by rw[show(i:Int)+(n:Int) - (i:Int)=(n:Int)by omega];simp[yf9,EU,OQ];omega
  clear hs G M;go_wp2_with fail;refine Vy (λW':z8=>zk W' p 1 ((i+n:Nat):Int)) [0,1,3,4,5,6,7,8] 2 A ?_;refine gU 2 (λK hK=>?_);go_simp;refine(gC p rs (i+n) d wr.drew (S.o.below (zu _ _).drew)).mono ?_;rintro e w1 ⟨rfl,W⟩;have a:zR wr w1:=(zu _ wr).drew.trans W;have u:=Z (S.o.below a);have B:zk w1 p 1 ((i+n:Nat):Int):=u.o.at_;refine hK.out _ _ B λ_=>?_;clear hK K;refine gU 9 (λK hK=>?_);go_simp;refine(t.o w1 (c.below a) n q J u.o).mono ?_;rintro e w2 ⟨rfl,y⟩;have l:=a.trans (y.mono a.size);have s:=u.o.below y;have r:=Z s;have C:zk w2 p 1 ((i+n:Nat):Int):=s.at_;have h7:=s.z1;refine hK.out _ _ C λ_=>?_;clear hK K;refine Y5 ?_ _;obtain⟨b,hb⟩:=zw (F (yz rs (i+n)) n);rw[hb];rw[hb]at x;have HB:=Z hb;clear s hb A B h5 Tw Ec
  cases b
  .have N:=Z (show n=R from x.o.2 rfl);by_cases z:n=0
   .subst z;have hq:(((i+0:Nat):Int)==(i:Int))=true:=(by simp);go_wp2_with fail;refine(Yi p 3 i w2 r.o.I8).mono ?_;rintro e w3 ⟨E,dE⟩;have O:=Z E;obtain⟨bf,rfl,_,_⟩:=E;go_wp2;exact⟨rfl,by rw[<-N.o,yK rfl];exact O.o,(c.below l).below dE⟩
   .have hq:(((i+n:Nat):Int)==(i:Int))=false:=(by simp;omega);obtain⟨⟨g,cap,c0,hlc,LW,hgp,k⟩,c1,_,_,_,_,_,_⟩:=r.o;have AJ:i+n<=rs.length:=q.resolve_left z;obtain⟨L,T⟩:=zw rs.length;have Q:=Z T;rw[T]at c0 hlc AJ;have V:zk w2.drew p 1 ((i+n:Nat):Int)/\zk w2.drew p 0 (.slice (zQ g 0) L cap)/\∀j (h:j<rs.length),zk w2.drew g j (.int .i32 rs[j]):=⟨c1,c0,k⟩;have k1:i<=i+n:=J;have k2:i+n<=cap:=J;have k3:i<=cap:=J;have k4:(i:Int)<=(i:Int)+(n:Int):=J;have k5:(i:Int)+(n:Int)<=(cap:Int):=J;have k6:((i:Int)+(n:Int)).toNat=i+n:=J;have k7:(0:Int)<=(i:Int)+(n:Int):=J;have k8:i+n - i=n:=J;have k9:(i:Int)+(n:Int) - (i:Int)=(n:Int):=J;clear T k c0 c1 C y;go_wp2_with fail;refine rt (λW':z8=>zk W' p 1 ((i+n:Nat):Int)/\zk W' p 0 (.slice (zQ g 0) L cap)/\∀j (h:j<rs.length),zk W' g j (.int .i32 rs[j])) [0,1,2,3,4,5,6,7,8,9,10,11] 0 V ?_;(iterate 10 ((first|refine ty ?_|refine tn ?_);try simp only[pl]))
    refine Gq (v:=zO (um rs i n)) rfl xG ?_ ?_
    .intro w' U;have hcv:=xj8 (P:=prog) w' 137 9 21 ⟨g,i,none⟩ n (cap - i) ((rs.drop i).take n) (by simp;have:=Q.o;omega) underlying137 underlying21 underlying9 (λj hj=>by
      have H:i+j<rs.length:=GU;have e:(⟨g,i,none⟩:yI).add j=⟨g,i+j,none⟩:=by
       unfold fG;split
       .next h=>subst h;rfl
       .rfl
      rw[e,U.2.2 (i+j) H];have hjn:j<n:=GU;simp[zA,OJ,Uw,hjn,H])
     rw[ye yF,U9]at hcv;go_simp;rw[yv (show ¬cap=i by omega),hcv];rfl
    (try simp only[Act.put,Qm,List.set_cons_zero,List.set_cons_succ])
    (iterate 1 ((first|refine ty ?_|refine tn ?_);try simp only[pl]))
    refine yW ?_;refine Y5 ?_ _;go_wp2;go_ret;exact⟨by rw[yv (by rw[<-N.o];exact z)];exact⟨by rw[<-N.o];rfl,by rw[<-N.o];exact r.o.below (zu _ _).drew⟩,(c.below l).drew⟩
  .have uh:i+n<rs.length:=by
    apply yy;intro hc;have:=HB.o;rw[kP J,D]at this;cases this
   have HG:=Z (x.o.1 rfl);have I:=r.o.move (i+(n+1)) J;have HM:=Z (show xr p rs (i+(n+1)) d (w2.setCell (zQ p 1) (.int .i64 ((i:Int)+(n:Int)+1)))by rw[show(i:Int)+(n:Int)+1=((i+(n+1):Nat):Int)by omega];exact I);clear I;go_wp2;go_roundw
   case rel=>exact⟨n+1,J,.inr J,HM.o,(c.below l).Jv 1 _,by rw[show rs.length+1 - (n+1)=rs.length - n by omega];exact HG.o⟩
   case measure=>rw[kx HM.o,kx S.o];omega
def jw(r:Int)(n:Nat):Bool:=decide (n<16) && (qK r ||(decide (0<n) && vN r))
def p8(r:Int)(n:Nat)(w:z8)(hn:n<=1000000):zE prog 212 #[.int .i32 r,(n:Nat)] w λe w'=>e = .returned (.bool (jw r n))/\w=w':=by
 obtain⟨l,c⟩:∃b,qK r=b:=⟨_,rfl⟩;obtain⟨dg,EB⟩:∃b,vN r=b:=⟨_,rfl⟩;have f:=Z (c▸Kz r w);have d:=Z (EB▸Qu r w);have a:=Z (show jw r n=(decide (n<16) && (l ||(decide (0<n) && dg)))by unfold jw;rw[c,EB]);clear c EB;by_cases h1:n<16
 .have g1:decide (n<16)=true:=decide_eq_true h1;go_enter func212,ntmps212;go_wp2_with fail;refine f.o.mono ?_;rintro e w' ⟨rfl,rfl⟩;cases l
  .by_cases h2:0<n
   .have g2:decide (0<n)=true:=decide_eq_true h2;go_wp2_with fail;refine d.o.mono ?_;rintro e w' ⟨rfl,rfl⟩;go_wp2;go_ret;exact⟨by rw[a.o,g1,g2];simp,rfl⟩
   .have g2:decide (0<n)=false:=decide_eq_false h2;go_wp2;go_ret;exact⟨by rw[a.o,g1,g2];simp,rfl⟩
  .go_wp2;go_ret;exact⟨by rw[a.o,g1];simp,rfl⟩
 .have g1:decide (n<16)=false:=decide_eq_false h1;go_enter func212,ntmps212;go_wp2;go_ret;exact⟨by rw[a.o,g1];simp,rfl⟩
def ku(rs:List Int)(i:Nat):Nat:=runN jw rs i
def Ju(p:Nat)(rs:List Int)(i d:Nat)(w:z8)(h:xr p rs i d w) :
  zE prog 173 #[(p,0)] w (ynz p rs i d (ku rs i) w):=by
 have hf:zb0 p rs i d w (.func (.func 212) #[] #[]) jw :=
  ⟨_,_,rfl,λargs w=>xG,λW _ n _ hn _=>(p8 (yz rs (i+n)) n W hn).mono λe w' q=>⟨q.1,q.2▸zu _ _⟩⟩
 have f:=Z (lZ p rs i d w _ jw h hf (λn=>by unfold jw;simp[qK,vN]));rw[show runN jw rs i=ku rs i from rfl]at f;obtain⟨n,hn⟩:=zw (ku rs i);rw[hn]at f|-;clear h hf hn;go_enter func173,ntmps173;go_wp2_with fail;refine f.o.mono ?_;rintro e w1 ⟨a,hb⟩;by_cases h0:n=0
 .rw[yK h0]at a;have g:=Z a;obtain⟨b,rfl,_,_⟩:=a;have c:=Z h0;clear h0;go_wp2;exact⟨rfl,by rw[yK c.o];exact g.o,hb⟩
 .rw[yv h0]at a;obtain⟨rfl,hs⟩:=a;have c:=Z h0;clear h0;go_wp2;go_ret;exact⟨by rw[yv c.o];exact⟨rfl,hs⟩,hb⟩
def gj(r0:Int)(r:Int)(n:Nat):Bool:=(decide (n<9) && vN r) && (decide (n=0) ||r0 !=48)
def Ac(p bt k:Nat)(rs:List Int)(i n d:Nat)(w:z8)(hs:xr p rs (i+n) d w)(hn:n<=1000000)(hi:n=0\/i+n<=rs.length)(B:zk w bt 0 (p,0))(hf:zk w k 0 i)(r:Int) :
  zE prog 214 #[.int .i32 r,n,(bt,0),(k,0)] w λe w'=>e = .returned (.bool (gj (yz rs i) r n))/\zR w w':=by
 obtain⟨dg,EB⟩:∃b,vN r=b:=⟨_,rfl⟩;have HD:=Z (λW=>EB▸Qu r W);obtain⟨j,f⟩:∃q,yz rs i=q:=⟨_,rfl⟩;rw[f];have HF:=Z (show gj j r n=((decide (n<9) && dg) && (decide (n=0) ||j !=48))by unfold gj;rw[EB]);obtain⟨⟨g,cap,c0,u,y,z,a⟩,c1,_,_,_,_,_,_⟩:=hs;obtain⟨L,l⟩:=zw rs.length;rw[l]at c0 u hi;have v:=Z (show i<L->zk w g i (.int .i32 j)from λh=>by
  rw[a i (by rw[l];exact h),<-f];unfold yz;rw[zA,zj (by rw[l];exact h)];rfl)
 clear EB f a l;by_cases h1:n<9
 .have g1:decide (n<9)=true:=decide_eq_true h1;have m:decide ((n:Int)<9)=true:=by simp;omega
  cases dg
  .exact zd1
  .by_cases h0:n=0
   .subst h0;exact zd1
   .have g2:decide (n=0)=false:=decide_eq_false h0;have C:(n==0)=false:=(by simpa using h0);have x:((n:Int)==0)=false:=yF;have A:=hi.resolve_left h0;have t:i<L:=J;have s:=v.o t;have c:zk w.drew bt 0 (zQ p 0)/\zk w.drew k 0 i/\zk w.drew p 0 (.slice (zQ g 0) L cap)/\zk w.drew g i (.int .i32 j):=⟨B,hf,c0,s⟩;go_enter func214,ntmps214;go_wp2_with fail;refine Vy (λW':z8=>zk W' bt 0 (zQ p 0)/\zk W' k 0 i/\zk W' p 0 (.slice (zQ g 0) L cap)/\zk W' g i (.int .i32 j)) [0,1,2,3] 17 c ?_;refine gU 4 (λK hK=>?_);go_simp;refine(HD.o _).mono ?_;rintro e w' ⟨rfl,rfl⟩;refine hK.out _ _ c λ_=>?_;clear hK K;refine Ve [5,6,7,8,9,10,11,12,13,14,15,16,17,18,19,20] 0 c ?_;refine Y5 ?_ _;go_wp2;go_ret;exact⟨by rw[HF.o,g1,g2];simp,(zu _ _).drew⟩
 .have g1:decide (n<9)=false:=decide_eq_false h1;have m:decide ((n:Int)<9)=false:=by simp;omega
  go_enter func214,ntmps214;go_wp2_with fail;refine qh (λW':z8=>True) [0,1,2,3] 17 ZW yg yg (show True from trivial) ?_;(iterate 4 ((first|refine ty ?_|refine tn ?_);try simp only[pl]))
  refine yW ?_;refine gU 4 (λK hK=>?_);rw[yv (by exact zzk)];exact yd7
def qj(rs:List Int)(i:Nat):Nat:=runN (gj (yz rs i)) rs i
def IY(p:Nat)(rs:List Int)(i d:Nat)(w:z8)(h:xr p rs i d w) :
  zE prog 177 #[(p,0)] w (ynz p rs i d (qj rs i) w):=by
 have l:=Z h;have s:=h.lt;have r:=h.at_;obtain⟨n,hn⟩:=zw (qj rs i);rw[hn];have m:=Z hn;clear h hn;go_enter func177,ntmps177;go_wp2_with fail;refine yw ?_;intro W hW;have hb:zR w W:=MY;have t:zk W (w:Nat) 0 (zQ p 0):=by rw[hW];go_simp
 have hf:zk W ((w:Nat)+1) 0 i:=by rw[hW];go_simp
 clear hW r;have g:zb0 p rs i d W (.func (.func 214) #[] #[(w,0),((w:Nat)+1,0)]) (gj (yz rs i)) :=
  ⟨_,_,rfl,λargs w=>xG,λW' c n hi hn hs=>Ac p w.heap.size (w.heap.size+1) rs i n d W' hs hn hi (c.cell t (by show w.heap.size≠p;omega)) (c.cell hf (by show w.heap.size+1≠p;omega)) (yz rs (i+n))⟩
 refine(lZ p rs i d W _ (gj (yz rs i)) (l.o.below hb) g (λn=>by unfold gj;simp[vN])).mono ?_;rintro e w1 ⟨f,k⟩;rw[show runN (gj (yz rs i)) rs i=n from m.o]at f;have a:=(xN.of (p:=p) hb).trans k;by_cases h0:n=0
 .rw[yK h0]at f;have q:=Z f;obtain⟨b,rfl,_,_⟩:=f;have j:=Z h0;clear h0;go_wp2;exact⟨rfl,by rw[yK j.o];exact q.o,a⟩
 .rw[yv h0]at f;obtain⟨rfl,hs⟩:=f;have j:=Z h0;clear h0;go_wp2;go_ret;exact⟨by rw[yv j.o];exact⟨rfl,hs⟩,a⟩
def Ae(g1 s c1 g2 c2:Nat)(a c:List Int)(w:z8)(E:a.length<=1000000)(u:c.length<=1000000)(h1:∀j (h:j<a.length),zk w g1 (s+j) (.int .i32 a[j]))(h2:∀j (h:j<c.length),zk w g2 j (.int .i32 c[j])) :
  zE prog 213 #[.slice (g1,s) a.length c1,.slice (g2,0) c.length c2] w λe w'=>e = .returned (.bool (decide (a=c)))/\zR w w':=by
 have C:=Z h1;have D:=Z h2;clear h1 h2;obtain⟨n,hn⟩:=zw a.length;obtain⟨m,hm⟩:=zw c.length;have HN:=Z hn;have l:=Z hm;rw[hn]at E|-;rw[hm]at u|-;obtain⟨R,hR⟩:∃b,decide (a=c)=b:=⟨_,rfl⟩;rw[hR];have t:=Z hR;clear hn hm hR;by_cases B:n=m
 .subst B;go_enter func213,ntmps213;go_wp2;go_loopw [13] (λi wr=>∃k:Nat,k<=n/\i = .int .i64 k/\a.take k=c.take k/\zR w wr) (λi _=>n - (intOf i).toNat)
  case atStart=>exact⟨0,zJ _,rfl,rfl,zu _ _⟩
  case round =>
   obtain⟨k,G,rfl,q,hb⟩:=hrel;have v:=Z q;clear q;by_cases uh:k<n
   .have d:=C.o k Vv;have f:=D.o k (by rw[l.o];exact uh);obtain⟨x,hx⟩:=zw (a[k]' Vv);obtain⟨y,hy⟩:=zw (c[k]'(by rw[l.o];exact uh));rw[hx]at d;rw[hy]at f;have z:=Z hx;have A:=Z hy;have d1:=(hb.cell (X _ _ d)).trans d;have d2:=(hb.cell (X _ _ f)).trans f;have p:zk wr.drew g1 (s+k) (.int .i32 x)/\zk wr.drew g2 k (.int .i32 y):=⟨d1,d2⟩;clear hx hy d f d1 d2;by_cases g:x=y
    .have r:(x !=y)=false:=(by simpa using g);have HF:=Z (show a.take (k+1)=c.take (k+1) by
      rw[yj Vv,yj (by rw[l.o];exact uh),v.o,z.o,A.o,g])
     go_wp2_with fail;refine Vy (λW':z8=>zk W' g1 (s+k) (.int .i32 x)/\zk W' g2 k (.int .i32 y)) [0,1,2,3,4,5,6,7,8] 0 p ?_;refine Y5 ?_ _;go_wp2;go_roundw
     case rel=>exact⟨k+1,J,uN,HF.o,hb.drew⟩
     case measure=>simp[intOf];omega
    .have r:(x !=y)=true:=(by simpa using g);have HF:=Z (show R=false by
      rw[<-t.o,decide_eq_false_iff_not];intro e;subst e;exact g (z.o.symm.trans A.o))
     go_wp2_with fail;refine Vy (λW':z8=>zk W' g1 (s+k) (.int .i32 x)/\zk W' g2 k (.int .i32 y)) [0,1,2,3,4,5,6,7,8] 0 p ?_;refine Y5 ?_ _;go_wp2;go_ret;exact⟨gJ,hb.drew⟩
   .obtain rfl:k=n:=(by omega);have HF:=Z (show R=true by
     rw[<-t.o,decide_eq_true_eq];have h:=v.o;rw[ye M0,ye (by rw[l.o];exact Y _)]at h;exact h)
    go_wp2;go_ret;exact⟨gJ,hb⟩
 .have HF:=Z (show R=false by
   rw[<-t.o,decide_eq_false_iff_not];intro e;subst e;exact B (HN.o.symm.trans l.o))
  have F:((n:Int) !=(m:Int))=true:=yF;go_enter func213,ntmps213;go_wp2;go_ret;exact⟨gJ,zu _ _⟩
def Hy:List Int:=[111,102,102,115,101,116,58]
def Du(rs:List Int)(i:Nat):Bool:=decide ((rs.drop i).take 7=Hy)
def IX:Vf (⟨#[111,102,102,115,101,116,58]⟩:ByteArray) 7 0 #[]=(Hy.map (yZ .i32)).toArray:=yg
def PO(p:Nat)(rs:List Int)(i d:Nat)(w:z8)(h:xr p rs i d w) :
  zE prog 176 #[(p,0),.string ⟨#[111,102,102,115,101,116,58]⟩] w (ld p rs d (.bool (Du rs i)) (if Du rs i=true then i+7 else i) w):=by
 have U:=Z h;have hcv:=λW=>run_runes_of_string (P:=prog) W 9 137 21 ⟨#[111,102,102,115,101,116,58]⟩ underlying9 underlying137 underlying21 (by rw[show(⟨#[111,102,102,115,101,116,58]⟩:ByteArray).size=7 from rfl,IX];decide)
 have F:∃M W,(convert 9 137 (.string ⟨#[111,102,102,115,101,116,58]⟩)).run prog w = .ok (.slice (w,0) 7 M) W/\zR w W/\∀j (h:j<Hy.length),zk W (w:Nat) j (.int .i32 Hy[j]):=by
  refine⟨_,_,hcv w,(zu _ _).drew.alloc (Y _) _,λj hj=>?_⟩;rw[show (w:Nat)=w.drew.heap.size from rfl,zZ];rw[show(⟨#[111,102,102,115,101,116,58]⟩:ByteArray).size=7 from rfl,IX];rw[Array.getElem?_append_left My];simp
 obtain⟨M,W,A,b,c⟩:=F;obtain⟨⟨g,cap,c0,S,LW,hgp,r⟩,c1,_,_,_,y,q,_⟩:=h;have f:=X w _ c1;have H:=Z (λj (hj:j<rs.length)=>(b.cell (X _ _ (r j hj))).trans (r j hj));have t:=Z c;obtain⟨L,Q⟩:=zw rs.length;rw[Q]at c0 S y q;have C:=Z Q;have m:zk W.drew p 1 i/\zk W.drew p 0 (.slice (zQ g 0) L cap):=⟨(b.cell (p:=(zQ p 1)) f).trans c1,(b.cell (p:=(zQ p 0)) f).trans c0⟩;obtain⟨B,hB⟩:=zw (Du rs i);rw[hB];have T:=Z hB;obtain⟨I,O⟩:=zw ((if B=true then i+7 else i));rw[O];have E:=Z O;clear O;obtain⟨N,hN⟩:=zw (w:Nat);rw[hN]at A t;clear hcv c r Q hB;have hw1:vG.wrap ((L:Int) - (i:Int))=(L:Int) - (i:Int):=zx1;by_cases hsh:L<i+7
 .have g1:decide ((L:Int) - (i:Int)<7)=true:=by simp;omega
  have HF:=Z (show B=false by
   rw[<-T.o];unfold Du;rw[decide_eq_false_iff_not];intro e;have V:=congrArg xJ e;rw[u4,yr,C.o]at V;have e3:Hy.length=7:=rfl;omega)
  go_enter func176,ntmps176;go_wp2_with fail;refine Vy (λW':z8=>zk W' p 1 i/\zk W' p 0 (.slice (zQ g 0) L cap)) [0,1,2,3,4,5,6,7,8,9,10,11,12,13,14,15,16,17,18,19,20,21,22,23,24,25,26,27,28,29,30] 3 m ?_;refine gU 31 (λK hK=>?_);rw[yv (by exact zzk)];refine hK.out _ _ m λ_=>?_;clear hK K;refine Ve [32,33] 0 m ?_;refine Y5 ?_ _;go_wp2;go_ret;have k:I=i:=by rw[<-E.o,HF.o];rfl
  exact⟨gJ,by rw[k];exact U.o.below b.drew,xN.of b.drew⟩
 .have g1:decide ((L:Int) - (i:Int)<7)=false:=by simp;omega
  have g2:vG.wrap ((i:Int)+7)=(i:Int)+7:=zx1;have k1:i<=i+7:=J;have k2:i+7<=cap:=J;have k3:i<=cap:=J;have k4:(i:Int)<=(i:Int)+7:=J;have k5:(i:Int)+7<=(cap:Int):=J;have k6:((i:Int)+7).toNat=i+7:=J;have k7:(0:Int)<=(i:Int)+7:=J;have k8:i+7 - i=7:=J;have k9:(i:Int)+7 - (i:Int)=7:=J;have k10:¬cap=i:=J;have l:((rs.drop i).take 7).length=7:=by rw[u4,yr,C.o];omega
  have n:=Ae g i (cap - i) N M ((rs.drop i).take 7) Hy W.drew (by rw[l];decide) zW (λj hj=>by
   have R:i+j<rs.length:=(by rw[C.o];rw[l]at hj;omega);have hj3:j<7:=(by rw[l]at hj;exact hj);refine(H.o (i+j) R).trans ?_;simp[List.getElem_take,List.getElem_drop]) t.o
  rw[l,show Hy.length=7 from rfl,show decide ((rs.drop i).take 7=Hy)=B from T.o]at n;have D:=Z n;clear l n;go_enter func176,ntmps176;go_wp2_with fail;refine Vy (λW':z8=>zk W' p 1 i/\zk W' p 0 (.slice (zQ g 0) L cap)) [0,1,2,3,4,5,6,7,8,9,10,11,12,13,14,15,16,17,18,19,20,21,22,23,24,25,26,27,28,29,30] 3 m ?_;refine gU 31 (λK hK=>?_);go_simp;refine D.o.mono ?_;rintro e w2 ⟨rfl,x⟩;have hW2:(W:Nat)<=(w2:Nat):=x.size;have a:zR w w2:=(b.drew).trans (x.mono b.size);have s:=U.o.below a;have u:=Z s;have v:zk w2 p 1 i/\zk w2 p 0 (.slice (zQ g 0) L cap):=⟨(a.cell (p:=(zQ p 1)) f).trans c1,(a.cell (p:=(zQ p 0)) f).trans c0⟩;have h7:=s.z1;refine hK.out _ _ v λ_=>?_;clear hK K s;refine Ve [32,33] 0 v ?_;refine Y5 ?_ _
  cases B
  .go_wp2;go_ret;have k:I=i:=(by rw[<-E.o];rfl);exact⟨rfl,by rw[k];exact u.o,xN.of a⟩
  .have z:=u.o.move (i+7) (by rw[C.o];omega);have G:=Z z;clear z;go_wp2;go_ret;have k:I=i+7:=(by rw[<-E.o];rfl);exact⟨rfl,by rw[k];simpa using G.o,(xN.of a).Jv 1 _⟩
def Yd:List ByteArray:=[⟨#[122,101,114,111]⟩,⟨#[111,110,101]⟩,⟨#[116,119,111]⟩,⟨#[102,101,119]⟩,⟨#[109,97,110,121]⟩,⟨#[111,116,104,101,114]⟩]
def qu(w:z8):Prop:=∀j,j<6->zk w 0 j (.string (Yd.getD j Y7))
def qu.below(h:qu w)(hb:zR w w'):qu w':=λj a=>(hb.cell (X w _ (h j a))).trans (h j a)
def Uy:List (List UInt8):=[[122,101,114,111],[111,110,101],[116,119,111],[102,101,119],[109,97,110,121],[111,116,104,101,114]]
variable{j:Nat}
def Hx(x:Wd):Lib.containsS (Yd.take 6) ⟨x.toArray⟩=decide (x∈Uy):=by
 have e:Yd.take 6=Uy.map (λl=>(⟨l.toArray⟩:ByteArray)):=rfl;rw[e,xA,decide_eq_true_eq,Lib.containsS_iff,uy];constructor
 .rintro⟨y,hy,h2⟩;have a:=congrArg (λb:ByteArray=>b.data.toList) h2;simp at a;rw[<-a];exact hy
 .intro h;exact⟨x,h,rfl⟩
def Mm(x:Wd)(w:z8)(h:qu w):zE prog 215 #[zO x] w λe w'=>e = .returned (.bool (decide (x∈Uy)))/\w=w':=by
 have a:=Z (Tryz.slices_Contains_string 0 0 6 6 Yd ⟨x.toArray⟩ w zW zW (λj b=>by rw[uE];exact h j b));rw[Hx]at a;go_enter func215,ntmps215;go_wp2_with fail;refine a.o.mono ?_;rintro e w' ⟨rfl,rfl⟩;go_wp2;go_ret;exact⟨rfl,rfl⟩
def xg:List Int->List Int×Nat
 |[]=>([],0)
 |c::t=>if c=39 then
   match t with
   |[]=>([],1)
   |d::u=>if d=39 then (39::(xg u).1,(xg u).2+2)else ([],1)
  else (c::(xg t).1,(xg t).2+1)
def qq(rs:List Int)(num:Bool)(i:Nat):Wd×Nat :=
 if yz rs i≠39 then (enc (yz rs i),i+1)
 else if yz rs (i+1)=39 then (enc 39,i+2)
 else if kg (yz rs (i+1)) num=false then (enc 39,i+1)
 else ((xg (rs.drop (i+1))).1.flatMap enc,i+1+(xg (rs.drop (i+1))).2)
def BS:Yz prog 137 21 (.int .i32 0) 1 4 :=
 ⟨underlying137,V9 yg,rfl,zW,zW⟩
def p9(h:rs.length<=j):xg (rs.drop j)=([],0):=by rw[yL h,xg]
def ZA(h:j<rs.length):rs.drop j=yz rs j::rs.drop (j+1):=by
 rw[yd h];exact zu8
def Ai(h:j<rs.length)(a:yz rs j≠39):xg (rs.drop j)=(yz rs j::(xg (rs.drop (j+1))).1,(xg (rs.drop (j+1))).2+1):=by
 rw[ZA h,xg.eq_def];dsimp only;rw[yv a]
def pz(h:j<rs.length)(b:yz rs j=39)(h2:yz rs (j+1)=39):xg (rs.drop j)=(39::(xg (rs.drop (j+2))).1,(xg (rs.drop (j+2))).2+2):=by
 have a:j+1<rs.length:=zg3;rw[ZA h,ZA a,xg.eq_def];dsimp only;rw[yK b,yK h2]
def Al(h:j<rs.length)(b:yz rs j=39)(h2:yz rs (j+1)≠39):xg (rs.drop j)=([],1):=by
 rw[ZA h,xg.eq_def];dsimp only;rw[yK b];by_cases a:j+1<rs.length
 .rw[ZA a];dsimp only;rw[yv h2]
 .rw[yL J]
variable{xs:List zx}{size:Nat}{e:xM}{v:zx}
def Jq{base:Nat}(h:w.ownsRow base e size v n xs)(hb:xN p w w')(hp:p<base):w'.ownsRow base e size v n xs :=
 h.kept (row:=some p) ⟨hb.os,hb.tape,hb.output,hb.size,λi hi hn=>hb.block i hi (λe=>hn (by rw[e]))⟩ (zxb)
def py:∀(n:Nat) (l:List Int),l.length<=n->(xg l).2<=l.length/\(xg l).1.length<=l.length:=zj9
def PR{num:Bool}(h:i<rs.length):i<(qq rs num i).2/\(qq rs num i).2<=rs.length:=by
 unfold qq;split
 .exact⟨by show i<i+1;omega,by show i+1<=_;omega⟩
 split
 .next h2 =>
  have:i+1<rs.length:=zg3;exact⟨by show i<i+2;omega,by show i+2<=_;omega⟩
 split
 .exact⟨by show i<i+1;omega,by show i+1<=_;omega⟩
 .have:=(py _ (rs.drop (i+1)) (Y _)).1;rw[yr]at this;exact⟨by show i<i+1+_;omega,by show i+1+_<=_;omega⟩
def BW{base:Nat}{acc:List Int}(h:w.ownsRow base 21 1 v acc.length (acc.map (yZ .i32))) :
  (convert 137 206 v).run prog w = .ok (zO (acc.flatMap enc)) w:=by
 rcases h.2 with⟨hv,hn⟩|⟨g,cap,a,hv,_⟩
 .have:acc=[]:=zN hn;subst this;rw[hv,run_convert_runes_nil w _ _ 21 _ _ underlying137 underlying21 underlying206];rfl
 .subst hv;have hc:=xj8 (P:=prog) w 137 206 21 ⟨g,0,none⟩ acc.length cap acc (Y _) underlying137 underlying21 underlying206 (λj b=>by
   rw[ve,h.cellAt j J];simp[zA,b])
  rw[YP,U9]at hc;exact hc
def zb2(p:Nat)(rs:List Int)(i d:Nat)(num:Bool)(w:z8)(h:xr p rs i d w)(hi:i<rs.length) :
  zE prog 131 #[(p,0),.bool num] w (ld p rs d (zO (qq rs num i).1) (qq rs num i).2 w):=by
 have HH:=Z h;have HN:=Z (gC p rs i d w h);have hL:=h.len;have y:=h.lt;obtain⟨T,hT⟩:=zw (qq rs num i);rw[hT];have HT:=Z hT;obtain⟨T1,T2⟩:=T;dsimp only;obtain⟨q,Q⟩:=zw (yz rs i);rw[Q]at HN;have HQ:=Z Q;clear h hT Q;go_enter func131,ntmps131;go_wp2_with fail;refine HN.o.mono ?_;rintro e w1 ⟨rfl,qI⟩;have Vu:=HH.o.below qI;have h5:=Vu.at_;have h7:=Vu.z1;have N:=Vu.move (i+1) J;have HM:=Z (show xr p rs (i+1) d (w1.setCell (zQ p 1) (.int .i64 ((i:Int)+1)))by rw[show(i:Int)+1=((i+1:Nat):Int)by omega];exact N);have s:xN p w (w1.setCell (zQ p 1) (.int .i64 ((i:Int)+1))):=(xN.of qI).Jv 1 _;obtain⟨W,hW⟩:=zw (w1.setCell (zQ p 1) (.int .i64 ((i:Int)+1)));rw[hW]at HM s;have HW:=Z hW;clear Vu N qI HN hW;by_cases z:q=39
 .have KO:(q !=39)=false:=by rw[z];rfl
  have m:=HT.o;unfold qq at m;rw[yv (by rw[HQ.o,z];simp)]at m;have H:=Z m;have a:=U7 p rs (i+1) d 39 W HM.o zW;clear m HQ;subst z;by_cases f:yz rs (i+1)=39
  .rw[show(yz rs (i+1)==39)=true by simpa using f,yK f]at a;have HTK:=Z a;have HE:=Z (show(enc 39,i+2)=(T1,T2)by have h:=H.o;rw[yK f]at h;exact h);clear a f;go_wp2_with fail;rw[HW.o];refine HTK.o.mono ?_;rintro e w2 ⟨rfl,R,qX⟩;have F:=Z R;clear R;go_wp2;go_ret;have he:=HE.o;cases he;exact⟨rfl,F.o,s.trans qX⟩
  .rw[show(yz rs (i+1)==39)=false by simpa using f,yv f]at a;have HTK:=Z a;have hT3:=H.o;rw[yv f]at hT3;have HT3:=Z hT3;obtain⟨sp,hsp⟩:∃b,kg (yz rs (i+1)) num=b:=⟨_,rfl⟩;have HSP:=Z hsp;clear a hT3 hsp H;go_wp2_with fail;rw[HW.o];refine HTK.o.mono ?_;rintro e w2 ⟨rfl,R,qX⟩;have F:=Z R;have K:=s.trans qX;clear R qX HTK HW HM s;go_wp2_with fail;refine(gC p rs (i+1) d w2 F.o).mono ?_;rintro e w3 ⟨rfl,dE⟩;have PU:=Z (F.o.below dE);have L:=K.below dE;clear dE K F;go_wp2_with fail;refine(U8 (yz rs (i+1)) num w3).mono ?_;rintro e w' ⟨rfl,rfl⟩;rw[HSP.o];cases sp
   .have HE:=Z (show(enc 39,i+1)=(T1,T2)by have h:=HT3.o;rw[yK HSP.o]at h;exact h);go_wp2;go_ret;have he:=HE.o;cases he;exact⟨rfl,PU.o,L⟩
   .have HE:=Z (show((xg (rs.drop (i+1))).1.flatMap enc,i+1+(xg (rs.drop (i+1))).2)=(T1,T2)by have h:=HT3.o;rw[yv (by rw[HSP.o];simp)]at h;exact h);clear HT3 HSP HT f;go_wp2_with fail;obtain⟨wq,Bd⟩:∃x,x=w3:=⟨_,rfl⟩;obtain⟨E1,hE1⟩:∃x,(xg (rs.drop (i+1))).1=x:=⟨_,rfl⟩;obtain⟨E2,hE2⟩:∃x,i+1+(xg (rs.drop (i+1))).2=x:=⟨_,rfl⟩;have HE1:=Z hE1;have HE2:=Z hE2;clear hE1 hE2;go_loopw [5,6] (λrv tv wr=>∃(j:Nat) (r:Int) (acc:List Int),j<=rs.length/\rv = .int .i32 r/\xr p rs j d wr/\xN p w wr/\wr.ownsRow (w:Nat) 21 1 tv acc.length (acc.map (yZ .i32))/\acc.length<=j/\acc++(xg (rs.drop j)).1=E1/\j+(xg (rs.drop j)).2=E2) (λ_ _ wr=>rs.length - Aa p wr)
    case atStart=>exact⟨i+1,39,[],J,rfl,PU.o,L,xz _ _ _ _,zV,HE1.o,HE2.o⟩
    case round =>
     obtain⟨j,r,acc,hj,rfl,hs,XO,P,Ke,ha1,ha2⟩:=hrel;obtain⟨HS,HO,U,V⟩:=hdd hs P ha1 ha2;obtain⟨ta,tc,rfl⟩:=zo P;clear hs P ha1 ha2;go_wp2_with fail;refine(gC p rs j d wr HS.o).mono ?_;rintro e w4 ⟨rfl,VT⟩;have Ow:=HS.o.below VT;have Iu:=Z Ow;have OL:=Z (Jq HO.o (xN.of (p:=p) VT) y);have xdb:=XO.below VT;clear Ow VT XO;by_cases v:j<rs.length
     .obtain⟨c,hc⟩:=zw (yz rs j);rw[hc];have wI:0<=c:=by
       rw[<-hc];unfold yz;rw[zA,zj v];exact Iu.o.pos _ (yf v)
      have VK:c≠-1:=J;have HC:=Z hc;clear hc;go_wp2_with fail;refine(gC p rs j d w4 Iu.o).mono ?_;rintro e w5 ⟨rfl,ZV⟩;rw[HC.o];have hs5:=Iu.o.below ZV;have oA:=Z (Jq OL.o (xN.of (p:=p) ZV) y);have yx8:=xdb.below ZV;have g5:=hs5.at_;have g7:=hs5.z1;have N:=hs5.move (j+1) J;have hM:xr p rs (j+1) d (w5.setCell (zQ p 1) (.int .i64 ((j:Int)+1))):=(by rw[show(j:Int)+1=((j+1:Nat):Int)by omega];exact N);have hO6:=Jq oA.o (xN.set p w5 1 (.int .i64 ((j:Int)+1))) y;have t:xN p w (w5.setCell (zQ p 1) (.int .i64 ((j:Int)+1))):=yx8.Jv 1 _;obtain⟨W6,EA⟩:∃W,w5.setCell (zQ p 1) (.int .i64 ((j:Int)+1))=W:=⟨_,rfl⟩;rw[EA]at hM hO6 t;have HM6:=Z hM;have HO6:=Z hO6;have HW6:=Z EA;clear hs5 N hM hO6 ZV yx8 EA;by_cases g:c=39
      .have TN:(c==39)=true:=(by rw[g];rfl);have D:=U7 p rs (j+1) d 39 W6 HM6.o zW;by_cases l:yz rs (j+1)=39
       .rw[show(yz rs (j+1)==39)=true by simpa using l,yK l]at D;have n:=Z D;have E:=Z (pz v (HC.o.trans g) l);have hj2:j+1<rs.length:=by
         apply yy;intro hcc;rw[kP J]at l;cases l
        subst g;clear D l;go_wp2_with fail;rw[HW6.o];refine n.o.mono ?_;rintro e w7 ⟨rfl,S,A⟩;have OP:=Z S;have HO7:=Z (Jq HO6.o A y);have C:=t.trans A;have ynv:(w:Nat)<=(w7:Nat):=C.size;clear S A n;go_wp2_with (first|(at_builtin;refine jx BS rfl _ _ rfl (w:Nat) _ acc.length (acc.map (yZ .i32)) rfl (HO7.o.alloc _) ⟨(w7:Nat),0,none⟩ 1 1 [.int .i32 39] rfl rfl ?a1 ?a2 ?a3 ?a4 ?_)|fail)
        case a1=>exact cells_one (zZ _ _ _ _ _)
        case a2 =>
         exact FB
        case a3=>have:=OP.o.len;omega
        case a4=>simp;omega
        intro v8 w8 O B;have k:∀q,(ux ta acc.length tc).ownBlock=some q->(w:Nat)<=q:=λq Q=>(HO7.o.lt q Q).1
        have M:xN p w w8:=(C.below ((zu _ _).alloc (Y _) _)).grown B k;have I:=(OP.o.below ((zu _ _).alloc (Y _) _)).grown B (λq Q=>by have:=k q Q;omega);have G:=Z I;have HO8:=Z (show w8.ownsRow (w:Nat) 21 1 v8 (acc++[39]).length ((acc++[39]).map (yZ .i32))by simpa using O);clear O B I;go_wp2;go_roundw
        case rel=>exact⟨j+2,39,acc++[39],J,rfl,G.o,M,HO8.o,yF,by rw[<-U.o,E.o];simp,by rw[<-V.o,E.o];omega⟩
        case measure=>rw[kx G.o,kx HS.o];omega
       .rw[show(yz rs (j+1)==39)=false by simpa using l,yv l]at D;have n:=Z D;have hqq:=Al v (HC.o.trans g) l;have EN:=Z (show acc=E1 by rw[<-U.o,hqq];simp);have Va:=Z (show j+1=E2 by rw[<-V.o,hqq]);subst g;clear D l hqq;go_wp2_with fail;rw[HW6.o];refine n.o.mono ?_;rintro e w7 ⟨rfl,S,A⟩;have OP:=Z S;have HO7:=Z (Jq HO6.o A y);have C:=t.trans A;have hcv:=BW HO7.o;clear S A n;go_wp2;go_ret;have he:=HE.o;rw[HE1.o,HE2.o]at he;cases he;exact⟨by rw[EN.o];rfl,by rw[<-Va.o];exact OP.o,C⟩
      .have TN:(c==39)=false:=(by simpa using g);have E:=Z (Ai v (λe=>g (HC.o.symm.trans e)));have zb4:(w:Nat)<=(W6:Nat):=t.size;have vjg:=HW6.o;subst vjg;go_wp2_with (first|(at_builtin;refine jx BS rfl _ _ rfl (w:Nat) _ acc.length (acc.map (yZ .i32)) rfl (HO6.o.alloc _) ⟨(w5:Nat),0,none⟩ 1 1 [.int .i32 c] rfl rfl ?a1 ?a2 ?a3 ?a4 ?_)|fail)
       case a1 =>
        have e:(w5.setCell (p,1) (.int .i64 ((j:Int)+1))).heap.size=(w5:Nat):=ZM;have h:=zZ (w5.setCell (zQ p 1) (.int .i64 ((j:Int)+1))) #[.int .i32 c] 21 (0,0) 0;rw[e]at h;exact cells_one h
       case a2 =>
        exact FB
       case a3=>have:=HM6.o.len;omega
       case a4=>exact zg zb4 zV
       intro v8 w8 O B;have k:∀q,(ux ta acc.length tc).ownBlock=some q->(w:Nat)<=q:=λq Q=>(HO6.o.lt q Q).1
       have M:xN p w w8:=(t.below ((zu _ _).alloc (Y _) _)).grown B k;have I:=(HM6.o.below ((zu _ _).alloc (Y _) _)).grown B (λq Q=>by have:=k q Q;omega);have G:=Z I;have HO8:=Z (show w8.ownsRow (w:Nat) 21 1 v8 (acc++[c]).length ((acc++[c]).map (yZ .i32))by simpa using O);clear O B I;go_wp2;go_roundw
       case rel=>exact⟨j+1,c,acc++[c],J,rfl,G.o,M,HO8.o,yF,by rw[<-U.o,E.o,HC.o];simp,by rw[<-V.o,E.o];omega⟩
       case measure=>rw[kx G.o,kx HS.o];omega
     .have HX:=Z (p9 (rs:=rs) (j:=j) J);have HNE:=Z (kP (rs:=rs) (i:=j) J);have hcv:=BW OL.o;rw[HNE.o];go_wp2;go_ret;have he:=HE.o;rw[HE1.o,HE2.o]at he;have e1:=U.o;have e2:=V.o;rw[HX.o]at e1 e2;cases he;exact⟨by rw[<-e1];first|(simp;done)|(simp;rfl),by rw[<-e2];exact Iu.o,xdb⟩
 .have KO:(q !=39)=true:=by simpa using z
  have m:=HT.o;unfold qq at m;rw[yK (by rw[HQ.o];exact z)]at m;have H:=Z m;clear m;go_wp2;go_ret;have h:=H.o;rw[HQ.o]at h;cases h;exact⟨rfl,by rw[HW.o];exact HM.o,by rw[HW.o];exact s⟩
def Mn:Wd:=[115,101,108,101,99,116]
def Mo:Wd:=[112,108,117,114,97,108]
def PS:Wd:=[115,101,108,101,99,116,111,114,100,105,110,97,108]
def Ux(m:Wd):Option Nat:=if m=Mn then some 0 else if m=Mo then some 1 else if m=PS then some 2 else none
def Mp(w:z8)(b:Nat):Prop :=
 ∃D:ib Unit,w.ownsMap prog 9 (plainElem prog 215) b 3 D/\∀m:Wd,Maps.has D (.string m)=(Ux m).isSome/\D.atKey (.string m) (.lit (.int .i64 0)) = .lit (.int .i64 (((Ux m).getD 0:Nat):Int))
def Mp.look{b:Nat}(h:Mp w b)(m:Wd)(hm:m.length<=5000000) :
  (Jr 300 (.map (some b)) (zO m) true).run prog w = .ok (.tuple #[(((Ux m).getD 0:Nat):Int),.bool (Ux m).isSome]) w:=by
 obtain⟨D,h1,d⟩:=h;obtain⟨v,ps,a,hv⟩:=h1.look_ok (xf underlying9) underlying300 (z := .int .i64 0) K1 (bG underlying215 zW)
  (key:=zO m) (yT (s:=⟨m.toArray⟩) underlying9 Vi)
 rw[toList_mk]at a hv;rw[(d m).1]at a;rw[(d m).2]at hv;obtain⟨c,rfl,hc,_⟩:=plainElem_int_inv underlying215 hv;simp only[Ht,EW,yzq]at hc;rw[a,<-hc.1.2]
def px(w:z8):zE prog 175 #[] w λe w'=>(∃b,e = .returned (.map (some b))/\Mp w' b)/\zR w w':=by
 have u:=@run_makeMap prog;go_enter func175,ntmps175;go_wp2;obtain⟨w1,c,i,g⟩:=(Hh (H:=Unit) w prog 9 (plainElem prog 215)).update (xf underlying9) underlying300 (by unfold vp;omega) (yT (s:=⟨#[115,101,108,101,99,116]⟩) underlying9 zW) (bG underlying215 (q := .i64) (a:=0) zW);rw[c];simp only[yt];clear c;go_wp2;obtain⟨w2,d,j,l⟩:=(i).update (xf underlying9) underlying300 (by unfold vp;omega) (yT (s:=⟨#[112,108,117,114,97,108]⟩) underlying9 zW) (bG underlying215 (q := .i64) (a:=1) zW);rw[d];simp only[yt];clear d;go_wp2;obtain⟨w3,f,k,t⟩:=(j).update (xf underlying9) underlying300 (by unfold vp;omega) (yT (s:=⟨#[115,101,108,101,99,116,111,114,100,105,110,97,108]⟩) underlying9 (by decide)) (bG underlying215 (q := .i64) (a:=2) (by decide));rw[f];simp only[yt];clear f;go_wp2;go_ret;have hb:zR w w3:=((((zu _ _).alloc (Y _) _).grown g zV (λq n=>by cases n;exact Y _)).grown l (zg zV g.size) (λq n=>by cases n;exact Y _)).grown t (zg (zg (by simp) g.size) l.size) (λq n=>by cases n;exact Y _);refine⟨⟨_,rfl,_,k,λm=>?_⟩,hb⟩;have hm:Maps.IsMap (yfz []:ib Unit):=⟨_,rfl⟩;have k1:kF (.string Mn):=trivial;have k2:kF (.string Mo):=trivial;have k3:kF (.string PS):=trivial;show Maps.has ((((yfz []:ib Unit).put (.string Mn) (.lit (.int .i64 0))).put (.string Mo) (.lit (.int .i64 1))).put (.string PS) (.lit (.int .i64 2))) (.string m)=_/\((((yfz []:ib Unit).put (.string Mn) (.lit (.int .i64 0))).put (.string Mo) (.lit (.int .i64 1))).put (.string PS) (.lit (.int .i64 2))).atKey (.string m) (.lit (.int .i64 0))=_;have h1:=hm.put (.string Mn) (.lit (.int .i64 0));have h2:=h1.put (.string Mo) (.lit (.int .i64 1));have ne:∀{a b:Wd},a≠b->(Lit.string a) ≠ .string b:=λh e=>h BP
 unfold Ux;by_cases r:m=PS
 .subst r;rw[Qi h2 k3,Uo h2 k3,yv zW,yv zW,yK rfl];exact⟨rfl,rfl⟩
 .rw[OU (ne r),dc (ne r)];by_cases p:m=Mo
  .subst p;rw[Qi h1 k2,Uo h1 k2,yv zW,yK rfl];exact⟨rfl,rfl⟩
  .rw[OU (ne p),dc (ne p)];by_cases o:m=Mn
   .subst o;rw[Qi hm k1,Uo hm k1,yK rfl];exact⟨rfl,rfl⟩
   .rw[OU (ne o),dc (ne o),yv o,yv p,yv r];exact⟨rfl,rfl⟩
variable{vs:List zx}{hi hi' lo lo':Nat}
inductive Fo where
 |nil:Fo
 |text (t:Wd) (r:Fo):Fo
 |hash (r:Fo):Fo
 |put (name:Wd) (pl:Nat) (r:Fo):Fo
 |num (name:Wd) (pl:Nat) (r:Fo):Fo
 |br (name:Wd) (pl form:Nat) (off:Wd) (close:Nat) (bs r:Fo):Fo
 |xi (key:Wd) (pl:Nat) (msg r:Fo):Fo
namespace Fo
def len:Fo->Nat
 |nil=>0
 |text _ r=>r.len+1
 |hash r=>r.len+1
 |put _ _ r=>r.len+1
 |num _ _ r=>r.len+1
 |br _ _ _ _ _ _ r=>r.len+1
 |xi _ _ _ r=>r.len+1
def app:Fo->Fo->Fo
 |nil,g=>g
 |text t r,g=>text t (r.app g)
 |hash r,g=>hash (r.app g)
 |put n a r,g=>put n a (r.app g)
 |num n a r,g=>num n a (r.app g)
 |br n a f o c b r,g=>br n a f o c b (r.app g)
 |xi k a m r,g=>xi k a m (r.app g)
def jE:∀f g:Fo,(f.app g).len=f.len+g.len
 |nil,g=>by simp[app,len]
 |text t r,g=>Iv
 |hash r,g=>Iv
 |put n a r,g=>Iv
 |num n a r,g=>Iv
 |br n a f o c b r,g=>Iv
 |xi k a m r,g=>Iv
def yn:Fo->Wd->Fo
 |nil,t=>text t nil
 |text s nil,t=>text (s++t) nil
 |text s r,t=>text s (r.yn t)
 |hash r,t=>hash (r.yn t)
 |put n a r,t=>put n a (r.yn t)
 |num n a r,t=>num n a (r.yn t)
 |br n a f o c b r,t=>br n a f o c b (r.yn t)
 |xi k a m r,t=>xi k a m (r.yn t)
def xD:Fo->Option Wd
 |nil=>none
 |text s nil=>some s
 |text _ r=>r.xD
 |hash r=>r.xD
 |put _ _ r=>r.xD
 |num _ _ r=>r.xD
 |br _ _ _ _ _ _ r=>r.xD
 |xi _ _ _ r=>r.xD
def ya:Fo->Bool
 |nil=>true
 |text _ r=>r.ya
 |hash r=>r.ya
 |put _ _ r=>r.ya
 |num _ _ r=>r.ya
 |br _ _ _ _ _ _ r=>r.ya
 |xi _ _ _ _=>false
end Fo
def yb(o:Wd):Nat:=o.foldl (λv c=>10*v+(c.toNat - 48)) 0
def Uv(lo hi:Nat)(w:z8)(a:Option yI)(vs:List zx):Prop:=∀j (h:j<vs.length),∃g o,a=some ⟨g,o,none⟩/\lo<=g/\g<hi/\w.cell? ⟨g,o+j,none⟩=some vs[j]
def yY(lo hi:Nat)(w:z8):List zx->Fo->Prop
 |vs,.nil=>vs=[]
 |vs,.text t r=>∃vt,vs = .iface 206 (zO t)::vt/\yY lo hi w vt r
 |vs,.hash r=>∃vt,vs = .iface 208 (.agg #[])::vt/\yY lo hi w vt r
 |vs,.put n a r=>∃vt b,vs = .iface 210 (.pointer (some ⟨b,0,none⟩))::vt/\lo<=b/\b<hi/\zk w b 0 (zO n)/\zk w b 1 a/\yY lo hi w vt r
 |vs,.num n a r=>∃vt b,vs = .iface 213 (.pointer (some ⟨b,0,none⟩))::vt/\lo<=b/\b<hi/\zk w b 0 (zO n)/\zk w b 1 a/\yY lo hi w vt r
 |vs,.br n a f o c bs r=>∃vt b ba bc ws,vs = .iface 199 (.pointer (some ⟨b,0,none⟩))::vt/\lo<=b/\b<hi/\zk w b 0 (zO n)/\w.cell? ⟨b,1,none⟩=some (.int .i64 a) /\
   w.cell? (b,2)=some (.int .i64 f)/\zk w b 3 (.int .i64 (yb o))/\zk w b 4 (.slice ba bs.len bc)/\w.cell? (b,5)=some (.int .i64 c) /\
   Uv lo hi w ba ws/\yY lo hi w ws bs/\yY lo hi w vt r
 |vs,.xi k a m r=>∃vt ma mc ws,vs=zO k :: .int .i64 a :: .slice ma m.len mc::vt/\Uv lo hi w ma ws/\yY lo hi w ws m/\yY lo hi w vt r
def Uv.keep{a:Option yI}(h:Uv lo hi w a vs)(i:vx lo hi w w')(h1:lo'<=lo)(h2:hi<=hi'):Uv lo' hi' w' a vs:=λj f=>by
 obtain⟨g,o,b,c,d,e⟩:=h j f;exact⟨g,o,b,J,J,(i.cell (p:=(g,o+j)) c d).trans e⟩
def yY.keep(hk:vx lo hi w w')(h1:lo'<=lo)(h2:hi<=hi'):∀(f:Fo) (vs:List zx),yY lo hi w vs f->yY lo' hi' w' vs f
 |.nil,vs,h=>h
 |.text t r,vs,h=>zug
 |.hash r,vs,h=>zug
 |.put n a r,vs,h=>zf0
 |.num n a r,vs,h=>zf0
 |.br n a f o c bs r,vs,h=>by
  obtain⟨vt,b,i,j,ws,e,l1,l2,c0,c1,c2,c3,c4,c5,d,g,hr⟩:=h;exact⟨vt,b,i,j,ws,e,J,J,(hk.cell (p:=(b,0)) l1 l2).trans c0,(hk.cell (p:=(b,1)) l1 l2).trans c1,(hk.cell (p:=(b,2)) l1 l2).trans c2,(hk.cell (p:=(b,3)) l1 l2).trans c3,
   (hk.cell (p:=(b,4)) l1 l2).trans c4,(hk.cell (p:=(b,5)) l1 l2).trans c5,d.keep hk h1 h2,yY.keep hk h1 h2 bs ws g,yY.keep hk h1 h2 r vt hr⟩
 |.xi k a m r,vs,h=>by
  obtain⟨vt,ma,mc,ws,e,d,hm,hr⟩:=h;exact⟨vt,ma,mc,ws,e,d.keep hk h1 h2,yY.keep hk h1 h2 m ws hm,yY.keep hk h1 h2 r vt hr⟩
def yY.app{us:List zx}{g:Fo}(hg:yY lo hi w us g):∀(f:Fo) (vs:List zx),yY lo hi w vs f->yY lo hi w (vs++us) (f.app g)
 |.nil,vs,h=>by
  have e:vs=[]:=h;subst e;exact hg
 |.text t r,vs,h=>zq3
 |.hash r,vs,h=>zq3
 |.put n a r,vs,h=>zvx
 |.num n a r,vs,h=>zvx
 |.br n a f o c bs r,vs,h=>by
  obtain⟨vt,b,j,l,ws,rfl,l1,l2,c0,c1,c2,c3,c4,c5,d,i,hr⟩:=h;exact⟨_,b,j,l,ws,rfl,l1,l2,c0,c1,c2,c3,c4,c5,d,i,yY.app hg r vt hr⟩
 |.xi k a m r,vs,h=>by
  obtain⟨vt,ma,mc,ws,rfl,d,hm,hr⟩:=h;exact⟨_,ma,mc,ws,rfl,d,hm,yY.app hg r vt hr⟩
def Fo.xm:Fo->Bool
 |.nil=>true
 |.xi _ _ _ r=>r.xm
 |_=>false
def yY.count:∀(f:Fo) (vs:List zx),yY lo hi w vs f->f.ya=true->vs.length=f.len
 |.nil,vs,h,_=>by
  have e:vs=[]:=h;subst e;rfl
 |.text t r,vs,h,hm=>by
  obtain⟨vt,rfl,hr⟩:=h;exact B5
 |.hash r,vs,h,hm=>by
  obtain⟨vt,rfl,hr⟩:=h;exact B5
 |.put n a r,vs,h,hm=>by
  obtain⟨vt,b,rfl,g,i,c0,c1,hr⟩:=h;exact B5
 |.num n a r,vs,h,hm=>by
  obtain⟨vt,b,rfl,g,i,c0,c1,hr⟩:=h;exact B5
 |.br n a f o c bs r,vs,h,hm=>by
  obtain⟨vt,b,l,p,ws,rfl,g,i,c0,c1,c2,c3,c4,c5,d,j,hr⟩:=h;exact B5
 |.xi k a m r,vs,h,hm=>by cases hm
variable{α β:Type}
abbrev qo(α:Type):=Except (Nat×Nat) (α×Nat)
def qo.then{α β:Type}(x:qo α)(k:α->Nat->qo β):qo β:=match x with |.error e => .error e |.ok (a,i)=>k a i
def then_ok(a:α)(i:Nat)(k:α->Nat->qo β):qo.then (.ok (a,i)) k=k a i:=rfl
def ua(rs:List Int)(r:Int)(i:Nat):qo Unit:=if yz rs i=r then .ok ((),i+1)else .error (3,i)
def kS(rs:List Int)(i:Nat):qo Wd:=if ku rs i=0 then .error (3,i)else .ok (um rs i (ku rs i),i+ku rs i)
def qR(rs:List Int)(i:Nat):qo Wd:=if qj rs i=0 then .error (3,i)else .ok (um rs i (qj rs i),i+qj rs i)
abbrev jJ:=Bool->Nat->qo Fo
def YJ(rs:List Int)(num:Bool)(i:Nat):qo Wd :=
 if num=true/\yz rs i=61 then (qR rs (i+1)).then λk j => .ok (61::k,j)
 else (kS rs i).then λk j=>if num=true/\k ∉ Uy then .error (3,i)else .ok (k,j)
def Kp(rs:List Int):Option jJ->Bool->Wd->Nat->Nat->Nat->qo Fo
 |none,_,_,_,o,_ => .error (4,o)
 |some m,num,k,i,_,l=>(m num l).then λf q=>(ua rs 125 q).then λ_ z => .ok (.xi k i f .nil,xx rs z)
def bM(rs:List Int)(msg:Option jJ)(num:Bool)(i:Nat):qo Fo :=
 (YJ rs num i).then λk j=>(ua rs 123 (xx rs j)).then λ_ l=>Kp rs msg num k i (xx rs j) l
def qx(rs:List Int)(msg:Option jJ)(num:Bool):Nat->Fo->Nat->qo Fo
 | 0,_,i => .error (3,i)
 |n+1,acc,i=>if yz rs i=125/\acc.len≠0 then .ok (acc,i)else (bM rs msg num i).then λf j=>qx rs msg num n (acc.app f) j
def zb5:Wd:=[110,117,109,98,101,114]
def Uu(rs:List Int)(form:Nat)(i:Nat):qo Wd :=
 if form≠0/\Du rs i=true then (qR rs (xx rs (i+7))).then λo j => .ok (o,xx rs j)else .ok ([48],i)
def gH(rs:List Int)(msg:Option jJ)(i:Nat):qo Fo :=
 (ua rs 123 i).then λ_ a =>
 (kS rs (xx rs a)).then λname b =>
 if yz rs (xx rs b)≠44 then (ua rs 125 (xx rs b)).then λ_ z => .ok (.put name i .nil,z)
 else (kS rs (xx rs (xx rs b+1))).then λw c =>
  if w=zb5 then (ua rs 125 (xx rs c)).then λ_ z => .ok (.num name i .nil,z)
  else match Ux w with
   |none => .error (3,xx rs (xx rs b+1))
   |some form=>(ua rs 44 (xx rs c)).then λ_ d=>(Uu rs form (xx rs d)).then λo l =>
    (qx rs msg (decide (form≠0)) (rs.length+1) .nil l).then λbs q=>(ua rs 125 q).then λ_ z => .ok (.br name i form o q bs .nil,z)
def vJ(rs:List Int)(msg:Option jJ)(num:Bool):Nat->Fo->Nat->qo Fo
 | 0,_,i => .error (3,i)
 |n+1,acc,i =>
  if yz rs i = -1\/yz rs i=125 then .ok (acc,i)
  else if yz rs i=123 then (gH rs msg i).then λf j=>vJ rs msg num n (acc.app f) j
  else if yz rs i=35/\num=true then vJ rs msg num n (acc.app (.hash .nil)) (i+1)
  else vJ rs msg num n (acc.yn (qq rs num i).1) (qq rs num i).2
def gI(rs:List Int):Nat->jJ
 | 0=>λnum i=>vJ rs none num (rs.length+1) .nil i
 |n+1=>λnum i=>vJ rs (some (gI rs n)) num (rs.length+1) .nil i
def gg(rs:List Int):qo Fo:=(gI rs 5 false 0).then λf i=>if yz rs i = -1 then .ok (f,i)else .error (3,i)
variable{B:Nat}{u v0 v1 v2:zx}{W W':z8}
structure FI(p:Nat)(w:z8):Prop where
 names:qu w
 ne:0≠p
def FI.but(h:FI p w)(hb:xN p w w'):FI p w':=⟨λj a=>hb.cell (h.names j a) h.ne,h.ne⟩
def xb2(p:Nat)(rs:List Int)(d:Nat)(r:qo Fo)(w:z8)(e:xX)(w':z8):Prop :=
 (match r with
  |.error (n,a)=>Ge p n a e w'
  |.ok (f,j)=>(∃a c,e = .returned (.slice a f.len c)/\∃vs,Uv (w:Nat) (w':Nat) w' a vs/\yY (w:Nat) (w':Nat) w' vs f)/\f.ya=true/\xr p rs j d w')/\xN p w w'
def Za(rs:List Int)(i n:Nat):(um rs i n).length<=4*rs.length:=by
 have b:∀l:List Int,(l.flatMap enc).length<=4*l.length:=by
  intro l;exact zyu
 have h1:=b ((rs.drop i).take n);have h2:((rs.drop i).take n).length<=rs.length:=yF;unfold um;omega
def yx9(p:Nat)(rs:List Int)(d:Nat)(m:jJ):Prop:=∀(num:Bool) (i:Nat) (w:z8),xr p rs i d w->FI p w ->
 zE prog 78 #[(p,0),.bool num] w (xb2 p rs d (m num i) w)
def xd3(p:Nat)(rs:List Int)(d:Nat)(r:qo Fo)(w:z8)(e:xX)(w':z8):Prop :=
 (match r with
  |.error (n,a)=>Ge p n a e w'
  |.ok (f,j)=>(∃k pl m ma mc,f = .xi k pl m .nil/\e = .returned (.agg #[zO k,.int .i64 pl,.slice ma m.len mc])/\m.ya=true/\∃vs,Uv (w:Nat) (w':Nat) w' ma vs/\yY (w:Nat) (w':Nat) w' vs m)/\xr p rs j d w')/\xN p w w'
structure BA(B:Nat)(v0 v1 v2:zx)(w:z8):Prop where
 c0:zk w B 0 v0
 c1:zk w B 1 v1
 c2:zk w B 2 v2
 z:∀j,w.frozen? ⟨B,j,none⟩=false
def BA.but(h:BA B v0 v1 v2 w)(hb:xN p w w')(b:B≠p):BA B v0 v1 v2 w' :=
 ⟨hb.cell h.c0 b,hb.cell h.c1 b,hb.cell h.c2 b,λj=>(zU (a:=⟨B,j,none⟩) (hb.block B (X w _ h.c0) b)).trans (h.z j)⟩
def BA.VE(h:BA B v0 v1 v2 w):BA B u v1 v2 (w.setCell (B,0) u) :=
 ⟨AR,MH,by rw[zr,yv zV];exact h.c2,λj=>by rw[zP];exact h.z j⟩
def BA.vk9(h:BA B v0 v1 v2 w):BA B v0 v1 u (w.setCell (B,2) u) :=
 ⟨by rw[zr,yv zV];exact h.c0,MH,by rw[zr,yK rfl,h.c2];rfl,λj=>by rw[zP];exact h.z j⟩
def xN.own(h:xN p w w')(hB:(w:Nat)<=B)(j:Nat)(u:zx):xN p w (w'.setCell (B,j) u) :=
 ⟨h.os,h.tape,h.output,zg h.size ZM,λk a hp=>(yX _ _ _ _ (by show k≠B;omega)).trans (h.block k a hp)⟩
def vx.put(h:vx lo hi w W)(hB:B<lo)(j:Nat)(u:zx):vx lo hi w (W.setCell (B,j) u) :=
 ⟨zg h.1 ZM,λk h1 h2=>(yX _ _ _ _ (by show k≠B;omega)).trans (h.2 k h1 h2)⟩
def vx.but(h:vx lo hi w W)(hb:xN p W W')(hp:p<lo):vx lo hi w W' :=
 ⟨zg h.1 hb.size,λk h1 h2=>(hb.block k (zC h2 h.1) J).trans (h.2 k h1 h2)⟩
def xr.own(h:xr p rs i d w)(hB:p<B)(j:Nat)(u:zx):xr p rs i d (w.setCell (B,j) u) :=
 h.grown (row:=some B) ⟨rfl,rfl,rfl,ZM,λk _ a=>yX _ _ _ _ (λe=>a (by rw[e]))⟩ (λq b=>by cases b;exact hB)
def Am(p:Nat)(rs:List Int)(i d:Nat)(num:Bool)(msg:Option jJ)(w:z8)(h:xr p rs i d w)(he:FI p w)(hd:msg=none ↔ d=6)(hm:∀m,msg=some m->yx9 p rs d m) :
  zE prog 178 #[(p,0),.bool num] w (xd3 p rs d (bM rs msg num i) w):=by
 obtain⟨M,oP,HD,HMC⟩:=hdd h he hd hm;have P:=h.lt;have N:=h.at_;obtain⟨R,hR⟩:=zw (bM rs msg num i);rw[hR];have L:=Z hR;clear h he hd hm hR;cases num
 .go_enter func178,ntmps178;go_wp2_with fail;refine yw ?_;intro W hW;have C:zR w W:=by rw[hW];exact(zu _ _).alloc (Y _) _
  have t:BA (w:Nat) (.string ⟨#[]⟩) i (.slice none 0 0) W:=zjd;clear hW N;obtain⟨B,hB⟩:=zw (w:Nat);rw[hB]at t|-;have HB:=Z hB;have hpB:p<B:=J;have F:=Z t;clear hB t;obtain⟨A3,PV⟩:∃b,b=false:=⟨_,rfl⟩;refine(Ju p rs i d W (M.o.below C)).mono ?_;rintro e x0 ⟨hq,g⟩;have x:=(xN.of (p:=p) C).trans g;have n:=Z (F.o.but g J);by_cases ZY:ku rs i=0
  .rw[yK ZY]at hq;have Ee:=Z (show R = .error (3,i)by rw[<-L.o];unfold bM YJ kS;rw[yv zV,yK ZY];rfl);have HQ:=Z hq;obtain⟨bf,rfl,_,_⟩:=hq;clear ZY;go_wp2;exact⟨rfl,by rw[Ee.o];exact HQ.o,x⟩
  .rw[yv ZY]at hq;obtain⟨rfl,a⟩:=hq;obtain⟨K,hK⟩:=zw (um rs i (ku rs i));obtain⟨j,D⟩:=zw (i+ku rs i);rw[D]at a;rw[hK];have HT:=Z (show R=(ua rs 123 (xx rs j)).then λ_ l=>Kp rs msg A3 K i (xx rs j) l by
    rw[<-L.o,PV];unfold bM YJ kS;rw[yv zV,yv ZY,hK,D];first|rfl|(simp[then_ok];done))
   have A:=Z a;have Q:=n.o.z 0;have z0:=n.o.c0;have z1:=n.o.c1;have HSK:=Z (A.o.own hpB 0 (zO K));have HLK:=Z (n.o.VE (u:=zO K));have A2:xN p w (x0.setCell (zQ B 0) (zO K)):=x.own MM 0 _;obtain⟨Xk,y⟩:=zw (x0.setCell (zQ B 0) (zO K));rw[y]at HSK HLK A2;have H:=Z y;clear a ZY hK D y g x;go_wp2_with fail;rw[H.o];exact A1
 .go_enter func178,ntmps178;go_wp2_with fail;refine yw ?_;intro W hW;have C:zR w W:=by rw[hW];exact(zu _ _).alloc (Y _) _
  have t:BA (w:Nat) (.string ⟨#[]⟩) i (.slice none 0 0) W:=zjd;clear hW N;obtain⟨B,hB⟩:=zw (w:Nat);rw[hB]at t|-;have HB:=Z hB;have hpB:p<B:=J;have F:=Z t;clear hB t;obtain⟨A3,PV⟩:∃b,b=true:=⟨_,rfl⟩;refine(U7 p rs i d 61 W (M.o.below C) zW).mono ?_;rintro e x0 ⟨rfl,a,g⟩;have x:=(xN.of (p:=p) C).trans g;have n:=Z (F.o.but g J);by_cases c:yz rs i=61
  .rw[yK c]at a;rw[show(yz rs i==61)=true by rw[c];rfl];have A:=Z a;have s:=Z (show R=((qR rs (i+1)).then λk j=>(.ok (61::k,j):qo Wd)).then λk j=>(ua rs 123 (xx rs j)).then λ_ l=>Kp rs msg true k i (xx rs j) l by
    rw[<-L.o];unfold bM YJ;rw[yK ⟨rfl,c⟩])
   clear a c g;go_wp2_with fail;refine(IY p rs (i+1) d x0 A.o).mono ?_;rintro e x1 ⟨hq,Dt⟩;have qI:=x.trans Dt;have PX:=Z (n.o.but Dt J);by_cases ZY:qj rs (i+1)=0
   .rw[yK ZY]at hq;have Ee:=Z (show R = .error (3,i+1)by rw[s.o];unfold qR;rw[yK ZY];rfl);exact zv3
   .rw[yv ZY]at hq;obtain⟨rfl,Vu⟩:=hq;obtain⟨G,hK⟩:=zw (um rs (i+1) (qj rs (i+1)));obtain⟨K,I⟩:=zw (61::G);obtain⟨j,D⟩:=zw (i+1+qj rs (i+1));rw[D]at Vu;rw[hK];have HT:=Z (show R=(ua rs 123 (xx rs j)).then λ_ l=>Kp rs msg A3 K i (xx rs j) l by
     rw[s.o,PV];unfold qR;rw[yv ZY,hK,D,<-I];rfl)
    have KM:=Z Vu;have Q:=PX.o.z 0;have z0:=PX.o.c0;have z1:=PX.o.c1;have HSK:=Z (KM.o.own hpB 0 (zO K));have HLK:=Z (PX.o.VE (u:=zO K));have A2:xN p w (x1.setCell (zQ B 0) (zO K)):=qI.own MM 0 _;obtain⟨Xk,y⟩:=zw (x1.setCell (zQ B 0) (zO K));rw[y]at HSK HLK A2;rw[<-I]at y;have H:=Z y;have O:¬9223372036854775807<1+G.length:=by
     have:=Za rs (i+1) (qj rs (i+1));have:=M.o.len;rw[hK]at *;omega
    clear Vu ZY hK D y Dt qI s;go_wp2_with fail;rw[show(⟨#[61]⟩:ByteArray)++⟨G.toArray⟩=⟨(61::G).toArray⟩from QU zV];rw[show Value.string ⟨(61::G).toArray⟩=zO (61::G)from rfl,H.o];exact A1
  .rw[yv c]at a;rw[show(yz rs i==61)=false by simp[c]];have A:=Z a;have s:=Z (show R=((kS rs i).then λk j=>if k ∉ Uy then (.error (3,i):qo Wd)else .ok (k,j)).then λk j=>(ua rs 123 (xx rs j)).then λ_ l=>Kp rs msg true k i (xx rs j) l by
    rw[<-L.o];unfold bM YJ;rw[yv (λe=>c e.2)];simp)
   clear a c g;go_wp2_with fail;refine(Ju p rs i d x0 A.o).mono ?_;rintro e x1 ⟨hq,Dt⟩;have qI:=x.trans Dt;have PX:=Z (n.o.but Dt J);by_cases ZY:ku rs i=0
   .rw[yK ZY]at hq;have Ee:=Z (show R = .error (3,i)by rw[s.o];unfold kS;rw[yK ZY];rfl);exact zv3
   .rw[yv ZY]at hq;obtain⟨rfl,Vu⟩:=hq;obtain⟨K,hK⟩:=zw (um rs i (ku rs i));obtain⟨j,D⟩:=zw (i+ku rs i);rw[D]at Vu;rw[hK];have E:=Z (show R=((if K ∉ Uy then .error (3,i)else .ok (K,j)):qo Wd).then λk j=>(ua rs 123 (xx rs j)).then λ_ l=>Kp rs msg true k i (xx rs j) l by
     rw[s.o];unfold kS;rw[yv ZY,hK,D];rfl)
    have KM:=Z Vu;have Q:=PX.o.z 0;have z0:=PX.o.c0;have z1:=PX.o.c1;have HSK:=Z (KM.o.own hpB 0 (zO K));have HLK:=Z (PX.o.VE (u:=zO K));have A2:xN p w (x1.setCell (zQ B 0) (zO K)):=qI.own MM 0 _;obtain⟨Xk,y⟩:=zw (x1.setCell (zQ B 0) (zO K));rw[y]at HSK HLK A2;have H:=Z y;clear Vu ZY hK D y Dt qI s;go_wp2_with fail;rw[H.o];refine(Mm K Xk (oP.o.but A2).names).mono ?_;rintro e x2 ⟨rfl,rfl⟩;have u1:=HLK.o.c1;by_cases hc:K∈Uy
    .rw[show decide (K∈Uy)=true from GN];have HT:=Z (show R=(ua rs 123 (xx rs j)).then λ_ l=>Kp rs msg A3 K i (xx rs j) l by
      rw[E.o,PV,yv GN];rfl)
     clear hc E;go_wp2_with fail;exact A1
    .rw[show decide (K∈Uy)=false from GN];have Ee:=Z (show R = .error (3,i)by rw[E.o,yK hc];rfl);clear hc E;go_wp2_with fail;refine(Yi p 3 i Xk HSK.o.I8).mono ?_;rintro e x3 ⟨hf,hx3⟩;have HF:=Z hf;obtain⟨bf,rfl,_,_⟩:=hf;go_wp2;exact⟨rfl,by rw[Ee.o];exact HF.o,A2.below hx3⟩
variable{l:List UInt8}{k:Nat}
def PT:∀(l:List UInt8) (acc:Nat),l.all yC=true->yfy acc l=some (l.foldl (λv c=>10*v+(c.toNat - 48)) acc)
 |[],_,_=>rfl
 |c::t,acc,h=>by
  simp only[u7,zv]at h;have hc:=(vy c).1 h.1;rw[yfy,Lib.digitVal,yK J];dsimp only;rw[PT t _ h.2,vP,dU acc 10]
def yxz(h:l.all yC=true)(hn:l≠[]):Lib.atoi l=some (yb l:Int):=by
 cases l with
 |nil=>exact absurd rfl hn
 |cons c t =>
  have hd:=h;simp only[u7,zv]at hd;have hc:=(vy c).1 hd.1;have b:(c==45)=false:=MU;have a:(c==43)=false:=MU;rw[Lib.atoi,b,a];simp only[OG,if_false,Lib.decNat];rw[yv zV,PT _ 0 h];rfl
def lY(x:Wd)(w:z8)(hs:x.length<=9)(hd:x.all yC=true)(hn:x≠[]) :
  zE prog 143 #[zO x] w λe w'=>e = .returned (.tuple #[.int .i64 (yb x),.nilIface])/\zR w w':=by
 refine(Tryz.strconv_Atoi ⟨x.toArray⟩ (yb x) (by simp[ByteArray.size];omega) (yxz hd hn) w).mono ?_;rintro e w' ⟨rfl,t,rfl⟩;exact⟨rfl,Lib.bytesWorld_below _ _ _⟩
def pq(r:Int)(h:vN r=true):∃c,enc r=[c]/\yC c=true:=by
 simp only[vN,zv,decide_eq_true_eq]at h;have:r=48\/r=49\/r=50\/r=51\/r=52\/r=53\/r=54\/r=55\/r=56\/r=57:=J;rcases this with rfl|rfl|rfl|rfl|rfl|rfl|rfl|rfl|rfl|rfl<;>exact⟨_,rfl,zW⟩
def Ba(F:Int->Nat->Bool)(rs:List Int)(i:Nat):∀f n R,Uz F rs i f n=R->∀k,n<=k->k<R->F (yz rs (i+k)) k=true
 | 0,n,R,h,k,h1,h2=>by
  rw[Uz]at h;omega
 |f+1,n,R,h,k,h1,h2=>by
  rw[Uz]at h;by_cases q:F (yz rs (i+n)) n=true
  .rw[yK q]at h;by_cases a:k=n
   .rw[a];exact q
   .exact Ba F rs i f (n+1) R h k J h2
  .rw[yv q]at h;omega
def Qq{F:Int->Nat->Bool}(h:k<runN F rs i):F (yz rs (i+k)) k=true:=Ba F rs i _ _ _ rfl k (zJ _) h
def ME(h:j<rs.length):yz rs j=rs[j]:=by
 unfold yz;simp[h]
def Jj:∀(l:List Int),(∀r∈l,vN r=true)->(l.flatMap enc).length=l.length/\(l.flatMap enc).all yC=true
 |[],_=>⟨rfl,rfl⟩
 |r::t,h=>by
  obtain⟨c,hc,hd⟩:=pq r (h r zV);obtain⟨h1,h2⟩:=Jj t (λq a=>h q (by simp[a]));refine⟨by simp[zh,hc,h1],?_⟩;rw[zh,hc];simp[hd];simpa using h2
def FL(rs:List Int)(i:Nat)(hn:qj rs i≠0):(um rs i (qj rs i)).length<=9/\(um rs i (qj rs i)).all yC=true/\um rs i (qj rs i)≠[]:=by
 obtain⟨n,c⟩:=zw (qj rs i);have hf:∀k,k<n->k<9/\vN (yz rs (i+k))=true:=λk hk=>by
  have:=Qq (F:=gj (yz rs i)) (rs:=rs) (i:=i) (k:=k) (by rw[show runN (gj (yz rs i)) rs i=qj rs i from rfl,c];exact hk);simp only[gj,zv,decide_eq_true_eq]at this;exact this.1
 rw[c]at hn|-;have f:n<=9:=by
  have:=(hf (n - 1) J).1;omega
 have hd:vN (-1)=false:=zW;have AJ:∀k,k<n->i+k<rs.length:=λk hk=>by
  refine Nat.lt_of_not_le (λb=>?_);have:=(hf k hk).2;rw[kP b,hd]at this;cases this
 have a:∀r∈(rs.drop i).take n,vN r=true:=λr hr=>zgb
 have d:((rs.drop i).take n).length=n:=by
  have:=AJ (n - 1) J;simp;omega
 obtain⟨h1,h2⟩:=Jj _ a;unfold um;refine⟨J,h2,λe=>?_⟩;rw[e]at h1;simp only[yG]at h1;omega
variable{acc:Fo}
def vjd(base:Nat)(v:zx)(w W:z8):Prop:=(w:Nat)<=(W:Nat)/\∀k,base<=k->k<(w:Nat)->some k≠v.ownBlock->W.heap[k]? = w.heap[k]?
def kT(base:Nat)(e:xM)(size:Nat)(v:zx)(acc:Fo)(ws:List zx)(w:z8):Prop :=
 w.ownsRow base e size v acc.len ws/\∀W,vjd base v w W->yY base W.heap.size W ws acc
def kT.start(base:Nat)(e:xM)(size:Nat)(w:z8):kT base e size (.slice none 0 0) .nil [] w :=
 ⟨⟨by simp[Fo.len],.inl ⟨rfl,rfl⟩⟩,λ_ _=>rfl⟩
def kT.but{base:Nat}{ws:List zx}(h:kT base e size v acc ws w)(hb:xN p w w')(hp:p<base):kT base e size v acc ws w':=by
 obtain⟨⟨h1,h2⟩,d⟩:=h;refine⟨⟨h1,?_⟩,λW c=>d W ⟨zg hb.size c.1,λk k1 k2 k3=>(c.2 k k1 (zC k2 hb.size) k3).trans (hb.block k k2 J)⟩⟩;rcases h2 with hn|⟨g,cap,a,hv,f,hc,rest⟩
 .exact .inl hn
 .refine .inr ⟨g,cap,a,hv,f,?_,rest⟩;have b:g<(w:Nat):=(yR.1 hc).1;rw[hb.block g b J];exact hc
def kT.nodes{base:Nat}{ws:List zx}(h:kT base e size v acc ws w):yY base (w:Nat) w ws acc :=
 h.2 w ⟨Y _,λ_ _ _ _=>rfl⟩
def kT.row{base:Nat}{ws:List zx}(h:kT base e size v acc ws w):∃a c,v = .slice a acc.len c/\Uv base (w:Nat) w a ws:=by
 obtain⟨⟨h1,h2⟩,_⟩:=h;rcases h2 with⟨hv,hn⟩|⟨g,cap,b,hv,m,hc,k,p,q,l⟩
 .refine⟨none,0,by rw[hv,hn],λj d=>?_⟩;rw[hn]at h1;omega
 .refine⟨some ⟨g,0,none⟩,cap,hv,λj d=>⟨g,0,rfl,m,(yR.1 hc).1,?_⟩⟩;have o:acc.len*size<=cap*size:=uM _ k;have n:j<b.size:=by omega
  rw[uE];have f:ws[j]? = b[j]? := by
   rw[<-l,OJ,yK J,ji]
  have i:ws[j]? = some ws[j]:=zj d;show w.cell? (zQ g j)=some ws[j];rw[<-i,f];unfold FK;rw[hc];rfl
variable{ops:Array je}{Q:Exit->Act->z8->Prop}{f:Fo}{m:Nat}{P:Gz}{v':zx}
def Jg(w:z8)(base:Nat)(t ty e:xM)(i:TypeInfo)(z:zx)(B:P.underlying t=some (.slice e))(hi:P.info? e=some i)(G:i.zero=some z)
  (A:z.cells.size=i.size) (y:0<i.size)
  (v:zx) (n:Nat) (xs:List zx) (d:w.ownsRow base e i.size v n xs)
  (a:yI) (m c:Nat) (b:List zx) (x:b.length=m*i.size) (h:∀j u,b[j]? = some u->w.cell? (a.add j)=some u) (h1:∀u∈b,u.oneCell'=true)
  (p:n+m<=vp) (f:(n+m)*i.bytes<=140737488355328) (q:base<=(w:Nat)) :
  ∃v' w',(Z5 #[t,t] ty #[v,.slice (some a) m c]).run P w = .ok v' w'/\w'.ownsRow base e i.size v' (n+m) (xs++b)/\w.grownBy w' v.ownBlock /\
   (v'.ownBlock=v.ownBlock\/∀k,v'.ownBlock=some k->(w:Nat)<=k):=by
 obtain⟨v',w',hr,h2,H,N⟩:=run_append_own (P:=P) w base t ty e i z i.size i.bytes B hi G rfl rfl A y v n xs d a m c b x h h1 p f q;refine⟨v',w',hr,h2,H,?_⟩;have E:=d;rcases d.2 with⟨rfl,rfl⟩|⟨g,cap,r,rfl,I,L,M,K,C,F⟩
 .have hx:xs=[]:=zN (by simpa using d.1);subst hx;obtain⟨v2,w2,l,k2,_,_⟩:=run_append_own (P:=P) w (w:Nat) t ty e i z i.size i.bytes B hi G rfl rfl A y (.slice none 0 0) 0 [] (xz w (w:Nat) e i.size) a m c b x h h1 p f (Y _);rw[hr]at l;cases l;exact .inr λk D=>(k2.lt k D).1
 .by_cases o:n+m<=cap
  .have s:n*i.size+b.length<=r.size:=(by rw[x,C,<-kh];exact uM _ o);have l:=run_append_room (P:=P) w t ty e i B hi g n cap r L a m c b x h h1 o s;rw[hr]at l;cases l;exact .inl rfl
  .have holds:∀j u,xs[j]? = some u->w.cell? ((⟨g,0,none⟩:yI).add j)=some u:=d.cells (g:=g) rfl;have l:=run_append_grow (P:=P) w t ty e i z B hi G ⟨g,0,none⟩ n cap xs d.1 holds a m c b x h J (by simp only[vp]at p;omega) (growslice_fits (by simp only[vp]at p;omega) f);rw[hr]at l;cases l;refine .inr λk D=>?_
   simp[yA]at D;omega
def kT.grow{base:Nat}{ws a:List zx}(h:kT base e size v acc ws w)
  (hn:yY lo (w:Nat) w a f) (d:base<=lo) (hv:∀k,v.ownBlock=some k->k<lo) (hm:f.len=m)
  (h2:w'.ownsRow base e size v' (acc.len+m) (ws++a)) (c:w.grownBy w' v.ownBlock) (j:v'.ownBlock=v.ownBlock\/∀k,v'.ownBlock=some k->(w:Nat)<=k) :
  kT base e size v' (acc.app f) (ws++a) w':=by
 refine⟨by rw[Fo.jE,hm];exact h2,λW i=>?_⟩;have key:∀k,base<=k->k<(w:Nat)->some k≠v.ownBlock->W.heap[k]? = w.heap[k]? := λk k1 k2 k3=>by
  have g:some k≠v'.ownBlock:=by
   rcases j with q|q
   .rw[q];exact k3
   .intro e;have:=q k e.symm;omega
  exact(i.2 k k1 (zC k2 c.size) g).trans (c.block k k2 k3)
 have b:(w:Nat)<=(W:Nat):=zg c.size i.1;exact yY.app (yY.keep (lo:=lo) (hi:=(w:Nat)) ⟨b,λk k1 k2=>key k J k2 (λe=>by have:=hv k e.symm;omega)⟩ d b f a hn) acc ws (h.2 W ⟨b,key⟩)
def Yw{t:xM}{z:zx}{Z4:Nat}(E:Yz P t e z size Z4){rest:List je}{o:je}{a:Act}
  (n:o.guard=none) (s x:Operand) (C:o.op = .call { callee := .builtin .append,args:=#[s,x],argTypes:=#[t,t] })
  (base lo:Nat) (v:zx) (acc f:Fo) (ws:List zx) (hs:a.eval s=v) (y:kT base e size v acc ws w)
  (ad:yI) (m c:Nat) (b:List zx) (hx:a.eval x = .slice (some ad) m c) (B:b.length=m*size) (g:∀j u,b[j]? = some u->w.cell? (ad.add j)=some u) (h1:∀u∈b,u.oneCell'=true)
  (hn:yY lo (w:Nat) w b f) (p:base<=lo) (hv:∀k,v.ownBlock=some k->k<lo) (hm:f.len=m)
  (l:acc.len+m<=2147483648) (d:base<=(w:Nat))
  (h:∀v' w',kT base e size v' (acc.app f) (ws++b) w'->w.grownBy w' v.ownBlock->wpList P ops Q rest (a.put o.dst v') w'):wpList P ops Q (o::rest) a w:=by
 obtain⟨i,hi,D,rfl,rfl⟩:=E.info;have q:=E.small;obtain⟨v',w',hr,h2,r,A⟩:=Jg (P:=P) w base t o.type e i z E.under hi D E.QF E.pos v acc.len ws y.1 ad m c b B g h1 dS (zg (Ut l q) zW) d;refine wpList_plain n λK hK=>?_
 unfold j6 execOp;simp only[C,resolve,invoke,builtin,kp,wQ,XU,Jp,vV,De,hs,hx,hr];exact hK _ _ (h v' w' (y.grow hn p hv hm h2 r A) r)
def PC:Yz prog 216 221 (.agg #[.string ⟨#[]⟩,.int .i64 0,.slice none 0 0]) 3 48 :=
 ⟨underlying216,V9 yg,rfl,zW,zW⟩
def ZU:Yz prog 68 193 .nilIface 1 16 :=
 ⟨underlying68,V9 yg,rfl,zW,zW⟩
def yyd{t:xM}{z:zx}{Z4:Nat}(E:Yz P t e z size Z4){o:je}{a:Act}{K:Act->z8->Prop}
  (s x:Operand) (B:o.op = .call { callee := .builtin .append,args:=#[s,x],argTypes:=#[t,t] })
  (base lo:Nat) (v:zx) (acc f:Fo) (ws:List zx) (hs:a.eval s=v) (r:kT base e size v acc ws w)
  (ad:yI) (m c:Nat) (b:List zx) (hx:a.eval x = .slice (some ad) m c) (A:b.length=m*size) (g:∀j u,b[j]? = some u->w.cell? (ad.add j)=some u) (h1:∀u∈b,u.oneCell'=true)
  (hn:yY lo (w:Nat) w b f) (n:base<=lo) (hv:∀k,v.ownBlock=some k->k<lo) (hm:f.len=m)
  (l:acc.len+m<=2147483648) (d:base<=(w:Nat))
  (h:∀v' w',kT base e size v' (acc.app f) (ws++b) w'->w.grownBy w' v.ownBlock->K (a.put o.dst v') w'):j6 P o a w K Q:=by
 obtain⟨i,hi,C,rfl,rfl⟩:=E.info;have p:=E.small;obtain⟨v',w',hr,h2,q,y⟩:=Jg (P:=P) w base t o.type e i z E.under hi C E.QF E.pos v acc.len ws r.1 ad m c b A g h1 dS (zg (Ut l p) zW) d;unfold j6 execOp;simp only[B,resolve,invoke,builtin,kp,wQ,XU,Jp,vV,De,hs,hx,hr];exact h v' w' (r.grow hn n hv hm h2 q y) q
def kT.lt{base:Nat}{ws:List zx}(h:kT base e size v acc ws w):∀k,v.ownBlock=some k->base<=k/\k<(w:Nat):=h.1.lt
def Fo.gi:∀f g:Fo,f.xm=true->g.xm=true->(f.app g).xm=true
 |.nil,g,_,h=>h
 |.xi k a m r,g,h,h2=>Fo.gi r g h h2
 |.text t r,g,h,_=>xp
 |.hash r,g,h,_=>xp
 |.put n a r,g,h,_=>xp
 |.num n a r,g,h,_=>xp
 |.br n a f o c b r,g,h,_=>xp
def Fo.kN:∀f g:Fo,f.ya=true->g.ya=true->(f.app g).ya=true
 |.nil,g,_,h=>h
 |.xi k a m r,g,h,h2=>xp
 |.text t r,g,h,h2=>Fo.kN r g h h2
 |.hash r,g,h,h2=>Fo.kN r g h h2
 |.put n a r,g,h,h2=>Fo.kN r g h h2
 |.num n a r,g,h,h2=>Fo.kN r g h h2
 |.br n a f o c b r,g,h,h2=>Fo.kN r g h h2
variable{msg:Option jJ}{x:Wd}
def yl(rs:List Int)(i:Nat):i<=xx rs i:=kY _ _
def Bc(m:jJ):Prop:=∀num i f j,m num i = .ok (f,j)->i<=j
def zF{x:qo α}{k:α->Nat->qo β}{b:β}(h:x.then k = .ok (b,j)):∃a q,x = .ok (a,q)/\k a q = .ok (b,j):=by
 cases x with
 |error e=>cases h
 |ok a=>exact⟨a.1,a.2,rfl,h⟩
def yS{r:Int}{u:Unit}(h:ua rs r i = .ok (u,j)):yz rs i=r/\j=i+1:=by
 unfold ua at h;split at h
 .cases h;exact⟨by assumption,rfl⟩
 .cases h
def jo(h:kS rs i = .ok (x,j)):i<j:=by
 unfold kS at h;split at h
 .cases h
 .cases h;omega
def XS(h:qR rs i = .ok (x,j)):i<j:=by
 unfold qR at h;split at h
 .cases h
 .cases h;omega
def zb6{num:Bool}(h:YJ rs num i = .ok (x,j)):i<j:=by
 unfold YJ at h;split at h
 .obtain⟨a,q,h1,h2⟩:=zF h;cases h2;have:=XS h1;omega
 .obtain⟨a,q,h1,h2⟩:=zF h;split at h2
  .cases h2
  .cases h2;exact jo h1
def im{num:Bool}(hm:∀m,msg=some m->Bc m)(h:bM rs msg num i = .ok (f,j)):i<j:=by
 unfold bM at h;obtain⟨k,a,h1,h2⟩:=zF h;obtain⟨u,b,e,d⟩:=zF h2;have q:=zb6 h1;have r:=(yS e).2;have s:=yl rs a;cases msg with
 |none=>cases d
 |some m =>
  obtain⟨g,c,l,n⟩:=zF (show(m num b).then _=_ from d);obtain⟨u2,z,o,p⟩:=zF n;have t:=hm m rfl _ _ _ _ l;have v:=(yS o).2;have w:=yl rs z;cases p;omega
def PW{num:Bool}(hm:∀m,msg=some m->Bc m):∀(n:Nat) (acc:Fo) (i j:Nat) (f:Fo),qx rs msg num n acc i = .ok (f,j)->i<=j
 | 0,acc,i,j,f,h=>xp
 |n+1,acc,i,j,f,h=>by
  rw[qx]at h;split at h
  .cases h;exact Yo
  .obtain⟨g,q,h1,h2⟩:=zF h;have:=im hm h1;have:=PW hm n _ _ _ _ h2;omega
def Mr{form:Nat}{o:Wd}(h:Uu rs form i = .ok (o,j)):i<=j:=by
 unfold Uu at h;split at h
 .obtain⟨a,q,h1,h2⟩:=zF h;cases h2;have:=XS h1;have:=yl rs (i+7);have:=yl rs q;omega
 .cases h;exact Yo
def lX(hm:∀m,msg=some m->Bc m)(h:gH rs msg i = .ok (f,j)):i<j:=by
 unfold gH at h;obtain⟨u,a,h1,h2⟩:=zF h;obtain⟨nm,b,x,g⟩:=zF h2;have A:=(yS h1).2;have B:=yl rs a;have C:=jo x;have D:=yl rs b;clear h h1 h2 x;split at g
 .obtain⟨u,z,k,e⟩:=zF g;have:=(yS k).2;cases e;omega
 .obtain⟨H,c,k,e⟩:=zF g;have E:=jo k;have F:=yl rs (xx rs b+1);have G:=yl rs c;clear g k;split at e
  .obtain⟨u,z,v,w⟩:=zF e;have:=(yS v).2;cases w;omega
  .split at e
   .cases e
   .obtain⟨u,d,v,w⟩:=zF e;obtain⟨o,l,y,n⟩:=zF w;obtain⟨bs,q,p,r⟩:=zF n;obtain⟨u,z,s,t⟩:=zF r;have:=(yS v).2;have:=yl rs d;have:=Mr y;have:=PW hm _ _ _ _ _ p;have:=(yS s).2;cases t;omega
def Jf(rs:List Int)(num:Bool)(i:Nat):i<(qq rs num i).2:=by
 unfold qq;split
 .exact dK _
 split
 .exact Nat.lt_add_of_pos_right zW
 split
 .exact dK _
 .show i<i+1+_;omega
def Uq{num:Bool}(hm:∀m,msg=some m->Bc m):∀(n:Nat) (acc:Fo) (i j:Nat) (f:Fo),vJ rs msg num n acc i = .ok (f,j)->i<=j
 | 0,acc,i,j,f,h=>xp
 |n+1,acc,i,j,f,h=>by
  rw[vJ]at h;split at h
  .cases h;exact Yo
  split at h
  .obtain⟨g,q,h1,h2⟩:=zF h;have:=lX hm h1;have:=Uq hm n _ _ _ _ h2;omega
  split at h
  .have:=Uq hm n _ _ _ _ h;omega
  .have:=Uq hm n _ _ _ _ h;have:=Jf rs num i;omega
def Ms(rs:List Int):∀n,Bc (gI rs n)
 | 0,num,i,f,j,h=>by
  rw[gI]at h;exact Uq (λm e=>gG) _ _ _ _ _ h
 |n+1,num,i,f,j,h=>by
  rw[gI]at h;exact Uq (λm e=>by cases e;exact Ms rs n) _ _ _ _ _ h
variable{v3 v4 v5:zx}
def Jd{r:Int}{F:Unit->Nat->qo β}(h:yz rs i=r):(ua rs r i).then F=F () (i+1):=by unfold ua;rw[yK h];rfl
def DH{r:Int}{F:Unit->Nat->qo β}(h:¬yz rs i=r):(ua rs r i).then F = .error (3,i):=by unfold ua;rw[yv h];rfl
def zb7{F:Wd->Nat->qo β}(h:¬qj rs i=0):(qR rs i).then F=F (um rs i (qj rs i)) (i+qj rs i):=by unfold qR;rw[yv h];rfl
def zb8{F:Wd->Nat->qo β}(h:qj rs i=0):(qR rs i).then F = .error (3,i):=by unfold qR;rw[yK h];rfl
def lV{F:Wd->Nat->qo β}(h:¬ku rs i=0):(kS rs i).then F=F (um rs i (ku rs i)) (i+ku rs i):=by unfold kS;rw[yv h];rfl
def lU{F:Wd->Nat->qo β}(h:ku rs i=0):(kS rs i).then F = .error (3,i):=by unfold kS;rw[yK h];rfl
def PA{f:Nat}(h:¬(f≠0/\Du rs i=true)):Uu rs f i = .ok ([48],i):=by unfold Uu;rw[yv h]
def zb9{f:Nat}(h:f≠0/\Du rs i=true):Uu rs f i=(qR rs (xx rs (i+7))).then λo j => .ok (o,xx rs j):=by unfold Uu;rw[yK h]
def then_assoc{γ:Type}(x:qo α)(f:α->Nat->qo β)(g:β->Nat->qo γ):(x.then f).then g=x.then λa i=>(f a i).then g:=by
 cases x with
 |error e=>rfl
 |ok a=>rfl
def xb3(p:Nat)(rs:List Int)(d:Nat)(r:qo Fo)(w:z8)(e:xX)(w':z8):Prop :=
 (match r with
  |.error (n,a)=>Ge p n a e w'
  |.ok (f,j)=>(∃v,e = .returned v/\yY (w:Nat) (w':Nat) w' [v] f)/\f.len=1/\f.ya=true/\xr p rs j d w')/\xN p w w'
def Be{m:Wd}(h:Ux m=some n):n<3:=by
 unfold Ux at h;split at h
 .cases h;decide
 split at h
 .cases h;decide
 split at h
 .cases h;decide
 .cases h
structure Hv(B:Nat)(v0 v1 v2 v3 v4 v5:zx)(w:z8):Prop where
 c0:zk w B 0 v0
 c1:zk w B 1 v1
 c2:zk w B 2 v2
 c3:zk w B 3 v3
 c4:zk w B 4 v4
 c5:zk w B 5 v5
 z:∀j,w.frozen? ⟨B,j,none⟩=false
def Hv.but(h:Hv B v0 v1 v2 v3 v4 v5 w)(hb:xN p w w')(b:B≠p):Hv B v0 v1 v2 v3 v4 v5 w' :=
 ⟨hb.cell h.c0 b,hb.cell h.c1 b,hb.cell h.c2 b,hb.cell h.c3 b,hb.cell h.c4 b,hb.cell h.c5 b,λj=>(zU (a:=⟨B,j,none⟩) (hb.block B (X w _ h.c0) b)).trans (h.z j)⟩
def Hv.vjb(h:Hv B v0 v1 v2 v3 v4 v5 w):Hv B v0 v1 v2 u v4 v5 (w.setCell (B,3) u):=by
 refine⟨?_,?_,?_,?_,?_,?_,λj=>MX⟩<;>rw[zr];all_goals first|(rw[yv zV];first|exact h.c0|exact h.c1|exact h.c2|exact h.c4|exact h.c5)|(rw[yK rfl,h.c3];rfl)
def Hv.vj5(h:Hv B v0 v1 v2 v3 v4 v5 w):Hv B v0 v1 v2 v3 u v5 (w.setCell (B,4) u):=by
 refine⟨?_,?_,?_,?_,?_,?_,λj=>MX⟩<;>rw[zr];all_goals first|(rw[yv zV];first|exact h.c0|exact h.c1|exact h.c2|exact h.c3|exact h.c5)|(rw[yK rfl,h.c4];rfl)
def Hv.vg0(h:Hv B v0 v1 v2 v3 v4 v5 w):Hv B v0 v1 v2 v3 v4 u (w.setCell (B,5) u):=by
 refine⟨?_,?_,?_,?_,?_,?_,λj=>MX⟩<;>rw[zr];all_goals first|(rw[yv zV];first|exact h.c0|exact h.c1|exact h.c2|exact h.c3|exact h.c4)|(rw[yK rfl,h.c5];rfl)
def Hv.lt(h:Hv B v0 v1 v2 v3 v4 v5 w):B<(w:Nat):=X w _ h.c0
def Hv.grown{row:Option Nat}(h:Hv B v0 v1 v2 v3 v4 v5 w)(c:w.grownBy w' row)(b:some B≠row):Hv B v0 v1 v2 v3 v4 v5 w' :=
 ⟨c.cell h.c0 b,c.cell h.c1 b,c.cell h.c2 b,c.cell h.c3 b,c.cell h.c4 b,c.cell h.c5 b,λj=>(zU (a:=⟨B,j,none⟩) (c.block B h.lt b)).trans (h.z j)⟩
structure Bi(B:Nat)(v0 v1:zx)(w:z8):Prop where
 c0:zk w B 0 v0
 c1:zk w B 1 v1
 z:∀j,w.frozen? ⟨B,j,none⟩=false
def Bi.but(h:Bi B v0 v1 w)(hb:xN p w w')(b:B≠p):Bi B v0 v1 w' :=
 ⟨hb.cell h.c0 b,hb.cell h.c1 b,λj=>(zU (a:=⟨B,j,none⟩) (hb.block B (X w _ h.c0) b)).trans (h.z j)⟩
def Bi.VE(h:Bi B v0 v1 w):Bi B u v1 (w.setCell (B,0) u) :=
 ⟨AR,MH,λj=>MX⟩
def Jb(p:Nat)(rs:List Int)(i d:Nat)(msg:Option jJ)(w:z8)(h:xr p rs i d w)(he:FI p w)(hd:msg=none ↔ d=6)(hm:∀m,msg=some m->yx9 p rs d m)(hup:∀m,msg=some m->Bc m) :
  zE prog 130 #[(p,0)] w (xb3 p rs d (gH rs msg i) w):=by
 obtain⟨HH,oP,hu,HBR⟩:=hdd h he hup (λnum j W hs hE=>Am p rs j d num msg W hs hE hd hm);have vg1:=h.lt;have h5:=h.at_;obtain⟨R,hR⟩:=zw (gH rs msg i);rw[hR];unfold gH at hR;have HTW:=Z hR.symm;clear h he hd hm hR hup;go_enter func130,ntmps130;go_wp2_with fail;refine yw ?_;intro W hW;have OO:zR w W:=QB;have U:Bi (w:Nat) (.string ⟨#[]⟩) i W:=by
  rw[hW];exact⟨zZ _ _ _ _ _,zZ _ _ _ _ _,λj=>uK⟩
 clear hW h5;obtain⟨B,hB⟩:=zw (w:Nat);rw[hB]at U|-;have HB:=Z hB;have hpB:p<B:=J;have HLW:=Z U;have HSW:=Z (HH.o.below OO);have OO:=xN.of (p:=p) OO;clear hB U;refine(ZS p rs i d 123 W HSW.o zW).mono ?_;rintro e x1 ⟨hq,ynu⟩;have xb5:=OO.trans ynu;have vg2:=Z (HLW.o.but ynu J);by_cases hw:yz rs i=123
 .rw[yK hw]at hq;obtain⟨rfl,hs⟩:=hq;have ht:=HTW.o;rw[Jd hw]at ht;have yxy:=Z ht;have xb6:=Z hs;clear ht hs hw ynu HTW HSW;go_wp2_with fail;refine(jn p rs (i+1) d x1 xb6.o).mono ?_;rintro e x2 ⟨rfl,hs,ynq⟩;have vg3:=xb5.trans ynq;have vg4:=Z (vg2.o.but ynq J);obtain⟨J1,hJ⟩:∃H,xx rs (i+1)=H:=⟨_,rfl⟩;have ud6:i+1<=J1:=by rw[<-hJ];exact yl rs _
  have ht:=yxy.o;rw[hJ]at ht hs;have ynk:=Z ht;have xb7:=Z hs;clear ht hs hJ ynq yxy xb6;go_wp2_with fail;refine(Ju p rs J1 d x2 xb7.o).mono ?_;rintro e x3 ⟨hq,ynj⟩;have xb8:=vg3.trans ynj;have yxx:=Z (vg4.o.but ynj J);by_cases hn:ku rs J1=0
  .rw[yK hn]at hq;have ht:=ynk.o;rw[lU hn]at ht;have yxv:=Z ht;clear ht hn;have HQ:=Z hq;obtain⟨bf,rfl,_,_⟩:=hq;go_wp2;exact⟨rfl,by rw[yxv.o];exact HQ.o,xb8⟩
  .rw[yv hn]at hq;obtain⟨rfl,hs⟩:=hq;have ht:=ynk.o;rw[lV hn]at ht;obtain⟨K,hK⟩:=zw (um rs J1 (ku rs J1));obtain⟨J2,hJ⟩:∃H,J1+ku rs J1=H:=⟨_,rfl⟩;rw[hJ,hK]at ht;rw[hJ]at hs;rw[hK];have hlK:K.length<=4000000:=by
    have:=Za rs J1 (ku rs J1);have:=HH.o.len;rw[<-hK];omega
   have yxv:=Z ht;have vg5:=Z hs;clear ht hs hK hJ hn ynj ynk xb7;have zz:=yxx.o.z 0;have z0:=yxx.o.c0;have z1:=yxx.o.c1;have yng:=Z (vg5.o.own hpB 0 (zO K));have xb9:=Z (yxx.o.VE (u:=zO K));have xbz:xN p w (x3.setCell (zQ B 0) (zO K)):=xb8.own MM 0 _;have xby:=yxv;obtain⟨x4,V⟩:∃Xk,x3.setCell (zQ B 0) (zO K)=Xk:=⟨_,rfl⟩;rw[V]at yng xb9 xbz;have HX:=Z V;clear V yxv;go_wp2_with fail;rw[HX.o];clear zz z0 z1;refine(jn p rs (J2) d x4 yng.o).mono ?_;rintro e x5 ⟨rfl,hs,ynf⟩;have vg6:=xbz.trans ynf;have vg7:=Z (xb9.o.but ynf J);obtain⟨J3,hJ⟩:∃H,xx rs (J2)=H:=⟨_,rfl⟩;have ud7:J2<=J3:=Ax;have ht:=xby.out;rw[hJ]at ht hs;have yxu:=Z ht;have ynd:=Z hs;clear ht hs hJ ynf xby yng;go_wp2_with fail;refine(U7 p rs J3 d 44 x5 ynd.o zW).mono ?_;rintro e x6 ⟨rfl,hs,hx6⟩;have xbx:=vg6.trans hx6;have xbv:=Z (vg7.o.but hx6 J);by_cases P:yz rs J3=44
   .rw[yK P]at hs;rw[show(yz rs J3==44)=true by rw[P];rfl];have L:=Z hs;have ht:=yxu.o;rw[yv (λe=>e P)]at ht;have F:=Z ht;clear ht hs P hx6 yxu ynd;go_wp2_with fail;refine(jn p rs (J3+1) d x6 L.o).mono ?_;rintro e x7 ⟨rfl,hs,D⟩;have Q:=xbx.trans D;have yxq:=Z (xbv.o.but D J);obtain⟨J4,hJ⟩:∃H,xx rs (J3+1)=H:=⟨_,rfl⟩;have ud8:J3+1<=J4:=(by rw[<-hJ];exact yl rs _);have ht:=F.o;rw[hJ]at ht hs;have A:=Z ht;have M:=Z hs;clear ht hs hJ D F L;have g7:=M.o.at_;go_wp2_with fail;refine(Ju p rs J4 d x7 M.o).mono ?_;rintro e x8 ⟨hq,ynb⟩;have xbu:=Q.trans ynb;have vg8:=Z (yxq.o.but ynb J);by_cases hn:ku rs J4=0
    .rw[yK hn]at hq;have ht:=A.o;rw[lU hn]at ht;have yxk:=Z ht;clear ht hn;have HQ:=Z hq;obtain⟨bf,rfl,_,_⟩:=hq;go_wp2;exact⟨rfl,by rw[yxk.o];exact HQ.o,xbu⟩
    .rw[yv hn]at hq;obtain⟨rfl,hs⟩:=hq;have ht:=A.o;rw[lV hn]at ht;obtain⟨K2,hK⟩:∃K,um rs J4 (ku rs J4)=K:=⟨_,rfl⟩;obtain⟨J5,hJ⟩:∃H,J4+ku rs J4=H:=⟨_,rfl⟩;rw[hJ,hK]at ht;rw[hJ]at hs;rw[hK];have ud9:K2.length<=4000000:=by
      have:=Za rs J4 (ku rs J4);have:=HH.o.len;rw[<-hK];omega
     have yxk:=Z ht;have xbq:=Z hs;clear ht hs hK hJ hn ynb A M;clear g7;go_wp2_with fail;refine(jn p rs (J5) d x8 xbq.o).mono ?_;rintro e x9 ⟨rfl,hs,yo0⟩;have xbk:=xbu.trans yo0;have xbj:=Z (vg8.o.but yo0 J);obtain⟨J6,hJ⟩:∃H,xx rs (J5)=H:=⟨_,rfl⟩;have udz:J5<=J6:=Ax;have ht:=yxk.o;rw[hJ]at ht hs;have c:=Z ht;have yxj:=Z hs;clear ht hs hJ yo0 yxk xbq;by_cases hk:(K2==[110,117,109,98,101,114])=true
     .have ht:=c.o;rw[yK (show K2=zb5 from eq_of_beq hk)]at ht;have HT9:=c;clear c;have c:=Z ht;clear ht HT9;go_wp2_with fail;clear hk;refine(ZS p rs J6 d 125 x9 yxj.o zW).mono ?_;rintro e E ⟨hq,zbz⟩;have a:=xbk.trans zbz;have t:=Z (xbj.o.but zbz J);by_cases hw:yz rs J6=125
      .rw[yK hw]at hq;obtain⟨rfl,hs⟩:=hq;have ht:=c.o;rw[Jd hw]at ht;have y:=Z ht;have x:=Z hs;clear ht hs hw zbz c yxj;have k0:=t.o.c0;have k1:=t.o.c1;have V:=a.size;go_wp2;rw[y.o];have Ke:=λo=>(zu (E:Nat) E).alloc (Y _) o
       refine yU (v := .iface 213 (E,0)) ?_ rfl ?_
       .exact Wo
       exact⟨⟨⟨_,rfl,[],(E:Nat),rfl,V,zV,zZ _ _ _ _ _,zZ _ _ _ _ _,rfl⟩,rfl,rfl,x.o.below (Ke _)⟩,a.below (Ke _)⟩
      .rw[yv hw]at hq;have ht:=c.o;rw[DH hw]at ht;have y:=Z ht;clear ht hw;have HQ:=Z hq;obtain⟨bf,rfl,_,_⟩:=hq;go_wp2;exact⟨rfl,by rw[y.o];exact HQ.o,a⟩
     .have hk':(K2==[110,117,109,98,101,114])=false:=(by simpa using hk);have ht:=c.o;rw[yv (show ¬K2=zb5 from λe=>hk (beq_iff_eq.2 e))]at ht;have HTf:=Z ht;clear ht hk c;go_wp2_with fail;clear hk';refine(px x9).mono ?_;rintro e E ⟨⟨bm,rfl,hF⟩,yxg⟩;have a:=xbk.below yxg;have t:=Z (xbj.o.but (xN.of (p:=p) yxg) J);have x:=Z (yxj.o.below yxg);have HF:=Z hF;have I:=hF.look K2 J;clear yxg hF yxj;obtain⟨fo,lK⟩:=zw (Ux K2);rw[lK]at I;have ht:=HTf.o;rw[lK]at ht;have HTg:=Z ht;clear ht HTf;have HFO:=Z lK;clear lK;cases fo with
      |none =>
       have y:=Z (show R = .error (3,J4)from HTg.o);clear HTg;simp only[Option.getD_none,Option.isSome_none]at I;go_wp2_with fail;refine(Yi p 3 J4 E x.o.I8).mono ?_;rintro e x11 ⟨hf,vg9⟩;have Va:=Z hf;obtain⟨bf,rfl,_,_⟩:=hf;go_wp2;exact⟨rfl,by rw[y.o];exact Va.o,a.below vg9⟩
      |some form =>
       simp only[Vd,Option.isSome_some]at I;have PH:form<3:=Be HFO.o;have ht:=HTg.o;have HTY:=Z ht;clear HTg ht;have k0:=t.o.c0;have k1:=t.o.c1;go_wp2_with fail;refine yw ?_;intro Yk hY;have hbY:zR E Yk:=(by rw[hY];exact(zu _ _).alloc (Y _) _);have U:Hv (E:Nat) (zO K) i form (.int .i64 0) (.slice none 0 0) (.int .i64 0) Yk:=by
        rw[hY];exact⟨zZ _ _ _ _ _,zZ _ _ _ _ _,zZ _ _ _ _ _,zZ _ _ _ _ _,zZ _ _ _ _ _,zZ _ _ _ _ _,λj=>uK⟩
       have hwx:(w:Nat)<=(E:Nat):=a.size;have HSY:=Z (x.o.below hbY);have hbY:=a.below hbY;obtain⟨C,hC⟩:=zw (E:Nat);rw[hC]at U hwx|-;have hwC:=hwx;clear hY k0 k1 I x hC t HF hwx;have HLY:=Z U;have hpC:p<C:=J;clear U;refine(ZS p rs J6 d 44 Yk HSY.o zW).mono ?_;rintro e y1 ⟨hq,yo1⟩;have xbg:=hbY.trans yo1;have vgy:=Z (HLY.o.but yo1 J);by_cases hw:yz rs J6=44
       .rw[yK hw]at hq;obtain⟨rfl,hs⟩:=hq;have ht:=HTY.o;rw[Jd hw]at ht;have yxd:=Z ht;have xbf:=Z hs;clear ht hs hw yo1 HTY HSY;go_wp2_with fail;refine(jn p rs (J6+1) d y1 xbf.o).mono ?_;rintro e y2 ⟨rfl,hs,yo2⟩;have yo3:=xbg.trans yo2;have yo4:=Z (vgy.o.but yo2 J);obtain⟨J7,hJ⟩:∃H,xx rs (J6+1)=H:=⟨_,rfl⟩;have udv:J6+1<=J7:=(by rw[<-hJ];exact yl rs _);have ht:=yxd.o;rw[hJ]at ht hs;have xbd:=Z ht;have N:=Z hs;clear ht hs hJ yo2 yxd xbf;obtain⟨FF,hFF⟩:∃FF:Wd->Nat->qo Fo,FF=λo l=>(qx rs msg (decide (form≠0)) (rs.length+1) .nil l).then λbs q=>(ua rs 125 q).then λ_ z => .ok (.br K i form o q bs .nil,z):=⟨_,rfl⟩
        have HFF:=Z hFF;have T:=Z (show R=(Uu rs form J7).then FF by rw[hFF];exact xbd.o);clear hFF xbd;go_upto_region 23 with fail
        go_cut [76] (λs wc=>∃b l,s = .bool b/\xr p rs l d wc/\xN p w wc/\Hv C (zO K) i form (.int .i64 0) (.slice none 0 0) (.int .i64 0) wc/\J7<=l/\(b=true->R=((qR rs (xx rs l)).then λo j=>(.ok (o,xx rs j):qo Wd)).then FF)/\(b=false->R=FF [48] l))
        case first =>
         by_cases h0:form=0
         .subst h0;have ht:=T.o;rw[PA (λe=>e.1 rfl),then_ok]at ht;have HTX:=Z ht;clear ht T;go_wp2_with fail;go_meet
          case rel=>exact⟨false,J7,rfl,N.o,yo3,yo4.o,Y _,(λe=>gG),λ_=>HTX.o⟩
         .have hf0:((form:Int)==0)=false:=(by simp;omega);have Q6:((form:Int) !=0)=true:=yF;have HF0:=Z h0;clear h0;go_wp2_with fail;refine(PO p rs J7 d y2 N.o).mono ?_;rintro e y3 ⟨rfl,hs,hx⟩;have xbb:=yo3.trans hx;have xa0:=Z (yo4.o.but hx J);by_cases ho:Du rs J7=true
          .rw[yK ho]at hs;rw[ho];have ht:=T.o;rw[zb9 ⟨HF0.o,ho⟩]at ht;have yo5:=Z ht;have yo6:=Z hs;clear ht hs hx ho T N;go_wp2_with fail;go_meet
           case rel=>exact⟨true,J7+7,rfl,yo6.o,xbb,xa0.o,kY _ _,(λ_=>yo5.o),(λe=>gG)⟩
          .rw[yv ho]at hs;rw[show Du rs J7=false from Bz];have ht:=T.o;rw[PA (λe=>ho e.2),then_ok]at ht;have yo5:=Z ht;have yo6:=Z hs;clear ht hs hx ho T N;go_wp2_with fail;go_meet
           case rel=>exact⟨false,J7,rfl,yo6.o,xbb,xa0.o,Y _,(λe=>gG),λ_=>yo5.o⟩
        case rest =>
         obtain⟨b,l,rfl,hs,Pa,hl,hJl,ht1,ht0⟩:=hcut;obtain⟨HSc,HLc,Iy,HT0⟩:=hdd hs hl ht1 ht0;clear hs hl ht1 ht0 N yo4 T yo3;go_upto_if 76 with fail
         go_cut [] (λwc=>∃l ov O,yb O=ov/\xr p rs l d wc/\xN p w wc/\Hv C (zO K) i form (.int .i64 ov) (.slice none 0 0) (.int .i64 0) wc/\J7<=l/\R=FF O l)
         case first =>
          cases b with
          |false =>
           have HTc:=Z (HT0.o rfl);clear HT0 Iy;go_wp2_with fail;go_meet
           case rel=>exact⟨l,0,[48],rfl,HSc.o,Pa,HLc.o,hJl,HTc.o⟩
          |true =>
           have HTc:=Z (Iy.o rfl);have vgu:=Pa;have xa1:=HSc;have vgq:=HLc;have xa2:=HTc;clear Pa HSc HLc HTc Iy HT0;go_wp2_with fail;refine(jn p rs (l) d wc xa1.out).mono ?_;rintro e y4 ⟨rfl,hs,yo7⟩;have vgk:=vgu.trans yo7;have vgj:=Z (vgq.out.but yo7 J);obtain⟨J8,hJ⟩:∃H,xx rs (l)=H:=⟨_,rfl⟩;have udq:l<=J8:=Ax;have ht:=xa2.out;rw[hJ]at ht hs;have yo8:=Z ht;have xa3:=Z hs;clear ht hs hJ yo7 xa2 xa1;go_wp2_with fail;refine(IY p rs J8 d y4 xa3.o).mono ?_;rintro e y5 ⟨hq,hx⟩;have xa4:=vgk.trans hx;have vgg:=Z (vgj.o.but hx J);by_cases hn:qj rs J8=0
           .rw[yK hn]at hq;have ht:=yo8.o;rw[then_assoc,zb8 hn]at ht;have yxb:=Z ht;clear ht hn;have HQ:=Z hq;obtain⟨bf,rfl,_,_⟩:=hq;go_wp2;exact⟨rfl,by rw[yxb.o];exact HQ.o,xa4⟩
           .rw[yv hn]at hq;obtain⟨rfl,hs⟩:=hq;have ht:=yo8.o;rw[then_assoc,zb7 hn]at ht;simp only[then_ok]at ht;obtain⟨w1,w2,w3⟩:=FL rs J8 hn;obtain⟨O,hO⟩:∃K,um rs J8 (qj rs J8)=K:=⟨_,rfl⟩;obtain⟨J9,hJ⟩:∃H,J8+qj rs J8=H:=⟨_,rfl⟩;have udk:J8<=J9:=(by omega);rw[hJ,hO]at ht;rw[hJ]at hs;rw[hO]at w1 w2 w3|-;have yxb:=Z ht;have xa5:=Z hs;have HAT:=Z (λW=>lY O W w1 w2 w3);clear ht hs hO hJ hn hx yo8 xa3 w1 w2 w3;go_wp2_with fail;refine(HAT.o y5).mono ?_;rintro e y6 ⟨rfl,hx⟩;have vgf:=xa4.below hx;have yo9:=Z (vgg.o.but (xN.of (p:=p) hx) J);have vgd:=Z (xa5.o.below hx);obtain⟨ov,hov⟩:∃v,yb O=v:=⟨_,rfl⟩;rw[hov];have HOV:=Z hov;have q3:=yo9.o.c3;have z3:=yo9.o.z 3;have yoz:=Z (vgd.o.own hpC 3 ov);have xa7:=Z (yo9.o.vjb (u := .int .i64 ov));have xa8:xN p w (y6.setCell (zQ C 3) ov):=vgf.own hwC 3 _;have xa9:=yxb;obtain⟨y7,V⟩:∃Xk,y6.setCell (zQ C 3) ov=Xk:=⟨_,rfl⟩;rw[V]at yoz xa7 xa8;have HX:=Z V;clear V yxb hov hx xa5;go_wp2_with fail;rw[HX.o];clear q3 z3;refine(jn p rs (J9) d y7 yoz.o).mono ?_;rintro e y8 ⟨rfl,hs,yoy⟩;have vgb:=xa8.trans yoy;have vf0:=Z (xa7.o.but yoy J);obtain⟨J10,hJ⟩:∃H,xx rs (J9)=H:=⟨_,rfl⟩;have uz5:J9<=J10:=(by rw[<-hJ];exact yl rs _);have ht:=xa9.out;rw[hJ]at ht hs;have vf1:=Z ht;have vf2:=Z hs;clear ht hs hJ yoy xa9 yoz;go_wp2_with fail;go_meet
            case rel=>exact⟨J10,ov,O,HOV.o,vf2.o,vgb,vf0.o,J,vf1.o⟩
         case rest =>
          obtain⟨l2,ov,O,hov,hs,hbz,hl,udj,ht⟩:=hcut;obtain⟨HOV,HSz,HLz,HTz⟩:=hdd hov hs hl (show R=(qx rs msg (decide (form≠0)) (rs.length+1) .nil l2).then λbs q=>(ua rs 125 q).then λ_ z => .ok (.br K i form O q bs .nil,z)by rw[ht,HFF.o]);obtain⟨NB,hNB⟩:∃b,decide (form≠0)=b:=⟨_,rfl⟩;have ly:=Z hNB;have vj0:=Z (show((form:Int) !=0)=NB by rw[<-hNB];by_cases h:form=0<;>simp[h]);clear hov hs hl ht Pa HSc HLc Iy HT0 HFF hNB;go_wp2_with fail;obtain⟨G,hG,hGe⟩:∃G:Fo->Nat->qo Fo,R=(qx rs msg NB (rs.length+1) .nil l2).then G/\∀bs q,yz rs q=125->G bs q = .ok (.br K i form O q bs .nil,q+1):=⟨_,(show decide (form≠0)=NB from ly.o)▸HTz.o,λbs q h=>Jd h⟩;have HGE:=Z hGe;clear hGe;have HG:=Z hG;have pj:1<=l2:=J;clear hG HTz;go_loopw [] (λwr=>∃acc j n v ws,xr p rs j d wr/\xN p w wr/\Hv C (zO K) i form ov v (.int .i64 0) wr/\kT (C+1) 221 3 v acc ws wr/\acc.xm=true/\R=(qx rs msg NB n acc j).then G/\rs.length+2<=n+j/\acc.len<=j) (λwr=>rs.length+2 - Aa p wr)
          case atStart=>exact⟨.nil,l2,rs.length+1,_,[],HSz.o,hbz,HLz.o,kT.start _ _ _ _,rfl,HG.o,J,zJ _⟩
          case round =>
           obtain⟨acc,j,n,v,ws,hs,zby,Et,PY,ya4,hR,hfu,ya5⟩:=hrel;obtain⟨ga,gc,hv,_⟩:=PY.row;subst hv;obtain⟨HSR,vf4,HGR,VW,HLG,xd5⟩:=ED hs Et PY hR ya4 (show acc.len<=j/\j<=rs.length+1 from⟨ya5,hs.here⟩);have hCC:=Et.lt;clear hs Et PY hR ya4 ya5;go_wp2_with fail;refine(gC p rs j d wr HSR.o).mono ?_;rintro e w1 ⟨rfl,qI⟩;have HB1:=Z (vf4.o.but (xN.of (p:=p) qI) J);have q4:=HB1.o.c4;have KM:=Z (HSR.o.below qI);have D5:=zby.below qI;by_cases g:yz rs j=125
           .rw[g];by_cases ha0:acc.len=0
            .have vf5:((acc.len:Int)==0)=true:=(by simp[ha0]);have HA0:=Z ha0;clear ha0 g;obtain⟨n',hn'⟩:∃n',n=n'+1:=⟨n - 1,AT⟩;have ht:=VW.o;rw[hn',qx,yv (λe=>e.2 HA0.o),then_assoc]at ht;exact zky
            .have vf5:((acc.len:Int)==0)=false:=(by simp[ha0]);have u1:=KM.o.at_;have q5:=HB1.o.c5;have z5:=HB1.o.z 5;obtain⟨n',hn'⟩:∃n',n=n'+1:=⟨n - 1,AT⟩;have ht:=VW.o;rw[hn',qx,yK ⟨g,ha0⟩,then_ok]at ht;have Iy:=Z ht;have dw:=Z (KM.o.own hpC 5 j);have oS:=Z (HB1.o.vg0 (u := .int .i64 j));have qX:xN p w (w1.setCell (zQ C 5) j):=D5.own hwC 5 _;have xaz:=Z ((HGR.o.but (xN.of (p:=p) qI) J).but (xN.set C w1 5 j) J);obtain⟨y9,V⟩:∃Xk,w1.setCell (zQ C 5) j=Xk:=⟨_,rfl⟩;rw[V]at dw oS qX xaz;have HX9:=Z V;clear V ht hn';go_wp2_with fail;rw[HX9.o];refine(ZS p rs j d 125 y9 dw.o zW).mono ?_;rintro e y10 ⟨hq,hx⟩;rw[yK g]at hq;obtain⟨rfl,hs⟩:=hq;have HTZ:=Z (Iy.o.trans (HGE.o _ _ g));have ZX:=Z hs;have hbz:=qX.trans hx;have S:=Z (oS.o.but hx J);have xax:=Z (xaz.o.but hx J);have hCZ:=S.o.lt;clear hs g;go_wp2;rw[HTZ.o];refine yU (v := .iface 199 (zQ C 0)) ?_ rfl ?_
             .exact Wo
             obtain⟨ga2,gc2,An,xav⟩:=xax.o.row;cases An;have oT:vx (C+1) (y10:Nat) y10 y10:=vH (Y _);exact⟨⟨⟨_,rfl,[],C,_,_,ws,rfl,hwC,hCZ,S.o.c0,S.o.c1,S.o.c2,(HOV.o ▸  S.o.c3),S.o.c4,S.o.c5,xav.keep oT J (Y _),yY.keep oT J (Y _) _ _ xax.o.nodes,rfl⟩,rfl,rfl,ZX.o⟩,hbz⟩
           .have uz8:(yz rs j==125)=false:=(by simp[g]);have vf7:=Z g;clear g;obtain⟨n',hn'⟩:∃n',n=n'+1:=⟨n - 1,AT⟩;have ht:=VW.o;rw[hn',qx,yv (λe=>vf7.o e.1),then_assoc]at ht;exact zky
       .rw[yv hw]at hq;have ht:=HTY.o;rw[DH hw]at ht;have yxd:=Z ht;clear ht hw;have HQ:=Z hq;obtain⟨bf,rfl,_,_⟩:=hq;go_wp2;exact⟨rfl,by rw[yxd.o];exact HQ.o,xbg⟩
   .rw[yv P]at hs;rw[show(yz rs J3==44)=false by simp[P]];have L:=Z hs;have ht:=yxu.o;rw[yK P]at ht;have F:=Z ht;clear ht hs P hx6 yxu ynd;go_wp2_with fail;refine(ZS p rs J3 d 125 x6 L.o zW).mono ?_;rintro e x7 ⟨hq,D⟩;have Q:=xbx.trans D;have yxq:=Z (xbv.o.but D J);by_cases hw:yz rs J3=125
    .rw[yK hw]at hq;obtain⟨rfl,hs⟩:=hq;have ht:=F.o;rw[Jd hw]at ht;have A:=Z ht;have M:=Z hs;clear ht hs hw D F L;have k0:=yxq.o.c0;have k1:=yxq.o.c1;have V:=Q.size;go_wp2;rw[A.o];have Ke:=λo=>(zu (x7:Nat) x7).alloc (Y _) o
     refine yU (v := .iface 210 (x7,0)) ?_ rfl ?_
     .exact Wo
     exact⟨⟨⟨_,rfl,[],(x7:Nat),rfl,V,zV,zZ _ _ _ _ _,zZ _ _ _ _ _,rfl⟩,rfl,rfl,M.o.below (Ke _)⟩,Q.below (Ke _)⟩
    .rw[yv hw]at hq;have ht:=F.o;rw[DH hw]at ht;have A:=Z ht;clear ht hw;have HQ:=Z hq;obtain⟨bf,rfl,_,_⟩:=hq;go_wp2;exact⟨rfl,by rw[A.o];exact HQ.o,Q⟩
 .rw[yv hw]at hq;have ht:=HTW.o;rw[DH hw]at ht;have yxy:=Z ht;clear ht hw;have HQ:=Z hq;obtain⟨bf,rfl,_,_⟩:=hq;go_wp2;exact⟨rfl,by rw[yxy.o];exact HQ.o,xb5⟩
variable{cap:Nat}
def vo:∀(f:Fo) (s:Wd),f.xD=some s->∃pre:Fo,f=pre.app (.text s .nil)/\(f.ya=true->pre.ya=true)/\∀t,f.yn t=pre.app (.text (s++t) .nil)
 |.nil,s,h=>xp
 |.text x .nil,s,h=>by
  have e:x=s:=XB;subst e;exact⟨.nil,rfl,λ_=>rfl,λt=>rfl⟩
 |.text x (.text y r),s,h=>by
  obtain⟨pre,h1,h2,h3⟩:=vo (.text y r) s XB;exact GC
 |.text x (.hash r),s,h=>by
  obtain⟨pre,h1,h2,h3⟩:=vo (.hash r) s XB;exact GC
 |.text x (.put a b r),s,h=>by
  obtain⟨pre,h1,h2,h3⟩:=vo (.put a b r) s XB;exact GC
 |.text x (.num a b r),s,h=>by
  obtain⟨pre,h1,h2,h3⟩:=vo (.num a b r) s XB;exact GC
 |.text x (.br a b c d e g r),s,h=>by
  obtain⟨pre,h1,h2,h3⟩:=vo (.br a b c d e g r) s XB;exact GC
 |.text x (.xi a b c r),s,h=>by
  obtain⟨pre,h1,h2,h3⟩:=vo (.xi a b c r) s XB;exact GC
 |.hash r,s,h=>by
  obtain⟨pre,h1,h2,h3⟩:=vo r s XB;exact⟨.hash pre,Yn,λm=>h2 m,λt=>BC⟩
 |.put a b r,s,h=>by
  obtain⟨pre,h1,h2,h3⟩:=vo r s XB;exact⟨.put a b pre,Yn,λm=>h2 m,λt=>BC⟩
 |.num a b r,s,h=>by
  obtain⟨pre,h1,h2,h3⟩:=vo r s XB;exact⟨.num a b pre,Yn,λm=>h2 m,λt=>BC⟩
 |.br a b c d e g r,s,h=>by
  obtain⟨pre,h1,h2,h3⟩:=vo r s XB;exact⟨.br a b c d e g pre,Yn,λm=>h2 m,λt=>BC⟩
 |.xi a b c r,s,h=>by
  obtain⟨pre,h1,h2,h3⟩:=vo r s XB;exact⟨.xi a b c pre,Yn,λm=>(by cases m),λt=>BC⟩
def qv:∀(f:Fo) (t:Wd),f.xD=none->f.yn t=f.app (.text t .nil)
 |.nil,t,h=>rfl
 |.text x .nil,t,h=>xp
 |.text x (.text y r),t,h=>by rw[Fo.yn,qv (.text y r) t XB];rfl;simp
 |.text x (.hash r),t,h=>by rw[Fo.yn,qv (.hash r) t XB];rfl;simp
 |.text x (.put a b r),t,h=>by rw[Fo.yn,qv (.put a b r) t XB];rfl;simp
 |.text x (.num a b r),t,h=>by rw[Fo.yn,qv (.num a b r) t XB];rfl;simp
 |.text x (.br a b c d e g r),t,h=>by rw[Fo.yn,qv (.br a b c d e g r) t XB];rfl;simp
 |.text x (.xi a b c r),t,h=>by rw[Fo.yn,qv (.xi a b c r) t XB];rfl;simp
 |.hash r,t,h=>BX
 |.put a b r,t,h=>BX
 |.num a b r,t,h=>BX
 |.br a b c d e g r,t,h=>BX
 |.xi a b c r,t,h=>BX
def gD(g:Fo)(i:g ≠ .nil):∀f:Fo,(f.app g).xD=g.xD
 |.nil=>rfl
 |.text x r=>by
  have l:=gD g i r;rw[<-l];show Fo.xD (.text x (r.app g))=_;have j:r.app g ≠ .nil:=by
   cases r<;>simp[Fo.app];exact i
  cases h:r.app g<;>first|rfl|exact absurd h j
 |.hash r=>gD g i r
 |.put a b r=>gD g i r
 |.num a b r=>gD g i r
 |.br a b c d e k r=>gD g i r
 |.xi a b c r=>gD g i r
def yY.split{g:Fo}:∀(f:Fo) (vs:List zx),yY lo hi w vs (f.app g)->∃us xs,vs=us++xs/\yY lo hi w us f/\yY lo hi w xs g
 |.nil,vs,h=>⟨[],vs,rfl,rfl,h⟩
 |.text t r,vs,h=>zv0
 |.hash r,vs,h=>zv0
 |.put n a r,vs,h=>zxz
 |.num n a r,vs,h=>zxz
 |.br n a f o c bs r,vs,h=>by
  obtain⟨vt,b,i,j,ws,rfl,l1,l2,c0,c1,c2,c3,c4,c5,d,e,hr⟩:=h;obtain⟨us,xs,rfl,h1,h2⟩:=yY.split r vt hr;exact⟨_,xs,rfl,⟨us,b,i,j,ws,rfl,l1,l2,c0,c1,c2,c3,c4,c5,d,e,h1⟩,h2⟩
 |.xi k a m r,vs,h=>by
  obtain⟨vt,ma,mc,ws,rfl,d,hm,hr⟩:=h;obtain⟨us,xs,rfl,h1,h2⟩:=yY.split r vt hr;exact⟨_,xs,rfl,⟨us,ma,mc,ws,rfl,d,hm,h1⟩,h2⟩
def yY.one(h:yY lo hi w [v] f)(g:f.len=1)(hm:f.ya=true)(i:f.xD=none) :
  ∃T x,v = .iface T x/\((T=208/\x = .agg #[])\/(T=210/\∃b,x = .pointer (some ⟨b,0,none⟩))\/(T=213/\∃b,x = .pointer (some ⟨b,0,none⟩))\/(T=199/\∃b,x = .pointer (some ⟨b,0,none⟩))):=by
 cases f with
 |nil=>cases g
 |text t r =>
  have:r.len=0:=by simpa[Fo.len]using g
  cases r<;>simp[Fo.len]at this;cases i
 |hash r =>
  obtain⟨d,e,_⟩:=h;cases e;exact⟨_,_,rfl,.inl ⟨rfl,rfl⟩⟩
 |put n a r =>
  obtain⟨d,b,e,_⟩:=h;cases e;exact⟨_,_,rfl,.inr (.inl ⟨rfl,b,rfl⟩)⟩
 |num n a r =>
  obtain⟨d,b,e,_⟩:=h;cases e;exact⟨_,_,rfl,.inr (.inr (.inl ⟨rfl,b,rfl⟩))⟩
 |br n a f o c bs r =>
  obtain⟨d,b,j,l,ws,e,_⟩:=h;cases e;exact⟨_,_,rfl,.inr (.inr (.inr ⟨rfl,b,rfl⟩))⟩
 |xi k a m r=>cases hm
def Hu{r:Fo}(hr:r ≠ .nil):(Fo.text x r).xD=r.xD:=by
 cases r<;>first|rfl|exact absurd rfl hr
def ZQ:∀f:Fo,f.xD=none->f.ya=true->f ≠ .nil->∃pre g:Fo,f=pre.app g/\g.len=1/\g.ya=true/\g.xD=none/\pre.ya=true
 |.nil,_,_,h=>absurd rfl h
 |.text x r,h,hm,_=>by
  by_cases hr:r = .nil
  .subst hr;cases h
  .rw[Hu hr]at h;obtain⟨pre,g,h1,h2,i,j,l⟩:=ZQ r h hm hr;exact⟨.text x pre,g,Yn,h2,i,j,l⟩
 |.hash r,h,hm,_=>by
  by_cases hr:r = .nil
  .exact Lr
  .obtain⟨pre,g,h1,h2,i,j,l⟩:=ZQ r h hm hr;exact⟨.hash pre,g,Yn,h2,i,j,l⟩
 |.put a b r,h,hm,_=>by
  by_cases hr:r = .nil
  .exact Lr
  .obtain⟨pre,g,h1,h2,i,j,l⟩:=ZQ r h hm hr;exact⟨.put a b pre,g,Yn,h2,i,j,l⟩
 |.num a b r,h,hm,_=>by
  by_cases hr:r = .nil
  .exact Lr
  .obtain⟨pre,g,h1,h2,i,j,l⟩:=ZQ r h hm hr;exact⟨.num a b pre,g,Yn,h2,i,j,l⟩
 |.br a b c d e k r,h,hm,_=>by
  by_cases hr:r = .nil
  .exact Lr
  .obtain⟨pre,g,h1,h2,i,j,l⟩:=ZQ r h hm hr;exact⟨.br a b c d e k pre,g,Yn,h2,i,j,l⟩
 |.xi a b c r,h,hm,_=>by cases hm
def kT.xau{base:Nat}{ws:List zx}(h:kT base e 1 v acc ws w)(hm:acc.ya=true)(a:acc ≠ .nil) :
  match acc.xD with
  |some s=>∃us,ws=us++[.iface 206 (zO s)]/\us.length+1=acc.len
  |none=>∃us T x,ws=us++[.iface T x]/\us.length+1=acc.len/\((T=208/\x = .agg #[])\/(T=210/\∃b,x = .pointer (some ⟨b,0,none⟩))\/(T=213/\∃b,x = .pointer (some ⟨b,0,none⟩))\/(T=199/\∃b,x = .pointer (some ⟨b,0,none⟩))):=by
 have hn:=h.nodes;cases f:acc.xD with
 |some s =>
  obtain⟨pre,h1,h2,_⟩:=vo acc s f;have c:=h2 hm;rw[h1]at hn;obtain⟨us,xs,rfl,n1,n2⟩:=yY.split _ _ hn;obtain⟨m,rfl,e⟩:=n2;have i:m=[]:=e;subst i;refine⟨us,rfl,?_⟩;rw[yY.count _ _ n1 c,h1,Fo.jE];rfl
 |none =>
  obtain⟨pre,g,h1,h2,d,j,k⟩:=ZQ acc f hm a;rw[h1]at hn;obtain⟨us,xs,rfl,n1,n2⟩:=yY.split _ _ hn;have hx:=yY.count _ _ n2 d;rw[h2]at hx;match xs,hx with
  |[x],_ =>
   obtain⟨T,y,rfl,l⟩:=n2.one h2 d j;refine⟨us,T,y,rfl,?_,l⟩;rw[yY.count _ _ n1 k,h1,Fo.jE,h2]
def kT.A7{base:Nat}{g:Nat}{ws us:List zx}{s:Wd}(h:kT base e 1 (.slice (g,0) acc.len cap) acc ws w)(hm:acc.ya=true)(o:acc.xD=some s)
  (l:ws=us++[.iface 206 (zO s)]) (u:us.length+1=acc.len) (t:Wd) :
  kT base e 1 (.slice (g,0) (acc.yn t).len cap) (acc.yn t) (us++[.iface 206 (zO (s++t))]) (w.setCell (g,us.length) (.iface 206 (zO (s++t))))/\(acc.yn t).len=acc.len:=by
 obtain⟨pre,h1,h2,i⟩:=vo acc s o;have p:=h2 hm;have a:(acc.yn t).len=acc.len:=by
  rw[i,h1,Fo.jE,Fo.jE];rfl
 obtain⟨f,c⟩:=h;obtain⟨d,b⟩:=f.stored us.length (.iface 206 (zO (s++t)));rw[a];refine⟨⟨?_,λW j=>?_⟩,rfl⟩
 .rw[a];rw[l]at d;simpa[List.set_append]using d
 .have hn:=c W ⟨zg b.size j.1,λk k1 k2 k3=>(j.2 k k1 (zC k2 b.size) k3).trans (b.block k k2 (by simpa[yA]using k3))⟩;rw[h1,l]at hn;obtain⟨q,xs,he,n1,n2⟩:=yY.split _ _ hn;obtain⟨r,rfl,m⟩:=n2;have n:r=[]:=m;subst n;obtain⟨rfl,_⟩:=List.append_inj' he rfl;rw[i];exact yY.app (g := .text (s++t) .nil) ⟨_,rfl,rfl⟩ _ _ n1
def iw{s:Wd}(h:f.ya=true)(b:f.xD=some s)(t:Wd):(f.yn t).ya=true/\(f.yn t).xD=some (s++t):=by
 obtain⟨pre,h1,h2,a⟩:=vo f s b;rw[a];exact⟨Fo.kN _ _ (h2 h) rfl,gD _ zV _⟩
def IV(h:gH rs msg i = .ok (f,j)):f.xD=none/\j<=rs.length:=by
 have key:∀q:Nat,yz rs q=125->q+1<=rs.length:=λq v=>by
  apply yy;intro hc;rw[kP J]at v;cases v
 unfold gH at h;obtain⟨u,a,h1,h2⟩:=zF h;obtain⟨nm,b,x,p⟩:=zF h2;clear h h1 h2 x;split at p
 .obtain⟨u,z,s,e⟩:=zF p;have:=yS s;cases e;exact WR
 .obtain⟨A,c,s,e⟩:=zF p;split at e
  .obtain⟨u,z,t,r⟩:=zF e;have:=yS t;cases r;exact WR
  .split at e
   .cases e
   .obtain⟨u,d,t,r⟩:=zF e;obtain⟨o,l,y,g⟩:=zF r;obtain⟨bs,q,w,k⟩:=zF g;obtain⟨u,z,m,n⟩:=zF k;have:=yS m;cases n;exact WR
def Pc(l:List Int):(l.flatMap enc).length<=4*l.length:=zyu
def Ao:∀(n:Nat) (l:List Int),l.length<=n->(xg l).1.length<=(xg l).2:=zj9
def pg(rs:List Int)(num:Bool)(i:Nat):(qq rs num i).1.length+4*i<=4*(qq rs num i).2:=by
 unfold qq;split
 .exact zvd
 split
 .exact zq8
 split
 .exact zq9
 .have h1:=Pc (xg (rs.drop (i+1))).1;have h2:=Ao _ (rs.drop (i+1)) (Y _);exact zv8
def Pe(s:Wd)(w:z8):(za (.iface 206 (zO s)) 193 206 true).run prog w = .ok (.tuple #[zO s,.bool true]) w:=xG
def Pl(w:z8):(za (.iface 208 (.agg #[])) 193 206 true).run prog w = .ok (.tuple #[.string ⟨#[]⟩,.bool false]) w:=xG
def Ap(b:Nat)(w:z8):(za (.iface 210 (b,0)) 193 206 true).run prog w = .ok (.tuple #[.string ⟨#[]⟩,.bool false]) w:=xG
def Ar(b:Nat)(w:z8):(za (.iface 213 (b,0)) 193 206 true).run prog w = .ok (.tuple #[.string ⟨#[]⟩,.bool false]) w:=xG
def pd(b:Nat)(w:z8):(za (.iface 199 (b,0)) 193 206 true).run prog w = .ok (.tuple #[.string ⟨#[]⟩,.bool false]) w:=xG
def lJ(B p:Nat)(x:Int)(u:FrameMode)(w:z8)(hc:zk w B 0 (p,0))(hx:zk w p 2 x)(b:w.frozen? (p,2)=false) :
  CallsD prog 129 #[(B,0)] u w λe a w'=>a=u/\(e = .returned (.tuple #[])/\w'=w.setCell (p,2) (.int .i64 (wrap64 (x - 1)))):=by
 go_enter_d func129,ntmps129
 go_wp2;go_end0
 exact⟨rfl,rfl⟩
def At{num:Bool}(hn:1<=n):∃a,n=a+1/\vJ rs msg num n acc i =
  if yz rs i = -1\/yz rs i=125 then .ok (acc,i)
  else if yz rs i=123 then (gH rs msg i).then λf j=>vJ rs msg num a (acc.app f) j
  else if yz rs i=35/\num=true then vJ rs msg num a (acc.app (.hash .nil)) (i+1)
  else vJ rs msg num a (acc.yn (qq rs num i).1) (qq rs num i).2:=by
 obtain⟨a,rfl⟩:∃a,n=a+1:=⟨n - 1,J⟩;exact⟨a,rfl,by rw[vJ]⟩
def FM(p:Nat)(rs:List Int)(d:Nat)(msg:Option jJ)(hd5:d<=50)(xaq:∀j W,xr p rs j (d+1) W->FI p W->zE prog 130 #[(p,0)] W (xb3 p rs (d+1) (gH rs msg j) W))(hup:∀m,msg=some m->Bc m) :
  yx9 p rs d (λnum i=>vJ rs msg num (rs.length+1) .nil i):=by
 intro num i w h he;have hmf:∀(fn:Fn) (first cap:Array zx) (w:z8),(qA fn first cap).run prog w = .ok (.func fn first cap) w:=λ_ _ _ _=>rfl
 obtain⟨HH,oP,vf8,vf9⟩:=hdd h he xaq (λj f q (e:gH rs msg j = .ok (f,q))=>lX hup e);have vg1:=h.lt;have yn9:=Z h.len;obtain⟨R,hR⟩:=zw (vJ rs msg num (rs.length+1) .nil i);show zE _ _ _ w (xb2 p rs d (vJ rs msg num (rs.length+1) .nil i) w);rw[hR];have HTW:=Z hR.symm;clear he xaq hR hup;obtain⟨B,hB⟩:=zw (w:Nat);have HB:=Z hB;have hpB:p<B:=J;have K4:=λo=>(zu (w:Nat) w).alloc (Y _) o
 have vfz:=Z h;have g6:=h.deep;have z6:=h.z2;clear h;go_enter_defers func78,ntmps78;go_wp2_with fail;refine Gu ?_;intro W hW;have Tw:vG.wrap ((d:Int)+1)=((d+1:Nat):Int):=zx1;have F1:xr p rs i (d+1) W/\xN p w W/\zk W B 0 (p,0)/\B<(W:Nat):=by
  rw[hW,show((d:Int)+1)=((d+1:Nat):Int)from J];have hs:=vfz.o.xdg (d+1) J;have Z0:(w.setCell (zQ p 2) ((d+1:Nat):Int)).heap.size=B:=by rw[<-HB.o];simp[xu]
  have y:=λo=>(zu (w.setCell (p,2) ((d+1:Nat):Int)).heap.size (w.setCell (p,2) ((d+1:Nat):Int))).alloc (Y _) o
  have LW:=λc t fr i=>zZ (w.setCell (p,2) ((d+1:Nat):Int)) c t fr i
  rw[Z0]at LW;exact⟨hs.below (y _),(xN.set p w 2 _).below (y _),LW _ _ _ _,by rw[<-Z0];simp⟩
 obtain⟨xak,OO,PB,hBW⟩:=F1;have HSW:=Z xak;clear xak hW g6 z6 K4;go_loopw [4] (λv wr=>∃acc j n ws,xr p rs j (d+1) wr/\xN p w wr/\zk wr B 0 (p,0)/\kT (B+1) 193 1 v acc ws wr/\acc.ya=true/\R=vJ rs msg num n acc j/\rs.length+1<=n+j/\1<=n/\acc.len<=j/\∀s,acc.xD=some s->s.length<=4*j) (λv wr=>rs.length+2 - Aa p wr)
 case atStart=>exact⟨.nil,i,rs.length+1,[],HSW.o,OO,PB,kT.start _ _ _ _,rfl,HTW.o,J,J,zJ _,λs e=>by cases e⟩
 case round =>
  obtain⟨acc,j,n,ws,hs,zby,pb,PY,oI,hR,hfu,DI,zkv,S⟩:=hrel;obtain⟨n',hn',QL⟩:=At (rs:=rs) (msg:=msg) (num:=num) (acc:=acc) (i:=j) DI;rw[QL]at hR;obtain⟨HSR,HGR,HM,HR,HLA,HN⟩:=ED hs PY oI hR S hn';have xd4:=hs.here;obtain⟨ga,gc,rfl,_⟩:=PY.row;clear hs PY oI hR S hn' QL;go_wp2_with fail;refine(gC p rs j (d+1) wr HSR.o).mono ?_;rintro e w1 ⟨rfl,L⟩;have F:=Z (HSR.o.below L);have PB1:zk w1 B 0 (zQ p 0):=(L.cell (X _ _ pb)).trans pb;have H8:=zby.below L;have Yh:=Z (HGR.o.but (xN.of (p:=p) L) J);have ub3:B<(w1:Nat):=X _ _ PB1;have hw1:=L.size;clear L pb;obtain⟨r,hr⟩:=zw (yz rs j);rw[hr];have HQR:=Z hr;have lG:=HR.o;rw[hr]at lG;have D:=Z lG;clear lG HR hr;by_cases A:r = -1\/r=125
  .have HT:=Z (D.o.trans (yK A));have Ec:wrap64 (((d+1:Nat):Int) - 1)=(d:Int):=(by rw[show((d+1:Nat):Int) - 1=(d:Int)by omega];simp[wrap64];omega);have HD2:=Z Ec;clear D Ec;obtain A|A:=A;all_goals
    subst A;go_wp2_with fail;refine kI (f:=129) (args:=#[(zQ B 0)]) zV kO ?_;refine(lJ B p ((d+1:Nat):Int) _ _ PB1 F.o.deep F.o.z2).mono ?_;rintro e u' VQ ⟨rfl,rfl,rfl⟩;simp only[settle];refine⟨.slice ga acc.len gc,by simp[yN,results78,go_sem],?_⟩;rw[HT.o,HD2.o];have hG:=Yh.o.but (xN.set p w1 2 d) J;obtain⟨a,c,hv,Yx⟩:=hG.row;cases hv;have Z0:=H8.size;have hk:vx (B+1) (w1.setCell (p,2) d).heap.size (w1.setCell (p,2) d) (w1.setCell (p,2) d):=vH (Y _);exact⟨⟨⟨_,_,rfl,ws,Yx.keep hk J (Y _),yY.keep hk J (Y _) _ _ hG.nodes⟩,HM.o,F.o.xdg d J⟩,H8.Jv 2 _⟩
  .have I:=Z (D.o.trans (yv A));have e1:(r==-1)=false:=(by simpa using λe=>A (.inl e));have e2:(r==125)=false:=(by simpa using λe=>A (.inr e));clear A D;by_cases G:r=123
   .have D:=Z (I.o.trans (yK G));clear I e1 e2;subst G;obtain⟨ra,hra⟩:=zw (gH rs msg j);have K:=vf8.o j w1 F.o (oP.o.but H8);rw[hra]at K;have M:=Z K;have hr3:=D.o;rw[hra]at hr3;have Iy:=Z hr3;have HRA:=Z hra;clear K hr3 D hra;go_wp2_with fail;refine M.o.mono ?_;rintro e w2 ⟨hq,dH⟩;have Qr:=H8.trans dH;have If:zk w2 B 0 (zQ p 0):=dH.cell PB1 BU;clear M;cases ra with
    |error en =>
     obtain⟨en1,en2⟩:=en;have HQ:=Z hq;obtain⟨bf,rfl,f1,f2,⟨dx,f3,f4⟩,f5,f6⟩:=hq;have HTE:=Z (show R = .error (en1,en2)from Iy.o);go_wp2;refine kI (f:=129) (args:=#[(zQ B 0)]) zV kO ?_;refine(lJ B p dx _ _ If f3 f4).mono ?_;rintro e u' VQ ⟨rfl,rfl,rfl⟩;simp only[settle,qt,raised];rw[HTE.o];exact⟨⟨bf,rfl,by rw[zr,yv (λe=>A8)];exact f1,by rw[zr,yv (λe=>by have:=congrArg qb e;simp at this;omega)];exact f2,⟨_,by rw[zr,yK rfl,f3];rfl,by rw[zP];exact f4⟩,f5,by simpa[xu]using f6⟩,Qr.Jv 2 _⟩
    |ok fq =>
     obtain⟨f,q⟩:=fq;obtain⟨⟨v,rfl,V⟩,Q,lF,Yt⟩:=hq;have y:=IV HRA.o;have uh:=vf9.o _ _ _ HRA.o;obtain⟨T,x,rfl,hT⟩:=V.one Q lF y.1;have Gb:=Z V;have Ee:=Z (show R=vJ rs msg num n' (acc.app f) q from Iy.o);have hql:=y.2;have P:∀s,(acc.app f).xD=some s->s.length<=4*q:=λs e=>by
      rw[gD f (λe=>by rw[e]at Q;cases Q) acc,y.1]at e;cases e
     obtain⟨xaj,vfy,Kw,dw⟩:=hdd P (Fo.kN acc f HM.o lF) (Yh.o.but dH J) Yt;have Ka:=dH.size;have hFL:=Z Q;clear V Yt Iy hT y P Q lF dH;go_wp2_with (at_builtin;refine gK ?_);intro E Yl;have y:zR w2 E:=Dw;have OS:zk E (w2:Nat) 0 (.iface T x):=B2;have PU:=Z (dw.o.below y);have H7:=Qr.below y;have PB3:zk E B 0 (p,0):=(y.cell (X _ _ If)).trans If;have z:=Z (Kw.o.but (xN.of (p:=p) y) J);have H:=y.size;have HN3:=Z (yY.keep (lo:=(w1:Nat)) (hi:=(w2:Nat)) (w:=w2) (w':=E) ⟨y.size,λk _ hk=>y.block k hk⟩ (Y _) y.size _ _ Gb.o);clear Yl;refine Yw ZU rfl _ _ rfl (B+1) (w1:Nat) _ acc f ws rfl z.o ⟨(w2:Nat),0,none⟩ 1 1 [.iface T x] rfl rfl BM ?h1a2 (by exact HN3.o) J GR hFL.o Gc J ?h1a5
     case h1a2 =>
      exact FB
     intro v4 w4 VA Qw;have uW:∀k,(.slice ga acc.len gc:zx).ownBlock=some k->B+1<=k:=λk hk=>(Yh.o.lt k hk).1
     have Iu:=Z (PU.o.grown Qw (λk hk=>zyj));have A6:=H7.grown Qw (λk hk=>by have:=uW k hk;omega);have PB4:=Qw.cell PB3 (λe=>by have:=uW B e.symm;omega);have A5:=Z VA;obtain⟨ga',gc',rfl,_⟩:=VA.row;clear VA Qw uW;go_wp2;go_roundw
     case rel=>exact⟨acc.app f,q,n',_,Iu.o,A6,PB4,A5.o,vfy.o,Ee.o,by have:=HN.o;omega,by have:=HN.o;omega,by rw[Fo.jE,hFL.o];omega,xaj.o⟩
     case measure =>
      exact zx4
   .have D:=Z (I.o.trans (yv G));have e3:(r==123)=false:=(by simpa using G);clear G I;by_cases O:r=35/\num=true
    .have Ee:=Z (D.o.trans (yK O));clear D e1 e2 e3;obtain⟨vfx,vfv⟩:=O;subst vfx;subst vfv;have lD:j<rs.length:=by
      apply yy;intro hc;have:=HQR.o;rw[kP J]at this;cases this
     have g5:=F.o.at_;have z5:=F.o.z1;go_wp2_with (at_builtin;refine gK ?_);intro E Yl;rw[show wrap64 ((j:Int)+1)=((j+1:Nat):Int)by have:=yn9.o;simp[wrap64];omega]at Yl;have hmv:=F.o.move (j+1) J;have y:yE (w1.setCell (zQ p 1) ((j+1:Nat):Int)).heap.size (w1.setCell (zQ p 1) ((j+1:Nat):Int)) E:=Dw;have Z0:(w1.setCell (p,1) ((j+1:Nat):Int)).heap.size=(w1:Nat):=ZM;have OS:zk E (w1:Nat) 0 (.iface 208 (.agg #[])):=(by rw[Yl,<-Z0];exact zZ _ _ _ _ _);have PU:=Z (hmv.below y);have H7:=(H8.Jv 1 ((j+1:Nat):Int)).below y;have If:zk (w1.setCell (zQ p 1) ((j+1:Nat):Int)) B 0 (zQ p 0):=(by rw[zr,yv (λe=>A8)];exact PB1);have PB3:zk E B 0 (p,0):=(y.cell (X _ _ If)).trans If;have z:=Z ((Yh.o.but (xN.set p w1 1 ((j+1:Nat):Int)) J).but (xN.of (p:=p) y) J);have H:=y.size;clear Yl;refine Yw ZU rfl _ _ rfl (B+1) (w1:Nat) _ acc (.hash .nil) ws rfl z.o ⟨(w1:Nat),0,none⟩ 1 1 [.iface 208 (.agg #[])] rfl rfl (by exact cells_one OS) ?h2a2 BR J GR (show Fo.len (.hash .nil)=1 from rfl) Gc J ?h2a5
     case h2a2 =>
      exact FB
     intro v4 w4 VA Qw;have uW:∀k,(.slice ga acc.len gc:zx).ownBlock=some k->B+1<=k:=λk hk=>(Yh.o.lt k hk).1
     have Iu:=Z (PU.o.grown Qw (λk hk=>zyj));have A6:=H7.grown Qw (λk hk=>by have:=uW k hk;omega);have PB4:=Qw.cell PB3 (λe=>by have:=uW B e.symm;omega);have A5:=Z VA;obtain⟨ga',gc',rfl,_⟩:=VA.row;clear VA Qw uW;go_wp2;go_roundw
     case rel=>exact⟨acc.app (.hash .nil),(j+1),n',_,Iu.o,A6,PB4,A5.o,(Fo.kN _ _ HM.o rfl),Ee.o,by have:=HN.o;omega,by have:=HN.o;omega,by rw[Fo.jE,(show Fo.len (.hash .nil)=1 from rfl)];omega,λs e=>by rw[gD _ zV acc]at e;cases e⟩
     case measure =>
      exact zx4
    .have I:=Z (D.o.trans (yv O));clear D;have lD:j<rs.length:=by
      apply yy;intro hc;have:=HQR.o;rw[kP J]at this;rw[<-this]at e1;cases e1
     have HTX:=Z (zb2 p rs j (d+1) num w1 F.o lD);obtain⟨t,ht⟩:=zw ((qq rs num j).1);obtain⟨q,hq⟩:=zw ((qq rs num j).2);have uh:j<q:=(by have:=Jf rs num j;omega);have htl:t.length+4*j<=4*q:=(by have:=pg rs num j;rw[ht,hq]at this;exact this);have hql:q<=rs.length:=(by have:=(PR (num:=num) lD).2;omega);have hR5:=I.o;rw[ht,hq]at HTX hR5;have Iy:=Z hR5;have hl0:=yn9.o;clear ht hq hR5 I;have C:(r==35)=false\/((r==35)=true/\num=false):=by
      by_cases h:r=35
      .right;exact⟨by simp[h],by cases num;rfl;exact absurd ⟨h,rfl⟩ O⟩
      .left;simp[h]
     clear O;by_cases U:acc.len=0
     .have hl:acc.xD=none:=by
       cases acc<;>simp[Fo.len]at U;rfl
      have ZY:decide ((0:Int)<(acc.len:Int))=false:=yF;have DI:decide (0<acc.len)=false:=yF;have Ee:=Z (show R=vJ rs msg num n' (acc.app (.text t .nil)) q by rw[<-qv acc t hl];exact Iy.o);clear Iy hl U;rcases C with C|⟨C,rfl⟩
      .go_wp2_with fail;refine HTX.o.mono ?_;rintro e w2 ⟨rfl,Yt,dH⟩;have Qr:=H8.trans dH;have If:zk w2 B 0 (zQ p 0):=dH.cell PB1 BU;have Kw:=Z (Yh.o.but dH J);have dw:=Z Yt;have Ka:=dH.size;clear Yt dH;go_wp2_with (at_builtin;refine gK ?_);intro E Yl;have y:zR w2 E:=(by rw[Yl];exact(zu _ _).alloc (Y _) _);have OS:zk E (w2:Nat) 0 (.iface 206 (zO t)):=B2;have PU:=Z (dw.o.below y);have H7:=Qr.below y;have PB3:zk E B 0 (p,0):=(y.cell (X _ _ If)).trans If;have z:=Z (Kw.o.but (xN.of (p:=p) y) J);have H:=y.size;clear Yl;refine Yw ZU rfl _ _ rfl (B+1) (w1:Nat) _ acc (.text t .nil) ws rfl z.o ⟨(w2:Nat),0,none⟩ 1 1 [.iface 206 (zO t)] rfl rfl BM ?h3a2 BR J GR (show Fo.len (.text t .nil)=1 from rfl) Gc J ?h3a5
       case h3a2 =>
        exact FB
       exact zf7
      .go_wp2_with fail;refine HTX.o.mono ?_;rintro e w2 ⟨rfl,Yt,dH⟩;have Qr:=H8.trans dH;have If:zk w2 B 0 (zQ p 0):=dH.cell PB1 BU;have Kw:=Z (Yh.o.but dH J);have dw:=Z Yt;have Ka:=dH.size;clear Yt dH;go_wp2_with (at_builtin;refine gK ?_);intro E Yl;have y:zR w2 E:=(by rw[Yl];exact(zu _ _).alloc (Y _) _);have OS:zk E (w2:Nat) 0 (.iface 206 (zO t)):=B2;have PU:=Z (dw.o.below y);have H7:=Qr.below y;have PB3:zk E B 0 (p,0):=(y.cell (X _ _ If)).trans If;have z:=Z (Kw.o.but (xN.of (p:=p) y) J);have H:=y.size;clear Yl;refine Yw ZU rfl _ _ rfl (B+1) (w1:Nat) _ acc (.text t .nil) ws rfl z.o ⟨(w2:Nat),0,none⟩ 1 1 [.iface 206 (zO t)] rfl rfl BM ?h4a2 BR J GR (show Fo.len (.text t .nil)=1 from rfl) Gc J ?h4a5
       case h4a2 =>
        exact FB
       exact zf7
     .have ZY:decide ((0:Int)<(acc.len:Int))=true:=(by simp;omega);have DI:decide (0<acc.len)=true:=yF;have Ah:=Yh.o.xau HM.o (λe=>U (by rw[e];rfl));obtain⟨l,hl⟩:=zw acc.xD;rw[hl]at Ah;cases l with
      |none =>
       have Ee:=Z (show R=vJ rs msg num n' (acc.app (.text t .nil)) q by rw[<-qv acc t hl];exact Iy.o);obtain⟨us,T,x,K0,hul,hT⟩:=Ah;clear Iy hl;have has:∀W,(za (.iface T x) 193 206 true).run prog W = .ok (.tuple #[.string ⟨#[]⟩,.bool false]) W:=by
        intro W;rcases hT with⟨rfl,rfl⟩|⟨rfl,b,rfl⟩|⟨rfl,b,rfl⟩|⟨rfl,b,rfl⟩
        .exact Pl W
        .exact Ap b W
        .exact Ar b W
        .exact pd b W
       clear hT;obtain⟨g,N,hgv,hbg,hgl,dT⟩:=xY Yh.o.1 J;obtain⟨rfl,rfl⟩:ga=some ⟨g,0,none⟩/\gc=N:=(by cases hgv;exact⟨rfl,rfl⟩);have yx1:zk w1 g (acc.len - 1) (.iface T x):=zg4;have hi0:(acc.len:Int) - 1=((acc.len - 1:Nat):Int):=J;have hi2:((acc.len - 1:Nat):Int)<(acc.len:Int):=J;have hi3:decide (((acc.len - 1:Nat):Int)<(acc.len:Int))=true:=yF;clear dT;clear K0 hul;rcases C with C|⟨C,rfl⟩
       .go_wp2_with fail;refine HTX.o.mono ?_;rintro e w2 ⟨rfl,Yt,dH⟩;have Qr:=H8.trans dH;have If:zk w2 B 0 (zQ p 0):=dH.cell PB1 BU;have Kw:=Z (Yh.o.but dH J);have dw:=Z Yt;have Ka:=dH.size;have hlc:zk w2 g (acc.len - 1) (.iface T x):=dH.cell yx1 (by show g≠p;omega);clear Yt dH;go_wp2_with (at_builtin;refine gK ?_);intro E Yl;have y:zR w2 E:=(by rw[Yl];exact(zu _ _).alloc (Y _) _);have OS:zk E (w2:Nat) 0 (.iface 206 (zO t)):=B2;have PU:=Z (dw.o.below y);have H7:=Qr.below y;have PB3:zk E B 0 (p,0):=(y.cell (X _ _ If)).trans If;have z:=Z (Kw.o.but (xN.of (p:=p) y) J);have H:=y.size;clear Yl;refine Yw ZU rfl _ _ rfl (B+1) (w1:Nat) _ acc (.text t .nil) ws rfl z.o ⟨(w2:Nat),0,none⟩ 1 1 [.iface 206 (zO t)] rfl rfl BM ?h5a2 BR J GR (show Fo.len (.text t .nil)=1 from rfl) Gc J ?h5a5
        case h5a2 =>
         exact FB
        exact zf6
       .go_wp2_with fail;refine HTX.o.mono ?_;rintro e w2 ⟨rfl,Yt,dH⟩;have Qr:=H8.trans dH;have If:zk w2 B 0 (zQ p 0):=dH.cell PB1 BU;have Kw:=Z (Yh.o.but dH J);have dw:=Z Yt;have Ka:=dH.size;have hlc:zk w2 g (acc.len - 1) (.iface T x):=dH.cell yx1 (by show g≠p;omega);clear Yt dH;go_wp2_with (at_builtin;refine gK ?_);intro E Yl;have y:zR w2 E:=(by rw[Yl];exact(zu _ _).alloc (Y _) _);have OS:zk E (w2:Nat) 0 (.iface 206 (zO t)):=B2;have PU:=Z (dw.o.below y);have H7:=Qr.below y;have PB3:zk E B 0 (p,0):=(y.cell (X _ _ If)).trans If;have z:=Z (Kw.o.but (xN.of (p:=p) y) J);have H:=y.size;clear Yl;refine Yw ZU rfl _ _ rfl (B+1) (w1:Nat) _ acc (.text t .nil) ws rfl z.o ⟨(w2:Nat),0,none⟩ 1 1 [.iface 206 (zO t)] rfl rfl BM ?h6a2 BR J GR (show Fo.len (.text t .nil)=1 from rfl) Gc J ?h6a5
        case h6a2 =>
         exact FB
        exact zf6
      |some s =>
       obtain⟨us,K0,hul⟩:=Ah;have Mt:=HLA.o s hl;have has:=λW=>Pe s W
       have HL:=Z hl;clear hl;have ub5:(9223372036854775807<s.length+t.length)=False:=yF;obtain⟨g,N,hgv,hbg,hgl,dT⟩:=xY Yh.o.1 J;obtain⟨rfl,rfl⟩:ga=some ⟨g,0,none⟩/\gc=N:=(by cases hgv;exact⟨rfl,rfl⟩);have yx1:zk w1 g (acc.len - 1) (.iface 206 (zO s)):=zg4;have hi0:(acc.len:Int) - 1=((acc.len - 1:Nat):Int):=J;have hi2:((acc.len - 1:Nat):Int)<(acc.len:Int):=J;have hi3:decide (((acc.len - 1:Nat):Int)<(acc.len:Int))=true:=yF;clear dT;rcases C with C|⟨C,rfl⟩
       .exact zkk
       .exact zkk
def lB(p:Nat)(rs:List Int):∀(n:Nat),n<=5->yx9 p rs (5 - n) (gI rs n)
 | 0,_=>FM p rs 5 none J (λj W hs he=>Jb p rs j 6 none W hs he ⟨λ_=>rfl,λ_=>rfl⟩ (λm e=>by cases e) (λm e=>by cases e)) (λm e=>by cases e)
 |n+1,h=>by
  have a:=lB p rs n J;have e:5 - n=5 - (n+1)+1:=J;rw[e]at a;exact FM p rs (5 - (n+1)) (some (gI rs n)) J (λj W hs he=>Jb p rs j (5 - (n+1)+1) (some (gI rs n)) W hs he ⟨λh=>xp,λh=>J⟩ (λm e=>by cases e;exact a) (λm e=>by cases e;exact Ms rs n)) (λm e=>by cases e;exact Ms rs n)
def uY(l:List UInt8):Bool:=l.all yC && !l.isEmpty
def zbx(s:ByteArray)(h:0<s.size):s.data.toList.headD 0=s[0]:=by
 rw[<-getElem_toList s 0 h,List.headD_eq_head?_getD,List.head?_eq_getElem?,zj QH];rfl
def dM(r:Int):Bool:=decide (0<=r/\r<=0x10FFFF/\(r<0xD800\/0xDFFF<r))
def zbv(l:List UInt8)(v:Nat):Nat:=l.foldl (λv c=>64*v+(c.toNat - 128)) v
def Zc(c:UInt8):Bool:=128<=c && c<=191
def least(n:Nat):Int:=if n=4 then 65536 else if n=3 then 2048 else if n=2 then 128 else 0
def qT(l:List UInt8)(n v:Nat):Nat :=
 if l.length<n then 0 else if (l.tail.take (n - 1)).all Zc=false then 0
 else if (zbv (l.tail.take (n - 1)) v:Int)<least n\/dM (zbv (l.tail.take (n - 1)) v)=false then 0 else n
def xK(l:List UInt8):Nat :=
 let c:=(l.headD 0).toNat
 if 240<=c/\c<248 then qT l 4 (c - 240)
 else if 224<=c/\c<240 then qT l 3 (c - 224)
 else if 192<=c/\c<224 then qT l 2 (c - 192)
 else if 128<=c then 0
 else qT l 1 c
def Bl(c:UInt8):Zc c=true ↔ (128:Int)<=(c.toNat:Int)/\(c.toNat:Int)<=191:=by
 simp[Zc,Ti];omega
def kd{v:Nat}(H:(240<=(l.headD 0).toNat/\(l.headD 0).toNat<248/\n=4/\v=(l.headD 0).toNat - 240) \/
  (224<=(l.headD 0).toNat/\(l.headD 0).toNat<240/\n=3/\v=(l.headD 0).toNat - 224) \/
  (192<=(l.headD 0).toNat/\(l.headD 0).toNat<224/\n=2/\v=(l.headD 0).toNat - 192) \/
  ((l.headD 0).toNat<128/\n=1/\v=(l.headD 0).toNat)):xK l=qT l n v:=by
 unfold xK;rcases H with⟨h1,h2,rfl,rfl⟩|⟨h1,h2,rfl,rfl⟩|⟨h1,h2,rfl,rfl⟩|⟨h1,rfl,rfl⟩
 .rw[yK ⟨h1,h2⟩]
 .rw[yv J,yK ⟨h1,h2⟩]
 .rw[yv J,yv J,yK ⟨h1,h2⟩]
 .rw[yv J,yv J,yv J,yv J]
def MR{v:Nat}(h:l.length<n):qT l n v=0:=by rw[qT,yK h]

end Go.Proofs.YtpggmjffejgakaaGreatDoor
