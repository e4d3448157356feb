import Derived.Test.YtpggmjffejgakaaGreatDoorJG1
import Derived.Lib.DecodeN
import Derived.Lib.MapLaws
import Derived.Lib.RuneCount
import Derived.Lib.ValidU
import GoSem.Conv.StringToRunes
import Derived.Laws.IdiomStrings
import Derived.Recover
import Derived.WalkSmall
import Derived.Maps.OwnSet
import Derived.Maps.Views
import Derived.Lib.OthersKept
set_option linter.defProp false
set_option maxHeartbeats 64000000
open Go renaming Addr->yI,Calls->zE,DataW->ib,Ending->xX,Leaves->Ur,Oper->je,TypeId->xM,Value->zx,World->z8,bodyPostS->TK,bodyPost_ret->yU,callsD_of_wpS->Xd,info_parts->V9,iterPos_of->jm,leaves_cons->kI,madeCells->zr4,maxLen->vp,ownsRow_setCell_other->xP,plainElem_int->bG,results->yN,run_underlying->kJ,seen->xC,wpS_of_wp->TQ,wpS_region->EJ
open Go.Addr renaming add->fG,block->qb
open Go.AllReadyH renaming cons->ub,nil->XV
open And renaming intro->zf
open Array renaming getElem?_eq_getElem->YR,getElem?_eq_some_iff->yR,getElem?_modify->xc,replicate->vQ,toList_inj->xu2
open Go.RowKit renaming Below->yE
open Go.RowKit.Below renaming heap_alloc->xQ,heap_setCell->yX,refl->zu
open Bool renaming and_eq_true->zv,and_true->zzj,not_eq_true->bE
open Go.Builtin renaming len_->yfv
open ByteArray renaming mk->vD,size_extract->Hs
open Classical renaming byContradiction->yy
open Go.Conv renaming runesFrom->Vf
open Go.DataW.lit renaming injEq->EW
open Go.Exit renaming thenS->VY
open Go.Instr renaming index->Y4,lookup->Jr,makeFunc->qA,mapUpdate->TJ,slice->VX,sliceBound->yfx,sliceBounds->yzk,typeAssert->za
open Go.IntKind renaming bits->OQ,signed->EU,u8->Vz,wrap->yf9
open Go.Lib renaming Utf8Tabs->Yv,compareInt->V8,decodeGo->zr0,decodeN->kE,encodeRune->yi,hid->Z,iterAt_heap->vq2,iterAt_other->xrb,iterAt_size->vq3,run_next_end_at->ye9,runeCountFrom->DV,validGoD->DX
open List renaming all_cons->u7,all_nil->Tl,append_assoc->yk,append_toArray->xu0,cons_append->xd,drop_drop->Fh,drop_eq_getElem_cons->yd,drop_of_length_le->yL,drop_zero->qW,eq_nil_of_length_eq_zero->zN,eq_of_mem_replicate->dQ,ext_getElem->xu1,filter_append->zzg,flatMap_cons->zh,foldl_append->TF,getD_cons_succ->FJ,getD_cons_zero->YV,getD_eq_getElem?_getD->zA,getElem?_append_left->zi,getElem?_append_right->yp,getElem?_drop->Uw,getElem?_eq_getElem->zj,getElem?_eq_none->uG,getElem?_eq_some_iff->zD,getElem?_modify->yez,getElem_mem->yf,idxOf_append->VV,idxOf_cons->xj9,idxOf_eq_length->zr3,idxOf_le_length->Ft,length->xJ,length_append->zy,length_cons->zY,length_drop->yr,length_nil->yG,length_pos_iff->zt,length_replicate->fL,length_take->u4,lookup_cons->Qn,map_cons->vV,map_nil->De,map_toArray->Jp,mem_append->zS,mem_append_left->yex,mem_cons->yV,mem_cons_of_mem->uj,mem_cons_self->qO,mem_filter->uv,mem_iff_getElem->ja,mem_of_getElem?->ze,mem_singleton->zG,nil_append->xV,range->xH,replicate->zX,setIfInBounds_toArray->Qm,tail_cons->TU,take_of_length_le->ye,take_succ_eq_append_getElem->yj
open Go.Lit.int renaming injEq->yzq
open Go.Maps renaming atKey_put_other->dc,atKey_put_same->Uo,has_put_other->OU,has_put_same->Qi,string_keyed->xf
open Nat renaming add_assoc->uR,add_sub_cancel->Z3,add_sub_cancel_left->Z7,add_zero->EK,le_of_eq->TD,le_refl->Y,le_trans->zg,lt_irrefl->qV,lt_of_lt_of_le->zC,lt_succ_self->dK,not_lt_zero->ZH,zero_add->uE,zero_le->zJ,zero_mul->vz0
open Go.Oper renaming wp->j6
open Option.some renaming inj->zL
open Prod.mk renaming injEq->Ht
open Go.Result renaming andThen_ok->XU
open Go.Sem renaming run_bind->kp,run_pure->wQ
open SizeOf renaming sizeOf->zH
open UInt8 renaming ofNat->uZ
open Go.Utf8 renaming decode->jl
open Go.Value renaming cells->Js,int->yZ,ownBlock->yA,slice->ux
open Go.WideAt renaming IsKeyLit->kF
open Go.WideMaps renaming keyOf_string_mk->yT
open Go.World renaming block_lt_of_cell?->X,cell?_alloc_lt->zc,cell?_of_block->yD,frozen?_of_block->zU,frozen?_setCell->zP,iter_heap->ye8,ownsMap_made->Hh,ownsRow->yey,ownsRow_nil->xz,setCell->xu
open Go.World.ownsRow renaming cellAt->vz1
open Go.Proofs.Tryz
namespace Go.Proofs.YtpggmjffejgakaaGreatDoor
open Go Go.RowKit
set_option maxRecDepth 10000
variable{l:List UInt8}
def pZ(l:List UInt8)(n v:Nat):qT l n v<=l.length/\qT l n v<=n:=by
 unfold qT;repeat' split
 all_goals omega
def Uk(l:List UInt8):xK l<=l.length/\xK l<=4:=by
 have h:=λn v=>pZ l n v
 unfold xK;simp only[];split
 .exact h 4 _
 split
 .exact⟨(h 3 _).1,by have:=(h 3 ((l.headD 0).toNat - 224)).2;omega⟩
 split
 .exact⟨(h 2 _).1,by have:=(h 2 ((l.headD 0).toNat - 192)).2;omega⟩
 split
 .omega
 .exact⟨(h 1 _).1,by have:=(h 1 ((l.headD 0).toNat)).2;omega⟩
def qQ(l:List UInt8):List (List UInt8)×Nat :=
 if h:l=[]\/xK l=0 then ([],0) else
  let r:=qQ (l.drop (xK l))
  (l.take (xK l)::r.1,xK l+r.2)
 termination_by l.length
 decreasing_by
  simp only[not_or]at h;have:=zt.2 h.1;simp;omega
def kR:qQ []=([],0):=by rw[qQ];simp
def Ze(h:xK l=0):qQ l=([],0):=by rw[qQ];simp[h]
def jK(h0:l≠[])(h:xK l≠0):qQ l=(l.take (xK l)::(qQ (l.drop (xK l))).1,xK l+(qQ (l.drop (xK l))).2):=by
 rw[qQ,dif_neg (by simp[h0,h])]
variable{b0 b1 b2 b3 k n:Nat}
def bk(l:List UInt8):Nat×Nat:=kE l.length (l.getD 0 0).toNat (l.getD 1 0).toNat (l.getD 2 0).toNat (l.getD 3 0).toNat
def Ky(c:UInt8):Zc c=decide (128<=c.toNat/\c.toNat<=191):=by
 by_cases h:Zc c=true
 .have:=(Bl c).1 h;rw[h,decide_eq_true J]
 .have a:Zc c=false:=by simpa using h
  rw[a,eq_comm,decide_eq_false_iff_not];intro hc;exact h ((Bl c).2 J)
abbrev XI(v:Nat):Prop:=v<=1114111/\(v<55296\/57343<v)
def Pm(v:Nat):dM (v:Int)=true ↔ XI v:=by
 unfold dM XI;simp only[decide_eq_true_eq];omega
def XT(l t:List UInt8)(n v x:Nat)(c:n<=l.length)(b:l.tail.take (n - 1)=t)(hx:t.all Zc=true->zbv t v=x) :
  qT l n v=if t.all Zc=true/\least n<=(x:Int)/\XI x then n else 0:=by
 unfold qT;rw[yv J,b];by_cases h1:t.all Zc=true
 .have h0:¬(t.all Zc=false):=by rw[h1];simp
  rw[hx h1,yv h0];by_cases h2:least n<=(x:Int)/\XI x
  .have r1:¬((x:Int)<least n\/dM (x:Int)=false):=by
    rintro(a|a)
    .omega
    .rw[(Pm x).2 h2.2]at a;cases a
   rw[yv r1,yK ⟨h1,h2⟩]
  .have r1:(x:Int)<least n\/dM (x:Int)=false:=by
    by_cases a:least n<=(x:Int)
    .refine .inr ?_;rw[<-bE,Pm];exactλh=>h2 ⟨a,h⟩
    .exact .inl J
   rw[yK r1,yv (λh=>h2 h.2)]
 .have h0:t.all Zc=false:=by simpa using h1
  rw[yK h0,yv (λh=>h1 h.1)]
def dN1(h:b0<128):kE n b0 b1 b2 b3=(b0,1):=by rw[kE,yK h]
def xaf(h:(128<=b0/\b0<192)\/248<=b0):kE n b0 b1 b2 b3=(65533,1):=by
 rw[kE,yv J,yv J,yv J,yv J]
def dN2(h:192<=b0/\b0<224) :
  kE n b0 b1 b2 b3=if (1<n/\128<=b1/\b1<=191)/\128<=64*(b0 - 192)+(b1 - 128)then (64*(b0 - 192)+(b1 - 128),2)else (65533,1):=by
 rw[kE,yv J];by_cases h1:1<n/\128<=b1/\b1<=191
 .have e:b0 % 32*64+b1 % 64=64*(b0 - 192)+(b1 - 128):=by omega
  rw[yK J,e];by_cases h2:128<=64*(b0 - 192)+(b1 - 128)
  .rw[yK h2,yK ⟨h1,h2⟩]
  .rw[yv h2,yv (λa=>h2 a.2)]
 .by_cases b:b0 / 32=6/\1<n/\b1 / 64=2
  .exfalso;omega
  .rw[yv b,yv J,yv J,yv (λa=>h1 a.1)]
def dN3(h:224<=b0/\b0<240) :
  kE n b0 b1 b2 b3=if (2<n/\(128<=b1/\b1<=191)/\128<=b2/\b2<=191)/\2048<=64*(64*(b0 - 224)+(b1 - 128))+(b2 - 128)/\XI (64*(64*(b0 - 224)+(b1 - 128))+(b2 - 128))then (64*(64*(b0 - 224)+(b1 - 128))+(b2 - 128),3)else (65533,1):=by
 rw[kE,yv J,yv J];by_cases h1:2<n/\(128<=b1/\b1<=191)/\128<=b2/\b2<=191
 .have e:b0 % 16*4096+b1 % 64*64+b2 % 64=64*(64*(b0 - 224)+(b1 - 128))+(b2 - 128):=by omega
  rw[yK J,e];generalize 64*(64*(b0 - 224)+(b1 - 128))+(b2 - 128)=v;by_cases h2:2048<=v/\XI v
  .rw[yK M6,yK ⟨h1,h2⟩]
  .rw[yv M6,yv (λa=>h2 a.2)]
 .by_cases b:b0 / 16=14/\(1<n/\b1 / 64=2)/\2<n/\b2 / 64=2
  .exfalso;omega
  .rw[yv b,yv J,yv (λa=>h1 a.1)]
def dN4(h:240<=b0/\b0<248) :
  kE n b0 b1 b2 b3=if (3<n/\(128<=b1/\b1<=191)/\(128<=b2/\b2<=191)/\128<=b3/\b3<=191)/\65536<=64*(64*(64*(b0 - 240)+(b1 - 128))+(b2 - 128))+(b3 - 128)/\XI (64*(64*(64*(b0 - 240)+(b1 - 128))+(b2 - 128))+(b3 - 128))then (64*(64*(64*(b0 - 240)+(b1 - 128))+(b2 - 128))+(b3 - 128),4)else (65533,1):=by
 rw[kE,yv J,yv J,yv J];by_cases h1:3<n/\(128<=b1/\b1<=191)/\(128<=b2/\b2<=191)/\128<=b3/\b3<=191
 .have e:b0 % 8*262144+b1 % 64*4096+b2 % 64*64+b3 % 64=64*(64*(64*(b0 - 240)+(b1 - 128))+(b2 - 128))+(b3 - 128):=by omega
  rw[yK J,e];generalize 64*(64*(64*(b0 - 240)+(b1 - 128))+(b2 - 128))+(b3 - 128)=v;by_cases h2:65536<=v/\XI v
  .rw[yK M6,yK ⟨h1,h2⟩]
  .rw[yv M6,yv (λa=>h2 a.2)]
 .by_cases b:b0 / 8=30/\(1<n/\b1 / 64=2)/\(2<n/\b2 / 64=2)/\3<n/\b3 / 64=2
  .exfalso;omega
  .rw[yv b,yv (λa=>h1 a.1)]
def Bm(l:List UInt8):Prop:=(xK l=0/\bk l=(65533,1))\/(xK l=(bk l).2/\0<xK l/\¬((bk l).1=65533/\(bk l).2=1))
def Zz{a:UInt8}{r:List UInt8}(hd:bk (a::r)=(65533,1))(hs:xK (a::r)=0)(_h:128<=a.toNat):Bm (a::r) := .inl ⟨hs,hd⟩
def zf9{a:UInt8}{r:List UInt8}{v:Nat}(hd:bk (a::r)=(v,k))(hs:xK (a::r)=k)(h:1<k):Bm (a::r) :=
 .inr ⟨by rw[hs,hd],J,by rw[hd];intro q;have:=q.2;simp at this;omega⟩
def JZ(a:UInt8)(r:List UInt8):Bm (a::r):=by
 have e:(a::r).headD 0=a:=rfl;have ha:=a.toNat_lt;by_cases c1:a.toNat<128
 .have hd:bk (a::r)=(a.toNat,1):=dN1 (b0:=a.toNat) c1;have hs:xK (a::r)=1:=by
   rw[kd (l:=a::r) (n:=1) (v:=a.toNat) (.inr (.inr (.inr ⟨by rw[e];omega,rfl,by rw[e]⟩))),
    XT (a::r) [] 1 a.toNat a.toNat zV zV (λ_=>rfl),yK ⟨rfl,by simp[least],by unfold XI;omega⟩]
  exact .inr ⟨by rw[hs,hd],J,by rw[hd];intro q;have:=q.1;simp at this;omega⟩
 by_cases c2:a.toNat<192\/248<=a.toNat
 .refine Zz (xaf (b0:=a.toNat) J) ?_ J;unfold xK;rw[e,yv J,yv J,yv J,yK J]
 by_cases c3:a.toNat<224
 .have hD:bk (a::r)=_:=dN2 (n:=(a::r).length) (b0:=a.toNat) (b1:=((a::r).getD 1 0).toNat) (b2:=((a::r).getD 2 0).toNat) (b3:=((a::r).getD 3 0).toNat) (show 192<=a.toNat/\a.toNat<224 by omega);have hS:xK (a::r)=qT (a::r) 2 (a.toNat - 192):=kd (l:=a::r) (n:=2) (v:=a.toNat - 192) (.inr (.inr (.inl ⟨by rw[e];omega,by rw[e];omega,rfl,by rw[e]⟩)));match r,hD,hS with
  |[],hD,hS=>exact Zz GA GO J
  |b::r,hD,hS =>
   have f:(a::b::r).getD 1 0=b:=rfl;rw[f]at hD;rw[XT _ [b] 2 _ (64*(a.toNat - 192)+(b.toNat - 128)) zV zV (λ_=>rfl)]at hS;simp only[u7,Tl,zzj,zv,Ky,decide_eq_true_eq]at hS;have hb:=b.toNat_lt;by_cases h:(128<=b.toNat/\b.toNat<=191)/\128<=(64*(a.toNat - 192)+(b.toNat - 128))
   .exact zf9 (by rw[hD,yK ⟨⟨zV,h.1⟩,h.2⟩]) (by rw[hS,yK ⟨h.1,by simp[least];omega,by unfold XI;omega⟩]) zW
   .exact Zz (by rw[hD,yv (λq=>h ⟨q.1.2,q.2⟩)]) (by rw[hS,yv (λq=>h ⟨q.1,by have:=q.2.1;simp[least]at this;omega⟩)]) J
 by_cases c4:a.toNat<240
 .have hD:bk (a::r)=_:=dN3 (n:=(a::r).length) (b0:=a.toNat) (b1:=((a::r).getD 1 0).toNat) (b2:=((a::r).getD 2 0).toNat) (b3:=((a::r).getD 3 0).toNat) (show 224<=a.toNat/\a.toNat<240 by omega);have hS:xK (a::r)=qT (a::r) 3 (a.toNat - 224):=kd (l:=a::r) (n:=3) (v:=a.toNat - 224) (.inr (.inl ⟨by rw[e];omega,by rw[e];omega,rfl,by rw[e]⟩));match r,hD,hS with
  |[],hD,hS=>exact Zz GA GO J
  |[b],hD,hS=>exact Zz GA GO J
  |b::c::r,hD,hS =>
   have f:(a::b::c::r).getD 1 0=b:=rfl;have g:(a::b::c::r).getD 2 0=c:=rfl;rw[f,g]at hD;rw[XT _ [b,c] 3 _ (64*(64*(a.toNat - 224)+(b.toNat - 128))+(c.toNat - 128)) zV zV (λ_=>rfl)]at hS;simp only[u7,Tl,zzj,zv,Ky,decide_eq_true_eq]at hS;have hb:=b.toNat_lt;have hc:=c.toNat_lt;generalize 64*(64*(a.toNat - 224)+(b.toNat - 128))+(c.toNat - 128)=v at hD hS;by_cases h:((128<=b.toNat/\b.toNat<=191)/\(128<=c.toNat/\c.toNat<=191))/\2048<=v/\XI v
   .exact zf8
   .exact zj8
 .have hD:bk (a::r)=_:=dN4 (n:=(a::r).length) (b0:=a.toNat) (b1:=((a::r).getD 1 0).toNat) (b2:=((a::r).getD 2 0).toNat) (b3:=((a::r).getD 3 0).toNat) (show 240<=a.toNat/\a.toNat<248 by omega);have hS:xK (a::r)=qT (a::r) 4 (a.toNat - 240):=kd (l:=a::r) (n:=4) (v:=a.toNat - 240) (.inl ⟨by rw[e];omega,by rw[e];omega,rfl,by rw[e]⟩);match r,hD,hS with
  |[],hD,hS=>exact Zz GA GO J
  |[b],hD,hS=>exact Zz GA GO J
  |[b,c],hD,hS=>exact Zz GA GO J
  |b::c::d::r,hD,hS =>
   have f:(a::b::c::d::r).getD 1 0=b:=rfl;have g:(a::b::c::d::r).getD 2 0=c:=rfl;have i:(a::b::c::d::r).getD 3 0=d:=rfl;rw[f,g,i]at hD;rw[XT _ [b,c,d] 4 _ (64*(64*(64*(a.toNat - 240)+(b.toNat - 128))+(c.toNat - 128))+(d.toNat - 128)) zV zV (λ_=>rfl)]at hS;simp only[u7,Tl,zzj,zv,Ky,decide_eq_true_eq]at hS;have hb:=b.toNat_lt;have hc:=c.toNat_lt;have hd:=d.toNat_lt;generalize 64*(64*(64*(a.toNat - 240)+(b.toNat - 128))+(c.toNat - 128))+(d.toNat - 128)=v at hD hS;by_cases h:((128<=b.toNat/\b.toNat<=191)/\(128<=c.toNat/\c.toNat<=191)/\(128<=d.toNat/\d.toNat<=191))/\65536<=v/\XI v
   .exact zf8
   .exact zj8
def Aw(l:List UInt8):Lib.decodeL l=bk l:=Lib.decodeL_N l
def Pn:∀(n:Nat) (l:List UInt8),l.length<=n->(DX n l=true ↔ (qQ l).2=l.length)
 | 0,l,h=>by
  have:l=[]:=zN J;subst this;simp[DX,kR]
 |n+1,[],_=>by simp[DX,kR]
 |n+1,a::r,h=>by
  have b:a::r≠[]:=zV;rw[DX,yv b,Aw];rcases JZ a r with⟨h1,h2⟩|⟨h1,h2,c⟩
  .rw[h2,yK ⟨rfl,rfl⟩,Ze h1];simp
  .have d:=(Uk (a::r)).1;rw[yv c,<-h1,jK b J,Pn n _ (by simp;simp at h;omega)];simp only[yr];omega
def Gj(l:List UInt8):Lib.validD l=true ↔ (qQ l).2=l.length:=Pn l.length l (Y _)
def xk(l:List UInt8):List Int :=
 if h:l=[]\/xK l=0 then []else ((bk l).1:Int)::xk (l.drop (xK l))
termination_by l.length
decreasing_by
 have h1:l≠[]:=λe=>h (.inl e)
 have h2:xK l≠0:=λe=>h (.inr e)
 have:=zt.2 h1;simp;omega
def jO:xk []=[]:=by rw[xk];simp
def jP(h0:l≠[])(h:xK l≠0):xk l=((bk l).1:Int)::xk (l.drop (xK l)):=by
 rw[xk,dif_neg (by rintro(q|q)<;>contradiction)]
def Gg:∀(n:Nat) (l:List UInt8),l.length<=n->(xk l).map yi=(qQ l).1
 | 0,l,h=>by
  have:l=[]:=zN J;subst this;exact AY
 |n+1,[],_=>AY
 |n+1,a::r,h=>by
  have b:a::r≠[]:=zV;rcases JZ a r with⟨h1,h2⟩|⟨h1,h2,c⟩
  .rw[Ze h1,xk,dif_pos (.inr h1)];rfl
  .rw[jP b J,jK b J,vV,Gg n _ (by simp;simp at h;omega)];have he:=Lib.encode_decode (a::r) b (by rw[Aw];exact c);rw[Aw]at he;rw[he,h1]
def ay(s:ByteArray)(i:Nat)(hi:i<s.size):jl s i=bk (s.data.toList.drop i):=by
 rw[Lib.decode_at];unfold bk;have e:∀k,s.get! (i+k)=(s.data.toList.drop i).getD k 0:=λk=>by
  rw[zA,Uw];by_cases a:i+k<s.size
  .rw[zj (by simpa using a)];show s.data[i+k]! = _;rw[getElem!_pos s.data (i+k) (by simpa using a)];simp
  .rw[uG yF];show s.data[i+k]! = _;rw[getElem!_neg s.data (i+k) (by simpa using a)];rfl
 have b:=e 0;rw[EK]at b;rw[b,e 1,e 2,e 3];simp
def Yc(s:ByteArray):∀(fuel pos:Nat),s.size - pos<=fuel->pos<=s.size->(qQ (s.data.toList.drop pos)).2=s.size - pos->DV s fuel pos=(qQ (s.data.toList.drop pos)).1.length /\
   ∀acc,Vf s fuel pos acc=acc++((xk (s.data.toList.drop pos)).map (yZ .i32)).toArray
 | 0,pos,h,hp,hv=>by
  have f:s.data.toList.drop pos=[]:=yL yF;rw[f,kR,jO];exact⟨rfl,λacc=>by simp[Vf]⟩
 |fuel+1,pos,h,hp,hv=>by
  by_cases b:pos<s.size
  .have c:s.data.toList.drop pos≠[]:=(by simp;omega);have hd:=ay s pos b;have e:Bm (s.data.toList.drop pos):=by
    cases i:s.data.toList.drop pos with
    |nil=>exact absurd i c
    |cons a r=>exact JZ a r
   rcases e with⟨h1,h2⟩|⟨h1,h2,j⟩
   .rw[Ze h1]at hv;simp at hv;omega
   .have d:=(Uk (s.data.toList.drop pos)).1;simp only[yr,vL]at d;rw[jK c J]at hv;have hdd:(s.data.toList.drop pos).drop (xK (s.data.toList.drop pos))=s.data.toList.drop (pos+xK (s.data.toList.drop pos)):=(by rw[Fh]);rw[hdd]at hv;have g:=Yc s fuel (pos+xK (s.data.toList.drop pos)) J J (by simp at hv;omega);rw[jK c J,jP c J,hdd];constructor
    .rw[DV,yK b,hd,<-h1,g.1];simp;omega
    .intro acc;rw[Vf,yK b,hd];dsimp only;rw[<-h1,g.2];simp
  .have f:s.data.toList.drop pos=[]:=yL yF;rw[f,kR,jO];exact⟨by rw[DV,yv b];rfl,λacc=>by rw[Vf,yv b];simp⟩
variable{m:Nat}
def Po{v:Nat}(h:n<=m)(hn:n<=l.length)(h1:1<=n):qT (l.take m) n v=qT l n v:=by
 have b:¬(l.take m).length<n:=Wl;have c:¬l.length<n:=J;have d:(l.take m).tail.take (n - 1)=l.tail.take (n - 1):=by
  cases l with
  |nil=>simp
  |cons a t =>
   cases m with
   |zero=>omega
   |succ m=>simp only[List.take_succ_cons,TU,List.take_take];rw[Nat.min_eq_left J]
 unfold qT;rw[yv b,yv c,d]
def ax(l:List UInt8)(n v:Nat):qT l n v=0\/(qT l n v=n/\n<=l.length):=by
 unfold qT;split
 .exact .inl rfl
 split
 .exact .inl rfl
 split
 .exact .inl rfl
 .exact .inr ⟨rfl,J⟩
def av(h0:xK l≠0)(h:xK l<=m):xK (l.take m)=xK l:=by
 have d:∀k,1<=k->(l.take k).headD 0=l.headD 0:=λk g=>by
  cases l with
  |nil=>simp
  |cons a t =>
   cases k with
   |zero=>omega
   |succ k=>simp
 have key:∀n v,1<=n->xK l=qT l n v->(xK (l.take m)=qT (l.take m) n v)->xK (l.take m)=xK l:=λn v h1 b c=>by
  rcases ax l n v with q|⟨q1,q2⟩
  .rw[b,q]at h0;exact absurd rfl h0
  .rw[c,b,Po (by rw[b,q1]at h;exact h) q2 h1]
 have hm:1<=m:=J;have hd:=d m hm;have e:∀n v,_:=λn v=>@kd l n v
 have e':∀n v,_:=λn v=>@kd (l.take m) n v
 have f:=(l.headD 0).toNat_lt;by_cases c1:240<=(l.headD 0).toNat/\(l.headD 0).toNat<248
 .exact key 4 _ zW (kd (.inl ⟨c1.1,c1.2,rfl,rfl⟩)) (kd (.inl ⟨by rw[hd];exact c1.1,by rw[hd];exact c1.2,rfl,by rw[hd]⟩))
 by_cases c2:224<=(l.headD 0).toNat/\(l.headD 0).toNat<240
 .exact key 3 _ zW (kd (.inr (.inl ⟨c2.1,c2.2,rfl,rfl⟩))) (kd (.inr (.inl ⟨by rw[hd];exact c2.1,by rw[hd];exact c2.2,rfl,by rw[hd]⟩)))
 by_cases c3:192<=(l.headD 0).toNat/\(l.headD 0).toNat<224
 .exact key 2 _ zW (kd (.inr (.inr (.inl ⟨c3.1,c3.2,rfl,rfl⟩)))) (kd (.inr (.inr (.inl ⟨by rw[hd];exact c3.1,by rw[hd];exact c3.2,rfl,by rw[hd]⟩))))
 by_cases c4:(l.headD 0).toNat<128
 .exact key 1 _ zW (kd (.inr (.inr (.inr ⟨c4,rfl,rfl⟩)))) (kd (.inr (.inr (.inr ⟨by rw[hd];exact c4,rfl,by rw[hd]⟩))))
 .exfalso;apply h0;unfold xK;dsimp only;rw[yv c1,yv c2,yv c3,yK J]
def Pp:∀(n:Nat) (l:List UInt8),l.length<=n->qQ (l.take (qQ l).2)=qQ l
 | 0,l,h=>by
  have:l=[]:=zN J;subst this;simp
 |n+1,l,h=>by
  by_cases a:l=[]
  .subst a;simp
  by_cases h0:xK l=0
  .rw[Ze h0];simp[kR]
  .have i:=(Uk l).1;have d:=Pp n (l.drop (xK l)) yF;have c:=jK a h0;obtain⟨m,hm⟩:=zw ((qQ (l.drop (xK l))).2);rw[hm]at d c;rw[c];dsimp only;have hs:xK (l.take (xK l+m))=xK l:=av h0 J;have b:l.take (xK l+m)≠[]:=by
    intro e;have h1:=congrArg xJ e;rw[u4]at h1;have:=zt.2 a;rw[yG]at h1;omega
   rw[jK b J,hs];have f:(l.take (xK l+m)).take (xK l)=l.take (xK l):=(by rw[List.take_take,Nat.min_eq_left J]);have g:(l.take (xK l+m)).drop (xK l)=(l.drop (xK l)).take m:=by
    rw[List.drop_take,Z7]
   rw[f,g,d,hm]
def zbu:∀(n:Nat) (l:List UInt8),l.length<=n->(qQ l).2<=l.length
 | 0,l,h=>by
  have:l=[]:=zN J;subst this;simp[kR]
 |n+1,l,h=>by
  by_cases a:l=[]
  .subst a;simp[kR]
  by_cases h0:xK l=0
  .rw[Ze h0];simp
  .have b:=(Uk l).1;have c:=zbu n (l.drop (xK l)) yF;rw[jK a h0];simp at c|-;omega
def Pr(s:ByteArray)(k:Nat)(h:(qQ s.data.toList).2=k):Lib.runeCount (s.extract 0 k)=(qQ s.data.toList).1.length:=by
 have e:(s.extract 0 k).data.toList=s.data.toList.take k:=by rw[fM]
 have c:=Pp _ s.data.toList (Y _);rw[h]at c;have a:=zbu _ s.data.toList (Y _);rw[h,vL]at a;have b:(s.extract 0 k).size=k:=WU;have:=(Yc (s.extract 0 k) (s.extract 0 k).size 0 J J (by rw[qW,e,c,h,b];omega)).1;rw[qW,e,c]at this;exact this
def Ps(s:ByteArray)(i:Nat)(hi:i<s.size):jl (s.extract i s.size) 0=bk (s.data.toList.drop i):=by
 have a:(s.extract i s.size).size=s.size - i:=WU;rw[ay _ 0 J,fN,toList_mk,qW]
variable{W w:z8}
def pY(h:Yv 3 4 w)(hb:zR w W):Yv 3 4 W:=ydv
def Mh(b:Nat)(w:z8):(za (.iface 72 (b,0)) 20 72 true).run prog w = .ok (.tuple #[(b,0),.bool true]) w:=xG
def Pt(w:z8):(za .nilIface 20 72 true).run prog w = .ok (.tuple #[.pointer none,.bool false]) w:=xG
def au(A B:Nat)(w:z8):CallsD prog 76 #[(A,0),(B,0)] .returning w λe c w'=>e = .returned (.tuple #[])/\c = .returning/\w'=w:=by
 refine Xd func76 rfl λa cs b=>?_
 have ha:=Pt;apply wpS_seq;apply EJ;simp[wpOpsS,go_sem,recoverD,b,ha,ntmps76,VY];refine TQ ?_;go_wp2;cases a;simp_all [TK,yN,results76]
def Yb(A B b:Nat)(u v:zx)(a:List PanicEntry)(w:z8)(hA:zk w A 0 u)(c:w.frozen? (A,0)=false)(hB:zk w B 0 v)(f:w.frozen? (B,0)=false)(hAB:B≠A) :
  CallsD prog 76 #[(A,0),(B,0)] (.panicking ({ v := .iface 72 (b,0),recovered:=false }::a)) w λe h w' =>
   e = .returned (.tuple #[])/\h = .panicking ({ v := .iface 72 (b,0),recovered:=true }::a)/\w'=(w.setCell (A,0) (.slice none 0 0)).setCell (B,0) (.iface 72 (b,0)):=by
 have ha:=Mh b;refine Xd func76 rfl λi cs g=>?_
 apply wpS_seq;apply EJ;simp[wpOpsS,go_sem,recoverD,g,ha,ntmps76,VY];refine TQ ?_;simp only[vQ,zX,Qm,List.set_cons_zero,List.set_cons_succ,xu0,xd,xV,Act.put];have d:zk (w.setCell (zQ A 0) (.slice none 0 0)) B 0 v:=zvg;go_wp2;simp[TK,yN,results76]
variable{rs:List Int}{A B c d i j p:Nat}{u v:zx}{w':z8}
def vv(l:List UInt8):Except (Nat×Nat) Fo :=
 if 1000<l.length then .error (1,0)
 else if (qQ l).2<l.length then .error (2,(qQ l).1.length)
 else match gg (xk l)with |.error e => .error e |.ok x => .ok x.1
def yox(r:Except (Nat×Nat) Fo)(w:z8)(e:xX)(w':z8):Prop :=
 (match r with
  |.error (n,a)=>∃b,e = .returned (.tuple #[.slice none 0 0,.iface 72 (.pointer (some ⟨b,0,none⟩))])/\zk w' b 0 n/\zk w' b 1 a
  |.ok f=>(∃a c vs,e = .returned (.tuple #[.slice a f.len c,.nilIface])/\Uv (w:Nat) (w':Nat) w' a vs/\yY (w:Nat) (w':Nat) w' vs f)/\f.ya=true)/\zR w w'
structure kW(A:Nat)(u v:zx)(w:z8):Prop where
 c0:zk w A 0 u
 c1:zk w (A+1) 0 v
 z0:w.frozen? (A,0)=false
 z1:w.frozen? (A+1,0)=false
def kW.keep(h:kW A u v w)(hb:∀k,k=A\/k=A+1->w'.heap[k]? = w.heap[k]?):kW A u v w' :=
 ⟨(yD (a:=(A,0)) (hb A (.inl rfl))).trans h.c0,(yD (a:=(A+1,0)) (hb _ (.inr rfl))).trans h.c1,
  (zU (a:=(A,0)) (hb A (.inl rfl))).trans h.z0,(zU (a:=(A+1,0)) (hb _ (.inr rfl))).trans h.z1⟩
def kW.lt(h:kW A u v w):A+1<(w:Nat):=X w _ h.c1
def kW.below(h:kW A u v w)(hb:zR w w'):kW A u v w' :=
 h.keep λk a=>hb.block k (by have:=h.lt;omega)
def kW.but(h:kW A u v w)(hb:xN p w w')(hp:A+1<p):kW A u v w' :=
 h.keep λk a=>hb.block k (by have:=h.lt;omega) J
def kW.VE{x:zx}(h:kW A u v w):kW A x v (w.setCell (A,0) x) :=
 ⟨AR,MH,Av,AH⟩
def kW.Mw{x:zx}(h:kW A u v w):kW A u x (w.setCell (A+1,0) x) :=
 ⟨by rw[zr,yv zV];exact h.c0,by rw[zr,yK rfl,h.c1];rfl,Av,AH⟩
def xr.yv1{a:Option yI}(h:xr p rs i d w)(hA:zk w A 0 (.slice a n c))(m:A≠p)(u:zx):xr p rs i d (w.setCell (A,0) u):=by
 obtain⟨⟨g,cap,h0,h1,h2,r,o⟩,s,t,h7,h8,v,b,f,l⟩:=h;have ne:∀k:Nat,¬(⟨A,0,none⟩:yI)=⟨p,k,none⟩:=λk e=>m (congrArg qb e)
 refine⟨⟨g,cap,by rw[zr,yv (ne 0)];exact h0,h1,h2,r,λj q=>?_⟩,by rw[zr,yv (ne 1)];exact s,by rw[zr,yv (ne 2)];exact t,AI,AO,v,b,f,l⟩;rw[zr,yv (λe=>by have:=o j q;rw[<-e,hA]at this;cases this)];exact o j q
def vw{a:z8}{b:Nat}{x:zx}(h:yE B a w)(hb:B<=b):yE B a (w.setCell (b,j) x) :=
 ⟨h.os,h.tape,h.output,zg h.size ZM,λk c=>(yX _ _ _ _ (by show k≠b;omega)).trans (h.block k c)⟩
def zbq(l:List UInt8):∀r∈xk l,0<=r:=by
 have key:∀(n:Nat) (l:List UInt8),l.length<=n->∀r∈xk l,0<=r:=by
  intro n;induction n with
  |zero =>
   intro l h r hr;have:l=[]:=zN J;subst this;rw[jO]at hr;cases hr
  |succ n a =>
   intro l h r hr;by_cases h0:l=[]\/xK l=0
   .rw[xk,dif_pos h0]at hr;cases hr
   .have h1:l≠[]:=λe=>h0 (.inl e)
    have h2:xK l≠0:=λe=>h0 (.inr e)
    rw[jP h1 h2]at hr;rcases yV.1 hr with q|q
    .omega
    .exact a _ zqf r q
 exact key _ l (Y _)
def Qk(l:List UInt8):(xk l).length<=l.length:=by
 have key:∀(n:Nat) (l:List UInt8),l.length<=n->(xk l).length<=l.length:=by
  intro n;induction n with
  |zero =>
   intro l h;have:l=[]:=zN J;subst this;rw[jO];simp
  |succ n a =>
   intro l h;by_cases h0:l=[]\/xK l=0
   .rw[xk,dif_pos h0];simp
   .have h1:l≠[]:=λe=>h0 (.inl e)
    have h2:xK l≠0:=λe=>h0 (.inr e)
    rw[jP h1 h2];have:=a (l.drop (xK l)) zqf;have:=zt.2 h1;simp at *;omega
 exact key _ l (Y _)
def Ph(w:z8)(hA:(w:Nat)=A):kW A (.slice none 0 0) .nilIface ((w.alloc (.cells #[.slice none 0 0] 68)).alloc (.cells #[.nilIface] 49)):=by
 have h1:(w.alloc (.cells #[.slice none 0 0] 68)).heap.size=A+1:=by simp[hA]
 have uh:A<(w.alloc (.cells #[.slice none 0 0] 68)).heap.size:=J;exact yb1
def pX(s:ByteArray)(w:z8)(hs:s.size<=9223372036854775807)(hT:Yv 3 4 w)(hN:qu w) :
  zE prog 39 #[.string s] w (yox (vv s.data.toList) w):=by
 have hmf:∀(fn:Fn) (first cap:Array zx) (w:z8),(qA fn first cap).run prog w = .ok (.func fn first cap) w:=λ_ _ _ _=>rfl
 have HT:=Z hT;have HNA:=Z hN;obtain⟨A,hA⟩:=zw (w:Nat);have HA:=Z hA;clear hT hN;by_cases T:1000<s.size
 .have h1:decide ((1000:Int)<(s.size:Int))=true:=by simp;omega
  have h2:decide (1000<s.size)=true:=yF;have HR:=Z (show vv s.data.toList = .error (1,0)by unfold vv;rw[vL,yK T]);clear T;go_enter_defers func39,ntmps39;go_wp2;obtain⟨W,hW⟩:=zw (((w.alloc (.cells #[.slice none 0 0] 68)).alloc (.cells #[.nilIface] 49)).alloc (.cells #[.int .i64 1,.int .i64 0] 76));rw[hW];have l:kW A (.slice none 0 0) .nilIface W:=by
   rw[<-hW];exact(Ph w hA).below ((zu _ _).alloc (Y _) _)
  have OO:yE A w W:=by
   rw[<-hW,<-hA];exact((((zu _ _).alloc (Y _) _).alloc zV _).alloc yF _)
  have hc:=λi=>zZ ((w.alloc (.cells #[.slice none 0 0] 68)).alloc (.cells #[.nilIface] 49)) #[.int .i64 1,.int .i64 0] 76 (0,0) i
  rw[hW,show((w.alloc (.cells #[.slice none 0 0] 68)).alloc (.cells #[.nilIface] 49)).heap.size=A+1+1 by simp[hA]]at hc;clear hW;obtain⟨v,V⟩:=zw (A+1+1);rw[V]at hc|-;clear V;refine kI (f:=76) (args:=#[(zQ A 0),(zQ (A+1) 0)]) zV kO ?_;refine(Yb A (A+1) _ _ _ _ _ l.c0 l.z0 l.c1 l.z1 J).mono ?_;rintro e u' VQ ⟨rfl,rfl,rfl⟩;have b:=(l.VE (x := .slice none 0 0)).Mw (x := .iface 72 (zQ v 0));have y:=b.c0;have B:=b.c1;simp[Ur,settle,yN,results39,go_sem,y,B];have hF:=HR.o;rw[hF];have neA:v≠A:=λe=>by have h1:=(hc 0);rw[e,l.c0]at h1;cases h1
  have neB:v≠A+1:=λe=>by have h1:=(hc 0);rw[e,l.c1]at h1;cases h1
  exact⟨⟨v,rfl,zf2,zd6⟩,by rw[HA.o];exact vw (vw OO J) J⟩
 .have h1:decide ((1000:Int)<(s.size:Int))=false:=by simp;omega
  have h2:decide (1000<s.size)=false:=yF;go_enter_defers func39,ntmps39;have l:=Ph w hA;have xad:yE A w ((w.alloc (.cells #[.slice none 0 0] 68)).alloc (.cells #[.nilIface] 49)):=by
   rw[<-hA];exact((zu _ _).alloc (Y _) _).alloc zV _
  have xab:((w.alloc (.cells #[.slice none 0 0] 68)).alloc (.cells #[.nilIface] 49)).heap.size=A+1+1:=by simp[hA]
  obtain⟨W0,hW0⟩:=zw ((w.alloc (.cells #[.slice none 0 0] 68)).alloc (.cells #[.nilIface] 49));rw[hW0]at l xad xab;have HW0:=Z hW0;clear hW0;obtain⟨I,hI⟩:=zw (A+1+1);have HI:=Z hI;have ubz:s.size<=1000:=J;go_wp2_with fail;clear hI;go_loopw [] (λwr=>∃k pre,k<=s.size/\wr.heap[I]? = some (.stringIter s k)/\yE A w wr/\kW A (.slice none 0 0) .nilIface wr/\qQ s.data.toList=(pre++(qQ (s.data.toList.drop k)).1,k+(qQ (s.data.toList.drop k)).2)) (λwr=>s.size - wr.iterPos I)
  case atStart =>
   rw[HW0.o];refine⟨0,[],zJ _,?_,xad.alloc J _,l.below ((zu _ _).alloc (Y _) _),zV⟩;rw[<-HI.o,<-xab];exact ye8 W0 s 0
  case round =>
   obtain⟨k,pre,hk,hit,XO,b,O⟩:=hrel;obtain⟨HP,vfk,HB,HIT⟩:=hdd O b XO hit;have uby:I<(wr:Nat):=(yR.1 hit).1;have hAI:A+1<I:=(by have:=HI.o;omega);by_cases uh:k<s.size
   .have hn:=Lib.run_next_any_at (P:=prog) wr I s k 0 hit uh;have hd:=ay s k uh;have KR:Bm (s.data.toList.drop k):=by
     cases hl:s.data.toList.drop k with
     |nil=>have:=congrArg xJ hl;simp at this;omega
     |cons a r=>exact JZ a r
    have HOK:=Z KR;have u:=vq2 wr I s k (k+(bk (s.data.toList.drop k)).2) hit;have m:=Lib.below_iterAt XO (k:=I) J s (k+(bk (s.data.toList.drop k)).2);have d:=b.keep (w':=wr.iterAt I s (k+(bk (s.data.toList.drop k)).2)) (λj hj=>xrb _ _ _ _ _ J);obtain⟨pt,hpt⟩:=zw (bk (s.data.toList.drop k));obtain⟨r,z⟩:=pt;rw[hd,hpt]at hn;rw[hpt]at u m d;dsimp only at hn u m d;obtain⟨W1,H9⟩:=zw (wr.iterAt I s (k+z));rw[H9]at hn u m d;have ubx:(W1:Nat)=(wr:Nat):=(by rw[<-H9];exact vq3 _ _ _ _);have HPT:=Z hpt;have R:=Z (Tryz.utf8_DecodeRuneInString (s.extract k s.size) W1 (pY HT.o (by rw[HA.o];exact m)));have G0:zr0 (s.extract k s.size)=(r,z):=by
     unfold zr0;rw[yv WU,Ps s k uh,hpt]
    rw[G0]at R;have k1:(k:Int)<=(s.size:Int):=J;have k2:decide ((k:Int)<0)=false:=zV;clear hd KR XO b O hpt H9 G0 hit;rcases HOK.o with⟨h0,U⟩|⟨h0,PK,K⟩
    .rw[HPT.o]at U;obtain⟨rfl,rfl⟩:r=65533/\z=1:=(by cases U;exact⟨rfl,rfl⟩);have K4:=Ze h0;have L:(qQ s.data.toList).2=k:=(by rw[HP.o,K4];rfl);have HCT:=Z (Pr s k L);have HR:=Z (show vv s.data.toList = .error (2,(qQ s.data.toList).1.length) by
      unfold vv;rw[yv GQ,yK (by rw[vL,L];exact uh)])
     have aq:=Z (λW=>Tryz.utf8_RuneCountInString (s.extract 0 k) W (by rw[Hs];omega));rw[HCT.o]at aq;obtain⟨cnt,oC⟩:=zw ((qQ s.data.toList).1.length);rw[oC]at HR aq;clear U K4 L oC h0 HCT;go_wp2_with fail;refine R.o.mono ?_;rintro e W2 ⟨rfl,D⟩;have M:=m.trans (D.mono J);have C:=d.below D;clear R;go_wp2_with fail;refine(aq.o W2).mono ?_;rintro e W3 ⟨rfl,pos,rfl⟩;have t:=C.below ((zu (W2:Nat) W2).alloc (Y _) (.stringIter (s.extract 0 k) pos));have E:yE A w (W2.iter (s.extract 0 k) pos):=M.alloc (by have:=D.size;omega) _;obtain⟨W3,Yl⟩:=zw (W2.iter (s.extract 0 k) pos);rw[Yl];have hr3:kW A (.slice none 0 0) .nilIface W3:=(by rw[<-Yl];exact t);rw[Yl]at E;clear Yl t M C m d u hn aq;go_wp2;have H:=hr3.below ((zu (W3:Nat) W3).alloc (Y _) (.cells #[.int .i64 2,cnt] 76));have hA3:=hr3.lt;have G:yE A w (W3.alloc (.cells #[.int .i64 2,cnt] 76)):=E.alloc J _;have hc:=λi=>zZ W3 #[.int .i64 2,cnt] 76 (0,0) i
     obtain⟨W4,Lp⟩:=zw (W3.alloc (.cells #[.int .i64 2,cnt] 76));rw[Lp]at H G hc|-;clear Lp;obtain⟨v,V⟩:=zw (W3:Nat);rw[V]at hc|-;clear V;refine kI (f:=76) (args:=#[(zQ A 0),(zQ (A+1) 0)]) zV kO ?_;refine(Yb A (A+1) _ _ _ _ _ H.c0 H.z0 H.c1 H.z1 J).mono ?_;rintro e u' VQ ⟨rfl,rfl,rfl⟩;have b:=(H.VE (x := .slice none 0 0)).Mw (x := .iface 72 (zQ v 0));have y:=b.c0;have B:=b.c1;simp[Ur,settle,yN,results39,go_sem,y,B];have hF:=HR.o;rw[hF];have neA:v≠A:=λe=>by have h1:=(hc 0);rw[e,H.c0]at h1;cases h1
     have neB:v≠A+1:=λe=>by have h1:=(hc 0);rw[e,H.c1]at h1;cases h1
     exact⟨⟨v,rfl,zf2,zd6⟩,by rw[HA.o];exact vw (vw G J) J⟩
    .have hz:xK (s.data.toList.drop k)=z:=(by rw[h0,HPT.o]);rw[HPT.o]at K;rw[hz]at PK;have hle:=(Uk (s.data.toList.drop k)).1;rw[hz]at hle;simp only[yr,vL]at hle;have gN:s.data.toList.drop k≠[]:=(by intro e;have:=congrArg xJ e;simp at this;omega);have ZR:=jK gN J;rw[hz,Fh]at ZR;have Vk:=Z (show qQ s.data.toList=(pre++[(s.data.toList.drop k).take z]++(qQ (s.data.toList.drop (k+z))).1,(k+z)+(qQ (s.data.toList.drop (k+z))).2) by
      rw[HP.o,ZR];simp[uR])
     have xc0:((r:Int)==65533)=false\/(r=65533/\((z:Int)==1)=false):=by
      by_cases hr:r=65533
      .right;refine⟨hr,?_⟩;simp;intro hz1;exact K ⟨hr,J⟩
      .left;simp;omega
     clear K ZR gN h0 hz;rcases xc0 with VK|⟨rfl,XY⟩;all_goals
      go_wp2_with fail;refine R.o.mono ?_;rintro e W2 ⟨rfl,D⟩;have M:=m.trans (D.mono J);have C:=d.below D;have xc1:W2.heap[I]? = some (.stringIter s (k+z)):=(D.block I J).trans u;clear R m d u hn D;go_wp2;go_roundw
      case rel=>exact⟨k+z,_,J,xc1,M,C,Vk.o⟩
      case measure =>
       rw[jm xc1,jm HIT.o];omega
   .have hn:=ye9 (P:=prog) wr I s k 0 hit uh;have hks:k=s.size:=(by omega);have hz:s.data.toList.drop k=[]:=yL GQ;have L:(qQ s.data.toList).2=s.size:=(by rw[O,hz,kR];exact hks);have Q:=(Yc s s.size 0 J J (by rw[qW,L];omega)).2 #[];rw[qW]at Q;have HRT:=Z (show vv s.data.toList=match gg (xk s.data.toList)with |.error e => .error e |.ok x => .ok x.1 by
     unfold vv;rw[yv GQ,yv (by rw[vL,L];omega)])
    obtain⟨rs,QD⟩:=zw (xk s.data.toList);have wM:rs.length<=1000:=(by have:=Qk s.data.toList;rw[vL,QD]at this;omega);have vff:=Z (show ∀r∈rs,0<=r by rw[<-QD];exact zbq _);rw[QD]at Q HRT;have hcv:=run_runes_of_string (P:=prog) wr 9 137 21 s underlying9 underlying137 underlying21 (by rw[Q];simp;omega);have F:∃cp W,(convert 9 137 (.string s)).run prog wr = .ok (.slice (zQ (wr:Nat) 0) rs.length cp) W/\zR wr W/\(wr:Nat)<W.heap.size/\rs.length<=cp/\cp<=vp/\∀j (h:j<rs.length),zk W (wr:Nat) j (.int .i32 rs[j]):=by
     have e2:(Vf s s.size 0 #[]).size=rs.length:=(by rw[Q];simp);rw[e2]at hcv;refine⟨_,_,hcv,(zu _ _).drew.alloc (Y _) _,zV,grownCap_ge _ _ _ _,grownCap_le_maxLen _ _ _ _ dS,λj hj=>?_⟩;rw[show (wr:Nat)=wr.drew.heap.size from rfl,zZ,Q,Array.getElem?_append_left (by simpa using hj)];simp[hj]
    obtain⟨cp,W,bu,OO,ya9,xc2,xc3,N⟩:=F;have HCE:=Z N;have d:=b.below OO;have m:=XO.trans (OO.mono J);clear hcv Q N O L hz QD hks;have xc4:=X w _ (HNA.o 0 J);have Er:(w:Nat)<=(W:Nat):=(by have:=m.size;omega);have Ke:yE W W (W.alloc (.cells #[.slice (wr,0) rs.length cp,.int .i64 0,.int .i64 0] 185)):=(zu _ _).alloc (Y _) _;have LW:=λi=>zZ W #[.slice (wr,0) rs.length cp,.int .i64 0,.int .i64 0] 185 (0,0) i
    have hsy:xr (W:Nat) rs 0 0 (W.alloc (.cells #[.slice (wr,0) rs.length cp,.int .i64 0,.int .i64 0] 185)) :=
     ⟨⟨(wr:Nat),cp,LW 0,xc2,xc3,ya9,λj hj=>(zc _ _ _ ya9).trans (HCE.o j hj)⟩,LW 1,LW 2,zV,zV,J,J,J,vff.o⟩
    have yaz:=d.below Ke;have you:yE A w _:=m.trans (Ke.mono J);go_wp2_with fail;obtain⟨Yk,hY⟩:=zw (W.alloc (.cells #[.slice (zQ (wr:Nat) 0) rs.length cp,.int .i64 0,.int .i64 0] 185));rw[hY]at hsy yaz you|-;have hpY:(W:Nat)<(Yk:Nat):=(by rw[<-hY];simp);obtain⟨p,hp⟩:=zw (W:Nat);rw[hp]at hsy hpY Er|-;have hAp:A+1<p:=(by have:=d.lt;omega);have yv2:FI p Yk:=⟨HNA.o.below (by rw[HA.o];exact you),by have hg:0<(w:Nat):=xc4;omega⟩;have hM:=lB p rs 5 (Y _) false 0 Yk hsy yv2;obtain⟨rm,hrm⟩:=zw (gI rs 5 false 0);have HRM:=Z (show vv s.data.toList=match rm.then (λf i=>if yz rs i = -1 then (.ok (f,i):qo Fo)else .error (3,i))with |.error e => .error e |.ok x => .ok x.1 by rw[HRT.o,<-hrm];rfl);rw[hrm]at hM;have HM:=Z hM;clear hM hrm hY Ke LW hsy d m hp b XO xc2 xc3 HCE HRT hn bu hit vfk HB HIT HP xc4;refine HM.o.mono ?_;rintro e Xk ⟨hq,hbX⟩;have g:=yaz.but hbX hAp;have yoq:yE A w Xk:=you.trans (hbX.low J J);cases rm with
    |error en =>
     obtain⟨en1,en2⟩:=en;obtain⟨v,rfl,f1,f2,_,_,_⟩:=hq;have S:=Z (show vv s.data.toList = .error (en1,en2)from HRM.o);go_wp2;refine kI (f:=76) (args:=#[(zQ A 0),(zQ (A+1) 0)]) zV kO ?_;refine(Yb A (A+1) _ _ _ _ _ g.c0 g.z0 g.c1 g.z1 J).mono ?_;rintro e u' VQ ⟨rfl,rfl,rfl⟩;have b:=(g.VE (x := .slice none 0 0)).Mw (x := .iface 72 (zQ v 0));have y:=b.c0;have B:=b.c1;simp[Ur,settle,yN,results39,go_sem,y,B];have hF:=S.o;rw[hF];have neA:v≠A:=λe=>by have h1:=f1;rw[e,g.c0]at h1;cases h1
     have neB:v≠A+1:=λe=>by have h1:=f1;rw[e,g.c1]at h1;cases h1
     exact⟨⟨v,rfl,zf4,zd7⟩,by rw[HA.o];exact vw (vw yoq J) J⟩
    |ok fj =>
     obtain⟨f,j⟩:=fj;obtain⟨⟨a,c,rfl,vs,Yx,D8⟩,oI,hsX⟩:=hq;have Yy:=Z Yx;have Gb:=Z D8;have ON:=Z (show vv s.data.toList=match (if yz rs j = -1 then (.ok (f,j):qo Fo)else .error (3,j))with |.error e => .error e |.ok x => .ok x.1 from HRM.o);have g0:=g.c0;have g1:=g.z0;have Iu:=Z (hsX.yv1 g0 J (.slice a f.len c));have t:=g.VE (x := .slice a f.len c);have E:yE A w (Xk.setCell (zQ A 0) (.slice a f.len c)):=vw yoq (Y _);have KL:vx (Yk:Nat) (Xk:Nat) Xk (Xk.setCell (zQ A 0) (.slice a f.len c)):=(vH (Y _)).put J 0 _;obtain⟨X4,hX4⟩:=zw (Xk.setCell (zQ A 0) (.slice a f.len c));rw[hX4]at Iu t E KL;have HX4:=Z hX4;have hYX:=hbX.size;clear hX4 Yx D8 hsX g yoq HRM HM hbX;go_wp2_with fail;rw[HX4.o];refine(gC p rs j 0 X4 Iu.o).mono ?_;rintro e X5 ⟨rfl,ZV⟩;have we:=Z (Iu.o.below ZV);have hA4:=t.lt;have n:=t.below ZV;have G:=E.trans (ZV.mono J);have DC:=KL.below ZV;by_cases he:yz rs j = -1
     .have S:=Z (show vv s.data.toList = .ok f by rw[ON.o,yK he]);rw[he];have q0:=n.c0;have q1:=n.c1;have q2:=n.z0;have q3:=n.z1;have Ks:=n.VE (x := .slice a f.len c);have PJ:=Ks.Mw (x := .nilIface);have vfb:yE A w ((X5.setCell (zQ A 0) (.slice a f.len c)).setCell (zQ (A+1) 0) .nilIface):=vw (vw G (Y _)) J;have il:vx (Yk:Nat) (Xk:Nat) Xk ((X5.setCell (zQ A 0) (.slice a f.len c)).setCell (zQ (A+1) 0) .nilIface):=(DC.put J 0 _).put J 0 _;have q4:=Ks.c1;have q5:=Ks.z1;clear ON he HX4;go_wp2;refine kI (f:=76) (args:=#[(zQ A 0),(zQ (A+1) 0)]) zV (by simp[go_sem]) ?_;refine(au A (A+1) _).mono ?_;rintro e u' VQ ⟨rfl,rfl,rfl⟩;have y:=PJ.c0;have B:=PJ.c1;simp[Ur,settle,yN,results39,go_sem,y,B];have hF:=S.o;rw[hF];exact⟨⟨⟨a,c,vs,rfl,Yy.o.keep il (by rw[HA.o];omega) il.1,yY.keep il (by rw[HA.o];omega) il.1 _ _ Gb.o⟩,oI⟩,by rw[HA.o];exact vfb⟩
     .have S:=Z (show vv s.data.toList = .error (3,j)by rw[ON.o,yv he]);have he':(yz rs j==-1)=false:=(by simpa using he);have q0:=we.o.at_;clear ON he HX4;go_wp2_with fail;refine(Yi p 3 j X5 we.o.I8).mono ?_;rintro e X6 ⟨⟨v,rfl,f1,f2,_,_,_⟩,gT⟩;have q:=n.below gT;have vd0:=G.trans (gT.mono (by have:=n.lt;omega));go_wp2;refine kI (f:=76) (args:=#[(zQ A 0),(zQ (A+1) 0)]) zV kO ?_;refine(Yb A (A+1) _ _ _ _ _ q.c0 q.z0 q.c1 q.z1 J).mono ?_;rintro e u' VQ ⟨rfl,rfl,rfl⟩;have b:=(q.VE (x := .slice none 0 0)).Mw (x := .iface 72 (zQ v 0));have y:=b.c0;have B:=b.c1;simp[Ur,settle,yN,results39,go_sem,y,B];have hF:=S.o;rw[hF];have neA:v≠A:=λe=>by have h1:=f1;rw[e,q.c0]at h1;cases h1
      have neB:v≠A+1:=λe=>by have h1:=f1;rw[e,q.c1]at h1;cases h1
      exact⟨⟨v,rfl,zf4,zd7⟩,by rw[HA.o];exact vw (vw vd0 J) J⟩
inductive Out (σ:Type) where
 |go (b:Bool) (s:σ)
 |TM (c:List PanicEntry) (s:σ)
def Out.then{σ:Type}(x:Out σ)(k:σ->Out σ):Out σ:=match x with |.go true s=>k s |.go false s => .go false s |.TM c s => .TM c s
def vg{σ:Type}(F:σ->Fo->Out σ):Fo->σ->Out σ
 |.nil,s => .go true s
 |.text _ r,s=>vg F r s
 |.hash r,s=>vg F r s
 |.put n a r,s=>(F s (.put n a .nil)).then λs=>vg F r s
 |.num n a r,s=>(F s (.num n a .nil)).then λs=>vg F r s
 |.br n a f o c bs r,s=>(F s (.br n a f o c bs .nil)).then λs=>(vg F bs s).then λs=>vg F r s
 |.xi _ _ m r,s=>(vg F m s).then λs=>vg F r s
def zbk:Fo->Option (Wd×Nat)
 |.put n a _=>some (n,a)
 |.num n a _=>some (n,a)
 |.br n a _ _ _ _ _=>some (n,a)
 |_=>none
def Fo.wf(N:Nat):Fo->Bool
 |.nil=>true
 |.text _ r=>r.wf N
 |.hash r=>r.wf N
 |.put n _ r=>decide (n.length<=4000001) && r.wf N
 |.num n _ r=>decide (n.length<=4000001) && r.wf N
 |.br n _ f _ _ bs r=>decide (n.length<=4000001) && decide (f<3) && bs.xm && decide (bs.len<=N) && bs.wf N && r.wf N
 |.xi k _ m r=>decide (k.length<=4000001) && m.ya && decide (m.len<=N) && m.wf N && r.wf N
def Fo.wt:Fo->Nat
 |.br _ _ _ _ _ bs _=>2+bs.len
 |_=>1
def Fo.cnt:Fo->Nat
 |.nil=>0
 |.text _ r=>r.cnt
 |.hash r=>r.cnt
 |.put _ _ r=>1+r.cnt
 |.num _ _ r=>1+r.cnt
 |.br _ _ _ _ _ bs r=>2+bs.len+bs.cnt+r.cnt
 |.xi _ _ m r=>m.cnt+r.cnt
def yok{σ:Type}(I:σ->Nat->z8->Prop)(room:Nat)(o:Out σ)(e:xX)(w':z8):Prop :=
 match o with
 |.go b s=>e = .returned (.bool b)/\I s room w'
 |.TM c s=>e = .panicked c/\I s room w'
structure aj{σ:Type}(lo hi:Nat)(w0:z8)(v:zx)(I:σ->Nat->z8->Prop)(F:σ->Fo->Out σ):Prop where
 fn:∃k cap,v = .func (.func k) #[] cap/\(∀args w,(callFunc k args).run prog w = .ok (.enter k args) w) /\
  ∀s room W x u n a,I s (room+x.wt) W->yY lo hi w0 [u] x->x.wf 2000000=true->zbk x=some (n,a)->zE prog k (#[u,.agg #[zO n,.int .i64 (a:Nat)]]++cap) W (yok I room (F s x))
 keep:∀s b W,I s b W->vx lo hi w0 W
 below:∀s b W W',I s b W->zR W W'->I s b W'
 less:∀s b b' W,I s b W->b'<=b->I s b' W
section
variable (b:Nat) (t:Wd) (w:z8)
def Kv:(za (.iface 210 (b,0)) 193 210 true).run prog w = .ok (.tuple #[(b,0),.bool true]) w:=xG
def XW:(za (.iface 213 (b,0)) 193 213 true).run prog w = .ok (.tuple #[(b,0),.bool true]) w:=xG
def Uj:(za (.iface 199 (b,0)) 193 199 true).run prog w = .ok (.tuple #[(b,0),.bool true]) w:=xG
def Pw:(za (.iface 206 (zO t)) 193 210 true).run prog w = .ok (.tuple #[.pointer none,.bool false]) w:=xG
def R0:(za (.iface 206 (zO t)) 193 213 true).run prog w = .ok (.tuple #[.pointer none,.bool false]) w:=xG
def ag:(za (.iface 206 (zO t)) 193 199 true).run prog w = .ok (.tuple #[.pointer none,.bool false]) w:=xG
def R1:(za (.iface 208 (.agg #[])) 193 210 true).run prog w = .ok (.tuple #[.pointer none,.bool false]) w:=xG
def R2:(za (.iface 208 (.agg #[])) 193 213 true).run prog w = .ok (.tuple #[.pointer none,.bool false]) w:=xG
def af:(za (.iface 208 (.agg #[])) 193 199 true).run prog w = .ok (.tuple #[.pointer none,.bool false]) w:=xG
def Ku:(za (.iface 213 (b,0)) 193 210 true).run prog w = .ok (.tuple #[.pointer none,.bool false]) w:=xG
def Gi:(za (.iface 199 (b,0)) 193 210 true).run prog w = .ok (.tuple #[.pointer none,.bool false]) w:=xG
def Qj:(za (.iface 199 (b,0)) 193 213 true).run prog w = .ok (.tuple #[.pointer none,.bool false]) w:=xG
def aZ:(za (.iface 210 (b,0)) 193 213 true).run prog w = .ok (.tuple #[.pointer none,.bool false]) w:=xG
def IU:(za (.iface 210 (b,0)) 193 199 true).run prog w = .ok (.tuple #[.pointer none,.bool false]) w:=xG
def pV:(za (.iface 213 (b,0)) 193 199 true).run prog w = .ok (.tuple #[.pointer none,.bool false]) w:=xG
end
variable{hi lo:Nat}{σ:Type}{w0:z8}
def yM(h:vx lo hi w0 W){b:Nat}(hc:zk w0 b j v)(h1:lo<=b)(h2:b<hi):zk W b j v:=(h.cell (p:=(b,j)) h1 h2).trans hc
def zbj{σ:Type}(lo hi:Nat)(w0:z8)(v:zx)(I:σ->Nat->z8->Prop)(F:σ->Fo->Out σ)(f:Fo):Prop :=
 ∀s room W a c vs,I s (room+f.cnt) W->Uv lo hi w0 a vs->yY lo hi w0 vs f->zE prog 81 #[.slice a f.len c,v] W (yok I room (vg F f s))
def pU{I:σ->Nat->z8->Prop}{F:σ->Fo->Out σ}(hy:aj lo hi w0 v I F)(f:Fo)(hm:f.ya=true)(hw:f.wf 2000000=true)(hl:f.len<=2000000)
  (ih:∀m:Fo,zH m<zH f->m.ya=true->m.wf 2000000=true->m.len<=2000000->zbj lo hi w0 v I F m):zbj lo hi w0 v I F f:=by
 intro s l W a c vs hI Yx N;obtain⟨⟨k,cap,rfl,p7,D⟩,H,U,K⟩:=hy;have Ib:=Z K;obtain⟨L,hL⟩:=zw f.len;rw[hL];have hvl:vs.length=L:=(yY.count f vs N hm).trans hL;obtain⟨R,hR⟩:=zw (vg F f s);rw[hR];obtain⟨HI0,Yy,Gb,HM,HW,HR,z,d⟩:=OH hI Yx N hm hw hR D H;obtain⟨vd1,HIH,iK,HL⟩:=hdd U ih hvl hL;have hL2:L<=2000000:=J;clear hI Yx N hm hw hR D H U K ih hvl hl hL;go_enter func81,ntmps81;go_wp2_with fail;go_loopw [14] (λiv wr=>∃i us xs r s1,iv = .int .i64 (i:Nat)/\i<=L/\yY lo hi w0 xs r/\r.ya=true/\r.wf 2000000=true/\us.length=i/\vs=us++xs/\i+r.len=L/\zH r<=zH f/\I s1 (l+r.cnt) wr/\vg F r s1=R) (λiv _=>L - (intOf iv).toNat)
 case atStart=>exact⟨0,[],vs,f,s,rfl,zJ _,Gb.o,HM.o,HW.o,rfl,rfl,by have:=HL.o;omega,Y _,HI0.o,HR.o⟩
 case round =>
  obtain⟨i,us,xs,r,s1,rfl,hiL,uB,hmr,EP,K0,hvs,Z9,Z0,hi1,DJ⟩:=hrel;obtain⟨HN,EL,AQ,Pv,HUS,G9,OR⟩:=EB uB hmr EP hvs K0 hi1 DJ;clear uB hmr EP hvs K0 hi1 DJ;by_cases uh:i<L
  .obtain⟨x0,xt,IQ⟩:∃x0 xt,xs=x0::xt:=zyf;subst IQ;obtain⟨g,o,rfl,FD,Ik,A⟩:=Yy.o i (by have:=iK.o;omega);have lx:vs[i]'(by have:=iK.o;omega)=x0:=zyq;rw[lx]at A;have VK:=yM (d.o _ _ wr G9.o) A FD Ik;have k1:(i:Int)<(L:Int):=J;have k2:decide ((i:Int)<(L:Int))=true:=yF;have ZX:=Z Z0;clear A lx Z0;obtain⟨y,hy⟩:∃y,y=x0:=⟨_,rfl⟩;replace Pv:=Z (show vs=us++y::xt by rw[hy];exact Pv.o);clear hy;cases r with
   |nil =>
    have:=HN.o;cases this
   |xi k0 a0 B P=>have:=EL.o;cases this
   |text t r =>
    obtain⟨vt,he,uB⟩:=HN.o;cases he;have e1:=Pw t;have e2:=R0 t;have e3:=ag t;exact zgk
   |hash r =>
    obtain⟨vt,he,uB⟩:=HN.o;cases he;have e1:=R1;have e2:=R2;have e3:=af;exact zgk
   |put n a r =>
    obtain⟨vt,b0,he,p,q,YU,U5,uB⟩:=HN.o;cases he;have EM:=yM (d.o _ _ wr G9.o) YU p q;have hh1:=yM (d.o _ _ wr G9.o) U5 p q;have e1:=Kv b0;have DE:=Z uB;have u:(decide (n.length<=4000001) && r.wf 2000000)=true:=AQ.o;simp only[zv,decide_eq_true_eq]at u;have x:l+(Fo.put n a r).cnt=(l+r.cnt)+(Fo.put n a .nil).wt:=WA;have w:=G9.o;rw[x]at w;have HCC:=Z (z.o s1 (l+r.cnt) wr (.put n a .nil) (.iface 210 (zQ b0 0)) n a w ⟨[],b0,rfl,p,q,YU,U5,rfl⟩ (by simp[Fo.wf,u.1]) rfl);have AQ:=Z u.2;clear uB u x w;have EL:=Z (show r.ya=true from EL.o);have QI:=Z (show i+(r.len+1)=L from Z9);have ZX:=Z (show zH r<=zH f by have:=ZX.o;simp at this;omega);obtain⟨o1,PM⟩:=zw (F s1 (.put n a .nil));exact zgq
   |num n a r =>
    obtain⟨vt,b0,he,p,q,YU,U5,uB⟩:=HN.o;cases he;have EM:=yM (d.o _ _ wr G9.o) YU p q;have hh1:=yM (d.o _ _ wr G9.o) U5 p q;have e1:=Ku b0;have e2:=XW b0;have DE:=Z uB;have u:(decide (n.length<=4000001) && r.wf 2000000)=true:=AQ.o;simp only[zv,decide_eq_true_eq]at u;have x:l+(Fo.num n a r).cnt=(l+r.cnt)+(Fo.num n a .nil).wt:=WA;have w:=G9.o;rw[x]at w;have HCC:=Z (z.o s1 (l+r.cnt) wr (.num n a .nil) (.iface 213 (zQ b0 0)) n a w ⟨[],b0,rfl,p,q,YU,U5,rfl⟩ (by simp[Fo.wf,u.1]) rfl);have AQ:=Z u.2;clear uB u x w;have EL:=Z (show r.ya=true from EL.o);have QI:=Z (show i+(r.len+1)=L from Z9);have ZX:=Z (show zH r<=zH f by have:=ZX.o;simp at this;omega);obtain⟨o1,PM⟩:=zw (F s1 (.num n a .nil));exact zgq
   |br n a fo of cl bs r =>
    obtain⟨vt,b0,ba,bc,ws,he,p,q,YU,U5,XY,IK,DL,R3,Bf,Dz,uB⟩:=HN.o;cases he;have EM:=yM (d.o _ _ wr G9.o) YU p q;have hh1:=yM (d.o _ _ wr G9.o) U5 p q;have e1:=Gi b0;have e2:=Qj b0;have e3:=Uj b0;have DE:=Z uB;have aY:=Z Dz;have IJ:=Z Bf;have u:(decide (n.length<=4000001) && decide (fo<3) && bs.xm && decide (bs.len<=2000000) && bs.wf 2000000 && r.wf 2000000)=true:=AQ.o;simp only[zv,decide_eq_true_eq]at u;obtain⟨⟨⟨⟨⟨IG,lK⟩,lH⟩,hbn⟩,XO⟩,za0⟩:=u;have x:l+(Fo.br n a fo of cl bs r).cnt=(l+r.cnt+bs.cnt)+(Fo.br n a fo of cl bs .nil).wt:=WA;have w:=G9.o;rw[x]at w;obtain⟨HCC,HC4,AQ,HBL,HBW⟩:=G0 (z.o s1 (l+r.cnt+bs.cnt) wr (.br n a fo of cl bs .nil) (.iface 199 (zQ b0 0)) n a w ⟨[],b0,ba,bc,ws,rfl,p,q,YU,U5,XY,IK,DL,R3,Bf,Dz,rfl⟩ (by simp[Fo.wf,IG,lK,lH,hbn,XO]) rfl) DL za0 lH XO;have EL:=Z (show r.ya=true from EL.o);have QI:=Z (show i+(r.len+1)=L from Z9);have ZX:=Z (show zH r<=zH f/\zH bs<zH f by have:=ZX.o;simp at this;omega);obtain⟨o1,PM⟩:=zw (F s1 (.br n a fo of cl bs .nil));have lu:=OR.o;rw[vg,PM]at lu;have ON:=Z lu.symm;rw[PM]at HCC;clear PM lu OR YU U5 XY IK DL R3 Bf Dz uB za0 lH XO x w;go_wp2_with fail;refine HCC.o.mono ?_;rintro e w2 hq;cases o1 with
    |TM c s2 =>
     exact zj3
    |go b s2 =>
     obtain⟨rfl,hi2⟩:=hq;have HIX:=Z hi2;clear hi2;cases b with
     |false =>
      exact zj6
     |true =>
      have BZ:=Z (show(vg F bs s2).then (λs=>vg F r s)=R from ON.o.symm);have hh4:=yM (d.o _ _ w2 HIX.o) HC4.o p q;clear EM hh1 VK HCC ON G9;go_wp2_with fail;go_loopw [60] (λiv wq=>∃i2 O xs2 r2 s3,iv = .int .i64 (i2:Nat)/\i2<=bs.len/\yY lo hi w0 xs2 r2/\r2.xm=true/\r2.wf 2000000=true/\O.length=i2*3/\ws=O++xs2/\i2+r2.len=bs.len/\zH r2<=zH bs/\I s3 (l+r.cnt+r2.cnt) wq/\(vg F r2 s3).then (λs=>vg F r s)=R) (λiv _=>bs.len - (intOf iv).toNat)
      case atStart=>exact⟨0,[],ws,bs,s2,rfl,zJ _,aY.o,HBL.o,HBW.o,rfl,rfl,J,Y _,HIX.o,BZ.o⟩
      case round =>
       obtain⟨i2,O,xs2,r2,s3,rfl,vd2,za1,V,za2,za3,za4,Eo,Ka,hi3,hr3⟩:=hrel;obtain⟨HN2,Kn,za5,PI,Pj,C,HR3,xgb⟩:=OH za1 V za2 za4 za3 hi3 hr3 Ka;have aX:=Z Eo;clear za1 V za2 za4 za3 hi3 hr3 Ka;by_cases Bj:i2<bs.len
       .cases r2 with
        |nil=>exfalso;simp[Fo.len]at Eo;omega
        |text t r=>have:=Kn.o;cases this
        |hash r=>have:=Kn.o;cases this
        |put n a r=>have:=Kn.o;cases this
        |num n a r=>have:=Kn.o;cases this
        |br n a fo of cl bs r=>have:=Kn.o;cases this
        |xi k0 a0 B P =>
         obtain⟨R4,ma,mc,ms,TI,M,lL,Ug⟩:=HN2.o;subst TI;have hwl:ws.length=O.length+(R4.length+3):=(by rw[PI.o];simp);have Q:∀j v,[zO k0,.int .i64 a0,.slice ma B.len mc][j]? = some v->∃(h:i2*3+j<ws.length),ws[i2*3+j]=v:=zj2;obtain⟨q0,p0⟩:=Q 0 _ rfl;obtain⟨q1,p1⟩:=Q 1 _ rfl;obtain⟨q2,p2⟩:=Q 2 _ rfl;obtain⟨g2,o2,rfl,E,G,d0⟩:=IJ.o (i2*3+0) q0;obtain⟨g2',o2',hgg,_,_,d1⟩:=IJ.o (i2*3+1) q1;cases hgg;obtain⟨g2',o2',hgg,_,_,d2⟩:=IJ.o (i2*3+2) q2;cases hgg;rw[p0]at d0;rw[p1]at d1;rw[p2]at d2;have c0:=yM (d.o _ _ wr C.o) d0 E G;have c1:=yM (d.o _ _ wr C.o) d1 E G;have c2:=yM (d.o _ _ wr C.o) d2 E G;simp only[EK,<-uR]at c0 c1 c2;have yof:=Z M;have yod:=Z lL;have yob:=Z Ug;have k3:(i2:Int)<(bs.len:Int):=J;have k4:decide ((i2:Int)<(bs.len:Int))=true:=yF;clear M lL Ug d0 d1 d2 p0 p1 p2 Q;have R5:(decide (k0.length<=4000001) && B.ya && decide (B.len<=2000000) && B.wf 2000000 && P.wf 2000000)=true:=za5.o;simp only[zv,decide_eq_true_eq]at R5;obtain⟨⟨⟨⟨_,Q9⟩,Jz⟩,l9⟩,EO⟩:=R5;have lN:zH B<zH f/\zH P<=zH bs:=zqu;obtain⟨HEC,HSS,yp0,yp1,yn8⟩:=G0 (HIH.o B lN.1 Q9 l9 Jz s3 (l+r.cnt+P.cnt) (wr.alloc (.cells #[zO k0,a0,.slice ma B.len mc] 221)) ma mc ms (vd1.o s3 _ wr _ (by have:=C.o;rw[show l+r.cnt+(Fo.xi k0 a0 B P).cnt=l+r.cnt+P.cnt+B.cnt by simp only[Fo.cnt];omega]at this;exact this) ((zu _ _).alloc (Y _) _)) yof.o yod.o) lN.2 EO (show P.xm=true from Kn.o) (show i2+(P.len+1)=bs.len from aX.o);obtain⟨oo,hoo⟩:=zw (vg F B s3);have Eh:=HR3.o;rw[vg,hoo]at Eh;have ON:=Z Eh.symm;rw[hoo]at HEC;clear hoo Eh Q9 Jz l9 EO lN;go_wp2_with fail;refine HEC.o.mono ?_;rintro e w3 hq;cases oo with
         |TM c s4 =>
          obtain⟨rfl,S⟩:=hq;have BZ:=Z (show R = .TM c s4 from ON.o);go_wp2;refine⟨rfl,?_⟩;rw[BZ.o];exact⟨rfl,Ib.o _ _ _ _ S J⟩
         |go b s4 =>
          obtain⟨rfl,S⟩:=hq;have T:=Z S;clear S;cases b with
          |false =>
           have BZ:=Z (show R = .go false s4 from ON.o);go_wp2;go_ret;rw[BZ.o];exact⟨rfl,Ib.o _ _ _ _ T.o J⟩
          |true =>
           have BZ:=Z (show(vg F P s4).then (λs=>vg F r s)=R from ON.o.symm);go_wp2;go_roundw
           case rel=>exact⟨i2+1,O++[zO k0,.int .i64 a0,.slice ma B.len mc],R4,P,s4,zV,J,yob.o,yp1.o,yp0.o,Me,MT,Mi,HSS.o,T.o,BZ.o⟩
           case measure=>simp only[intOf];omega
       .have k4:decide ((i2:Int)<(bs.len:Int))=false:=(by simp;omega);have kL:r2 = .nil:=zqz;have HRY:=Z (show vg F r s3=R by rw[<-HR3.o,kL];rfl);have ZX:=Z ZX.o.1;go_wp2;go_roundw
        case rel=>exact⟨i+1,us++[y],_,r,s3,zV,J,DE.o,EL.o,AQ.o,K9,by rw[Pv.o,yk];rfl,U6,Ga,Ib.o _ _ _ _ C.o J,HRY.o⟩
        case measure=>simp only[intOf];omega
  .have k2:decide ((i:Int)<(L:Int))=false:=(by simp;omega);have kL:r = .nil:=WS;have BZ:=Z (show R = .go true s1 by rw[<-OR.o,kL];rfl);go_wp2;go_ret;rw[BZ.o];exact⟨rfl,Ib.o _ _ _ _ G9.o J⟩
def R6{I:σ->Nat->z8->Prop}{F:σ->Fo->Out σ}(hy:aj lo hi w0 v I F):∀(n:Nat) (f:Fo),zH f<n->f.ya=true->f.wf 2000000=true->f.len<=2000000->zbj lo hi w0 v I F f
 | 0,f,h,_,_,_=>absurd h (ZH _)
 |n+1,f,h,hm,hw,c=>pU hy f hm hw c λm h1 h2 a b=>R6 hy n m J h2 a b
def jG(e:xM)(w:z8)(b n:Nat)(f:Wd->Option Nat):Prop :=
 ∃D:ib Unit,w.ownsMap prog 9 (plainElem prog e) b n D/\Maps.IsMap D/\∀m:Wd,Maps.has D (.string m)=(f m).isSome/\D.atKey (.string m) (.lit (.int .i64 0)) = .lit (.int .i64 (((f m).getD 0:Nat):Int))
structure pQ(t e:xM):Prop where
 map:prog.underlying t=some (.map 9 e)
 el:prog.underlying e=some (.int .i64)
 zero:∀w,(zeroValue e).run prog w = .ok (.int .i64 0) w
def jG.keep{e:xM}{b:Nat}{f:Wd->Option Nat}(h:jG e w b n f)(hb:w'.heap[b]? = w.heap[b]?):jG e w' b n f:=by
 obtain⟨D,h1,h2⟩:=h;obtain⟨es,a,c,rest⟩:=h1;exact⟨D,⟨es,a,hb.trans c,rest⟩,h2⟩
def jG.lt{e:xM}{b:Nat}{f:Wd->Option Nat}(h:jG e w b n f):b<(w:Nat):=iL
def jG.below{e:xM}{b:Nat}{f:Wd->Option Nat}(h:jG e w b n f)(hb:zR w w'):jG e w' b n f:=h.keep (hb.block b h.lt)
def jG.made(e:xM)(w:z8):jG e (w.alloc (.map #[] 0)) (w:Nat) 0 (λ_=>none) :=
 ⟨.map [],Hh w _ _ _,⟨_,rfl⟩,λm=>⟨rfl,rfl⟩⟩
section
variable {t e:xM}
def jG.look{b:Nat}{f:Wd->Option Nat}(T:pQ t e)(h:jG e w b n f)(m:Wd)(hm:m.length<=5000000) :
  (Jr t (.map (some b)) (zO m) true).run prog w = .ok (.tuple #[(((f m).getD 0:Nat):Int),.bool (f m).isSome]) w:=by
 obtain⟨D,h1,h2,d⟩:=h;obtain⟨v,ps,a,hv⟩:=h1.look_ok (xf underlying9) T.map (z := .int .i64 0) (T.zero w) (bG T.el zW)
  (key:=zO m) (yT (s:=⟨m.toArray⟩) underlying9 Vi)
 rw[toList_mk]at a hv;rw[(d m).1]at a;rw[(d m).2]at hv;obtain⟨c,rfl,hc,_⟩:=plainElem_int_inv T.el hv;simp only[Ht,EW,yzq]at hc;rw[a,<-hc.1.2]
def jG.FN{b:Nat}{f:Wd->Option Nat}(T:pQ t e)(h:jG e w b n f)(m:Wd)(hm:m.length<=5000000) :
  (Jr t (.map (some b)) (zO m) false).run prog w = .ok (((f m).getD 0:Nat):Int) w:=by
 obtain⟨D,h1,h2,g⟩:=h;obtain⟨c,d,a,_⟩:=h1.lookup_int (xf underlying9) T.map T.el (q := .i64) (T.zero w)
  (key:=zO m) (yT (s:=⟨m.toArray⟩) underlying9 Vi)
 rw[toList_mk,(g m).2]at a;simp only[EW,yzq,true_and]at a;rw[d,<-a]
def jG.put{b:Nat}{f:Wd->Option Nat}(T:pQ t e)(h:jG e w b n f)(m:Wd)(hm:m.length<=5000000)(v:Int)(k:Nat)(hv:v=(k:Int))(i:k<=1000000000)(hn:n<=1000000000) :
  ∃w',(TJ t (.map (some b)) (zO m) v).run prog w = .ok () w'/\jG e w' b (n+1) (λx=>if m=x then some k else f x)/\w.grownBy w' (some b):=by
 subst hv;obtain⟨D,h1,h2,h3⟩:=h;obtain⟨w',d,c,g⟩:=h1.update (xf underlying9) T.map dS (key:=zO m) (yT (s:=⟨m.toArray⟩) underlying9 Vi)
  (bG T.el (q := .i64) (a:=(k:Int)) zx5)
 rw[toList_mk]at c;refine⟨w',d,⟨_,c,h2.put _ _,λx=>?_⟩,g⟩;by_cases hx:m=x
 .subst hx;simp only[↓reduceIte];exact⟨by rw[Qi h2 (show kF (.string m)from trivial)];simp,by rw[Uo h2 (show kF (.string m)from trivial)];simp⟩
 .exact yb5
end
variable{mb:Nat}
def ke(l:List (Nat×Nat)):List zx:=l.flatMap λx=>[.int .i64 (x.1:Nat),.int .i64 (x.2:Nat)]
def Bn(l:List (Nat×Nat)):(ke l).length=l.length*2:=by
 induction l with
 |nil=>rfl
 |cons a t b=>simp only[ke,zh,zy,zY,yG]at b|-;omega
def XL(a b:List (Nat×Nat)):ke (a++b)=ke a++ke b:=by simp[ke]
def jq:Yz prog 189 76 (.agg #[.int .i64 0,.int .i64 0]) 2 16 :=
 ⟨underlying189,V9 yg,rfl,zW,zW⟩
def Uf:pQ 139 3:=⟨underlying139,underlying3,λw=>kO⟩
def Bo:Wd:=[111,116,104,101,114]
def K6(cl:Nat):List Wd->List (Nat×Nat)->Fo->List (Nat×Nat)
 |xC,acc,.xi k a _ r=>K6 cl (k::xC) (if k∈xC then acc++[(7,a)]else acc) r
 |xC,acc,_=>if Bo∈xC then acc else acc++[(6,cl)]
def uq(base:Nat)(w:z8)(v:zx)(l:List (Nat×Nat)):Prop:=w.ownsRow base 76 2 v l.length (ke l)
def ow{b:Nat}(h:zk w b 0 u)(h2:zk w b 1 v):∀j x,[u,v][j]? = some x->w.cell? ((⟨b,0,none⟩:yI).add j)=some x:=by
 intro j x hx;match j,hx with
 | 0,hx=>simp at hx;subst hx;exact h
 | 1,hx=>simp at hx;subst hx;rw[ve];exact h2
 |j+2,hx=>simp at hx
def lS(f:Wd->Option Nat)(xC:List Wd):Prop:=∀k,(0<(f k).getD 0 ↔ k∈xC)/\(f k).getD 0<=seen.length
def lS.more{f:Wd->Option Nat}{xC:List Wd}(h:lS f xC)(k:Wd):lS (λx=>if k=x then some ((f k).getD 0+1)else f x) (k::xC):=by
 intro x;have:=h x;have h2:=h k;by_cases hx:k=x
 .subst hx;simp;omega
 .simp only[hx,↓reduceIte,yV,zY];have a:¬x=k:=λe=>hx e.symm
  refine⟨by rw[this.1];simp[a],J⟩
def uq.QN{base:Nat}{l:List (Nat×Nat)}(h:uq base w v l)(hb:zR w w'):uq base w' v l :=
 h.kept (row:=some (w:Nat)) ⟨hb.os,hb.tape,hb.output,hb.size,λi hi _=>hb.block i hi⟩ (by
  cases hv:v.ownBlock with
  |none=>exact .inl rfl
  |some g=>exact .inr (λe=>by have:=(h.lt g hv).2;cases e;omega))
def uq.za7{base b:Nat}{l:List (Nat×Nat)}(h:uq base w v l)(a:w.grownBy w' (some b))(hb:b<base):uq base w' v l :=
 h.kept a (zxb)
def JY{l:List (Nat×Nat)}(h:uq (mb+1) w v l)(hm:(w0:Nat)=mb):uq (w0:Nat) w v l:=by
 obtain⟨h1,h2⟩:=h;refine⟨h1,?_⟩;rcases h2 with h2|⟨g,cap,a,hv,b,rest⟩
 .exact .inl h2
 .exact .inr ⟨g,cap,a,hv,J,rest⟩
def XA(b0:Nat)(n:Wd)(a fo:Nat)(of:Wd)(y:Nat)(bs:Fo)(w:z8)(m:vx lo hi w0 w)
  (D9:yY lo hi w0 [.iface 199 (b0,0)] (.br n a fo of y bs .nil)) (IF:(Fo.br n a fo of y bs .nil).wf 2000000=true) :
  zE prog 84 #[(b0,0)] w λe w'=>(∃v,e = .returned v/\uq (w:Nat) w' v (K6 y [] [] bs))/\zR w w':=by
 have Ew:=@run_makeMap prog;obtain⟨vt,b',ba,bc,ws,he,qI,qX,YU,VK,XY,IK,DL,R3,Bf,Dz,_⟩:=D9;cases he;have Bd:(decide (n.length<=4000001) && decide (fo<3) && bs.xm && decide (bs.len<=2000000) && bs.wf 2000000 && Fo.nil.wf 2000000)=true:=IF;simp only[Bool.and_eq_true,decide_eq_true_eq]at Bd;obtain⟨⟨⟨⟨⟨IG,lK⟩,lH⟩,hbn⟩,XO⟩,_⟩:=Bd;obtain⟨HK,aY,IJ,HBL,HBW,HC5⟩:=ED m Dz Bf lH XO R3;have c4:=yM m DL qI qX;obtain⟨R,hR⟩:=zw (K6 y [] [] bs);rw[hR];have HR:=Lib.hid hR;have hhi:hi<=(w:Nat):=m.1;obtain⟨mb,S⟩:=zw (w:Nat);have B:=Lib.hid S;clear m Dz Bf lH XO YU VK XY IK DL R3 IF hR;have hmd:=jG.made 3 w;rw[S]at hmd;have hbd:Below w w (w.alloc (.map #[] 0)):=(Below.refl _ _).alloc (Nat.le_refl _) _;have c4':zk (w.alloc (.map #[] 0)) b0 4 (.slice ba bs.len bc):=(World.cell?_alloc_lt _ _ _ (show b0<(w:Nat)by omega)).trans c4;have vd5:(w.alloc (.map #[] 0)).heap.size=mb+1:=by simp[S]
 obtain⟨W0,hW0⟩:=zw (w.alloc (.map #[] 0));rw[hW0]at hmd hbd vd5;have HW0:=Z hW0;clear hW0;go_enter func84,ntmps84;go_wp2_with fail;clear c4 c4' S;go_loopw [2,12] (λfv iv wr=>∃i us xs r acc xC nm fm,iv = .int .i64 (i:Nat)/\i<=bs.len/\yY lo hi w0 xs r/\r.xm=true/\r.wf 2000000=true/\us.length=i*3/\ws=us++xs/\i+r.len=bs.len/\zR w wr/\mb<wr.heap.size/\uq (mb+1) wr fv acc/\jG 3 wr mb nm fm/\nm<=i/\lS fm xC/\seen.length=i/\acc.length<=i/\K6 y xC acc r=R) (λ_ iv _=>bs.len - (intOf iv).toNat)
 case atStart =>
  rw[HW0.o];exact⟨0,[],ws,bs,[],[],0,λ_=>none,rfl,zJ _,aY.o,HBL.o,HBW.o,rfl,rfl,J,hbd,J,xz _ _ _ _,hmd,Y _,(λk=>zV),rfl,Y _,HR.o⟩
 case round =>
  obtain⟨i,us,xs,r,acc,xC,nm,fm,rfl,hiL,uB,hmr,EP,K0,hvs,Z9,zgy,hmw,how,hmp,hnm,hsn,Mt,Ke,DJ⟩:=hrel;have L:vx lo hi w0 wr:=HK.o.below zgy;obtain⟨C,HMP,HSN,HSL,HAL,OR,HN2,d⟩:=OH how hmp hsn Mt Ke DJ uB hmr;obtain⟨za5,PI,Pj,aX⟩:=hdd EP hvs K0 Z9;obtain⟨fa,fc,rfl⟩:=zo how;clear uB hmr EP hvs K0 how hmp hsn Mt Ke DJ;by_cases Bj:i<bs.len
  .cases r with
   |nil=>exfalso;simp[Fo.len]at Z9;omega
   |text t r=>have:=d.o;cases this
   |hash r=>have:=d.o;cases this
   |put n a r=>have:=d.o;cases this
   |num n a r=>have:=d.o;cases this
   |br n a fo of y bs r=>have:=d.o;cases this
   |xi k0 a0 E r0 =>
    obtain⟨R4,ma,mc,ms,TI,Ud,lL,Ug⟩:=HN2.o;subst TI;have hwl:ws.length=us.length+(R4.length+3):=(by rw[PI.o];simp);have O:∀j v,[zO k0,.int .i64 a0,.slice ma E.len mc][j]? = some v->∃(h:i*3+j<ws.length),ws[i*3+j]=v:=by
     intro j v hj;have hj3:j<3:=by
      apply yy;intro hc;rw[uG yF]at hj;cases hj
     refine⟨by have:=Pj.o;omega,?_⟩;have h1:ws[i*3+j]? = some v:=by
      rw[PI.o,<-Pj.o,yp J,Z7,<-hj];match j,hj3 with
      | 0,_=>rfl
      | 1,_=>rfl
      | 2,_=>rfl
     exact zx6
    obtain⟨q0,p0⟩:=O 0 _ rfl;obtain⟨q1,p1⟩:=O 1 _ rfl;obtain⟨q2,p2⟩:=O 2 _ rfl;obtain⟨g2,o2,rfl,I,K,d0⟩:=IJ.o (i*3+0) q0;obtain⟨g2',o2',hgg,_,_,d1⟩:=IJ.o (i*3+1) q1;cases hgg;obtain⟨g2',o2',hgg,_,_,d2⟩:=IJ.o (i*3+2) q2;cases hgg;rw[p0]at d0;rw[p1]at d1;rw[p2]at d2;have c0:=yM L d0 I K;have c1:=yM L d1 I K;have c2:=yM L d2 I K;simp only[EK,<-uR]at c0 c1 c2;have U:=Z Ug;have k3:(i:Int)<(bs.len:Int):=J;have k4:decide ((i:Int)<(bs.len:Int))=true:=yF;have R5:(decide (k0.length<=4000001) && E.ya && decide (E.len<=2000000) && E.wf 2000000 && r0.wf 2000000)=true:=za5.o;simp only[zv,decide_eq_true_eq]at R5;obtain⟨⟨⟨⟨iA,_⟩,_⟩,_⟩,EO⟩:=R5;have V:=Z EO;have T:=Z (show r0.xm=true from d.o);have yn8:=Z (show i+(r0.len+1)=bs.len from aX.o);have P:yE wr wr (wr.alloc (.cells #[zO k0,a0,.slice ma E.len mc] 221)):=(zu _ _).alloc (Y _) _;have F:=HMP.o.below P;have Q:=F.FN Uf k0 J;obtain⟨cn,g⟩:=zw ((fm k0).getD 0);rw[g]at Q;have KM:=Z (HSN.o.more k0);rw[g]at KM;have hck:=HSN.o k0;rw[g]at hck;have QM:cn<=i:=(by have:=HSL.o;omega);have HCN:=Z g;have HCK:=Z hck.1;clear Ud lL Ug d0 d1 d2 p0 p1 p2 O g hck EO L Z9 hwl;have hwA:=zgy.trans (P.mono AZ);by_cases c:k0∈xC
    .have A:=HCK.o.2 c;have j1:decide ((0:Int)<(cn:Int))=true:=(by simp;omega);have j2:decide (0<cn)=true:=yF;have HRN:=Z (show K6 y (k0::xC) (acc++[(7,a0)]) r0=R by rw[<-OR.o,K6,yK c]);clear c;have HMA:=Z F;have HOA:=Z (C.o.QN P);clear F;go_wp2_with (at_builtin;refine gK ?_);intro W3 Yl;have b:yE (wr.alloc (.cells #[zO k0,a0,.slice ma E.len mc] 221)).heap.size (wr.alloc (.cells #[zO k0,a0,.slice ma E.len mc] 221)) W3:=Dw;have hsA:(wr.alloc (.cells #[zO k0,a0,.slice ma E.len mc] 221)).heap.size=(wr:Nat)+1:=zV;have OS:=λi=>zZ (wr.alloc (.cells #[zO k0,a0,.slice ma E.len mc] 221)) #[.int .i64 7,a0] 76 (0,0) i
     rw[<-Yl,hsA]at OS;have W:=(b.cell (p:=(zQ (wr:Nat) 0)) (by show (wr:Nat)<_;omega)).trans (zZ wr #[zO k0,a0,.slice ma E.len mc] 221 (0,0) 0);have Dy:=Z (HMA.o.below b);have HO3:=Z (HOA.o.QN b);have yyf:=b.size;have l:=hwA.trans (b.mono AZ);clear Yl;refine jx jq rfl _ _ rfl (mb+1) _ acc.length (ke acc) rfl HO3.o ⟨(wr:Nat)+1,0,none⟩ 1 1 [.int .i64 7,.int .i64 a0] rfl rfl MI ?u2 Ml J ?u3
     case u2 =>
      exact Pq
     intro v4 w4 D q;have OL:=Z (show uq (mb+1) w4 v4 (acc++[(7,a0)])by unfold uq;rw[XL,zy];exact D);have f:∀k,(ux fa acc.length fc).ownBlock=some k->mb+1<=k/\k<(wr:Nat):=λk m=>C.o.lt k m
     have hM4:=Dy.o.keep (q.block mb Dy.o.lt (λe=>by have:=f mb e.symm;omega));have z:zR w w4:=l.grown q l.size (λk m=>by have:=f k m;have:=B.o;omega);have ubd:zk w4 (wr:Nat) 0 (zO k0):=q.cell W (λe=>absurd (f _ e.symm).2 (qV _));obtain⟨fa4,fc4,rfl⟩:=zo D;obtain⟨w5,hup,x,s⟩:=hM4.put Uf k0 J ((cn:Int)+1) (cn+1) J J J;have vd7:=hM4.FN Uf k0 J;rw[HCN.o]at vd7;have HM5:=Z x;have oA:=Z (OL.o.za7 s J);have G:zR w w5:=z.grown s z.size (λk m=>by cases m;have:=B.o;omega);have M:=x.lt;have xcx:(acc.length+1)=(acc++[(7,a0)]).length:=zV;have HO6:=Z (show uq (mb+1) w5 (.slice fa4 (acc.length+1) fc4) (acc++[(7,a0)])from oA.o);clear D q f x s hM4 Q OS W xcx;go_wp2;go_roundw
     case rel=>exact⟨i+1,us++[zO k0,.int .i64 a0,.slice ma E.len mc],R4,r0,acc++[(7,a0)],k0::xC,nm+1,_,zV,J,U.o,T.o,V.o,Me,MT,Mi,G,M,HO6.o,HM5.o,J,KM.o,by simp[HSL.o],by have:=HAL.o;simp;omega,HRN.o⟩
     case measure=>simp only[intOf];omega
    .have A:¬0<cn:=λh=>c (HCK.o.1 h)
     have j1:decide ((0:Int)<(cn:Int))=false:=yF;have j2:decide (0<cn)=false:=yF;have HRN:=Z (show K6 y (k0::xC) acc r0=R by rw[<-OR.o,K6,yv c]);clear c A;obtain⟨w5,hup,x,s⟩:=F.put Uf k0 J ((cn:Int)+1) (cn+1) J J J;have HM5:=Z x;have oA:=Z ((C.o.QN P).za7 s J);have G:zR w w5:=hwA.grown s hwA.size (λk m=>by cases m;have:=B.o;omega);have M:=x.lt;clear x s F;go_wp2;go_roundw
     case rel=>exact⟨i+1,us++[zO k0,.int .i64 a0,.slice ma E.len mc],R4,r0,acc,k0::xC,nm+1,_,zV,J,U.o,T.o,V.o,Me,MT,Mi,G,M,oA.o,HM5.o,J,KM.o,by simp[HSL.o],Ml,HRN.o⟩
     case measure=>simp only[intOf];omega
  .have k4:decide ((i:Int)<(bs.len:Int))=false:=(by simp;omega);have kL:r = .nil:=by
    have:=d.o;exact WS
   have Q:(Jr 139 (.map (some mb)) (.string ⟨#[111,116,104,101,114]⟩) false).run prog wr = .ok (((fm Bo).getD 0:Nat):Int) wr:=HMP.o.FN Uf Bo zW;have N:=HSN.o Bo;obtain⟨cn,g⟩:=zw ((fm Bo).getD 0);rw[g]at Q N;have c5:=yM L HC5.o qI qX;have H:K6 y xC acc r=if Bo∈xC then acc else acc++[(6,y)]:=by rw[kL];rfl
   have HFN:=Z (H.symm.trans OR.o);have HOB:=Z (JY C.o B.o);by_cases c:Bo∈xC
   .have A:=N.1.2 c;have j1:((cn:Int)==0)=false:=(by simp;omega);have BZ:=Z (show R=acc by rw[<-HFN.o,yK c]);clear N g H c;go_wp2;go_ret;rw[BZ.o];exact⟨⟨_,rfl,HOB.o⟩,zgy⟩
   .have A:¬0<cn:=λh=>c (N.1.1 h)
    have j1:((cn:Int)==0)=true:=yF;have BZ:=Z (show R=acc++[(6,y)]by rw[<-HFN.o,yv c]);clear N g H c;go_wp2_with (at_builtin;refine gK ?_);intro W3 Yl;have b:zR wr W3:=Dw;have OS:=λi=>zZ wr #[.int .i64 6,y] 76 (0,0) i
    rw[<-Yl]at OS;have HO3:=Z (C.o.QN b);have yyf:=b.size;have l:=zgy.trans (b.mono AZ);clear Yl;refine jx jq rfl _ _ rfl (mb+1) _ acc.length (ke acc) rfl HO3.o ⟨(wr:Nat),0,none⟩ 1 1 [.int .i64 6,.int .i64 y] rfl rfl MI ?u5 Ml J ?u6
    case u5 =>
     exact Pq
    intro v4 w4 D q;have OL:=Z (JY (show uq (mb+1) w4 v4 (acc++[(6,y)])by unfold uq;rw[XL,zy];exact D) B.o);have f:∀k,(ux fa acc.length fc).ownBlock=some k->mb+1<=k:=λk m=>(C.o.lt k m).1
    have z:zR w w4:=l.grown q l.size (λk m=>by have:=f k m;have:=B.o;omega);clear D q f;go_wp2;go_ret;rw[BZ.o];exact⟨⟨_,rfl,OL.o⟩,z⟩
variable{Q:Exit->Act->z8->Prop}{W':z8}
def Qg{a:Nat}(xC:List Wd)(acc:List (Nat×Nat))(n:Nat):(if Bo∈xC then acc else acc++[(6,a)]).length<=acc.length+n+1:=by
 split
 .omega
 .rw[zy];show acc.length+1<=_;omega
def Ll(b:Nat):∀(f:Fo) (xC:List Wd) (acc:List (Nat×Nat)),(K6 b xC acc f).length<=acc.length+f.len+1
 |.xi k a m r,xC,acc=>by
  rw[K6];refine zg (Ll b r _ _) ?_;split<;>simp[Fo.len]<;>omega
 |.nil,xC,acc=>Qg xC acc _
 |.text _ _,xC,acc=>Qg xC acc _
 |.hash _,xC,acc=>Qg xC acc _
 |.put _ _ _,xC,acc=>Qg xC acc _
 |.num _ _ _,xC,acc=>Qg xC acc _
 |.br _ _ _ _ _ _ _,xC,acc=>Qg xC acc _
def jH:Fo->Nat
 |.num _ _ _=>1
 |.br _ _ f _ _ _ _=>if f=0 then 2 else 1
 |_=>0
def aV(x:Fo)(u:zx)(n:Wd)(a:Nat)(w:z8)(B:vx lo hi w0 w)(f:yY lo hi w0 [u] x)(j:zbk x=some (n,a)) :
  zE prog 83 #[u] w λe w'=>e = .returned ((jH x:Nat):Int)/\w'=w:=by
 cases x with
 |nil=>cases j
 |text t r=>cases j
 |hash r=>cases j
 |xi k0 a0 G H=>cases j
 |put n0 a0 r =>
  obtain⟨q,b0,he,b,c,g,h,i⟩:=f;cases he;have p:=aZ b0;have s:=IU b0;go_enter func83,ntmps83;exact B0
 |num n0 a0 r =>
  obtain⟨q,b0,he,b,c,g,h,i⟩:=f;cases he;have p:=XW b0;go_enter func83,ntmps83;exact B0
 |br n0 a0 fo of m bs r =>
  obtain⟨q,b0,E,F,ws,he,b,c,g,h,l,y,z,A,C,v,i⟩:=f;cases he;have p:=Qj b0;have s:=Uj b0;have c2:=yM B l b c;by_cases hf:fo=0
  .have k:=Z hf;have D:((fo:Int)==0)=true:=(by simp[hf]);clear hf;go_enter func83,ntmps83;go_wp2;go_ret;have d:jH (.br n0 a0 fo of m bs r)=2:=yK k.o;rw[d];exact⟨rfl,rfl⟩
  .have k:=Z hf;have D:((fo:Int)==0)=false:=(by simp;omega);clear hf;go_enter func83,ntmps83;go_wp2;go_ret;have d:jH (.br n0 a0 fo of m bs r)=1:=yv k.o;rw[d];exact⟨rfl,rfl⟩
abbrev KP:=(Wd->Option Nat)×List (Nat×Nat)
def uV(s:KP)(n:Wd)(a k:Nat):KP :=
 if k≠0/\(s.1 n).isSome=true/\(s.1 n).getD 0≠k then (s.1,s.2++[(5,a)])else if k≠0 then (λy=>if n=y then some k else s.1 y,s.2)else s
def gB(s:KP):Fo->Out KP
 |.br n a f o cl bs r => .go true ((uV s n a (jH (.br n a f o cl bs r))).1,(uV s n a (jH (.br n a f o cl bs r))).2++K6 cl [] [] bs)
 |.num n a _ => .go true (uV s n a 1)
 |.put n a _ => .go true (uV s n a 0)
 |_ => .go true s
def bj:pQ 190 196:=⟨underlying190,underlying196,λw=>kO⟩
structure Ub(lo hi:Nat)(w0:z8)(B:Nat)(w:z8)(s:KP)(room:Nat)(W:z8):Prop where
 keep:vx lo hi w0 W
 hiB:hi<=B
 map:∃nm,jG 196 W (B+1) nm s.1/\nm+room<=1000000000
 row:∃v,zk W B 0 v/\uq (B+3) W v s.2
 kc:zk W (B+2) 0 (.map (some (B+1)))
 fz:W.frozen? (B,0)=false
 few:s.2.length+room<=1000000000
 dD:yE B w W
def Ub.below{s:KP}{a:Nat}(h:Ub lo hi w0 B w s a W)(hb:zR W W'):Ub lo hi w0 B w s a W':=by
 obtain⟨h1,h2,⟨nm,f,b⟩,⟨v,c,g⟩,d,i,j,k⟩:=h;have e:B<(W:Nat):=X W _ c;have l:B+2<(W:Nat):=X W _ d;exact⟨h1.below hb,h2,⟨nm,f.below hb,b⟩,⟨v,(hb.cell (p:=(B,0)) e).trans c,g.QN hb⟩,(hb.cell (p:=(B+2,0)) l).trans d,(hb.frozen (p:=(B,0)) e).trans i,j,k.trans (hb.mono J)⟩
def Ub.less{s:KP}{a room':Nat}(h:Ub lo hi w0 B w s a W)(hr:room'<=a):Ub lo hi w0 B w s room' W:=by
 obtain⟨h1,h2,⟨nm,b,c⟩,d,e,f,i,g⟩:=h;exact⟨h1,h2,⟨nm,b,J⟩,d,e,f,J,g⟩
def Gl{o:je}{a:Act}{K:Act->z8->Prop}
  (s x:Operand) (q:o.op = .call { callee := .builtin .append,args:=#[s,x],argTypes:=#[189,189] })
  (base b:Nat) (v u:zx) (acc l:List (Nat×Nat)) (hs:a.eval s=v) (hF:uq base w v acc) (hx:a.eval x=u) (n:uq b w u l) (z:acc.length+l.length<=2147483648) (c:base<=(w:Nat))
  (h:∀v' w',uq base w' v' (acc++l)->w.grownBy w' v.ownBlock->K (a.put o.dst v') w'):j6 prog o a w K Q:=by
 obtain⟨i,hi,E,h2,t⟩:=jq.info;have k:=n;rcases n.2 with⟨f,hn⟩|⟨g,cap,r,f,F,G,D,A,B,H⟩
 .have C:l=[]:=zN hn;subst C;have hr:=run_append_owned_none (P:=prog) (w:=w) base 189 o.type 76 i 2 jq.under hi v acc.length (ke acc) hF;unfold j6 execOp;simp only[q,resolve,invoke,builtin,kp,wQ,XU,Jp,vV,De,hs,hx,f,hr];exact h v w (by simpa using hF) (Tr w _)
 .obtain⟨v',w',hr,k1,k2,_⟩:=run_append_own (P:=prog) w base 189 o.type 76 i _ 2 16 jq.under hi E h2 t jq.QF jq.pos v acc.length (ke acc) hF ⟨g,0,none⟩ l.length cap (ke l) (Bn l)
   (λj x hx=>by
    have p:j<(ke l).length:=(zD.1 hx).1;rw[ve,<-hx];rw[Bn]at p;obtain⟨g',m,e,_,_,d⟩:=xY k J;rw[f]at e;cases e;exact d j p)
   (λx hx=>by
    simp only[ke,List.mem_flatMap]at hx;obtain⟨y,_,hy⟩:=hx;simp at hy;rcases hy with rfl|rfl<;>rfl) dS J c
  unfold j6 execOp;simp only[q,resolve,invoke,builtin,kp,wQ,XU,Jp,vV,De,hs,hx,f,hr];exact h v' w' (by unfold uq;rw[XL,zy];exact k1) k2
variable{v':zx}
def R7(x:Fo):jH x<=2:=by
 cases x<;>simp[jH];split<;>decide
def vx.za9(h:vx lo hi w W):vx lo hi w W.drew:=h
def MC{s:KP}{c room':Nat}{row:Option Nat}{l:List (Nat×Nat)}(h:Ub lo hi w0 B w s c W)(e:W.grownBy W' row)(b:∀k,row=some k->B+3<=k)
  (hf:uq (B+3) W' v' (s.2++l)) (hr:room'+l.length<=c):Ub lo hi w0 B w (s.1,s.2++l) room' (W'.setCell (B,0) v'):=by
 obtain⟨h1,h2,⟨nm,g,m⟩,⟨v,i,u⟩,j,n,x,o⟩:=h;have d:∀k,k<B+3->(some k:Option Nat)≠row:=λk q1 q2=>by have:=b k q2.symm;omega
 have p:B<(W:Nat):=X W _ i;have hb:∀k,k<(W:Nat)->k<B+3->k≠B->(W'.setCell (B,0) v').heap[k]? = W.heap[k]? := λk q1 q2 t=>(yX _ _ _ _ t).trans (e.block k q1 (d k q2))
 have r:B+2<(W:Nat):=X W _ j;have f:(W:Nat)<=(W'.setCell (zQ B 0) v').heap.size:=zg e.size (by simp[xu]);have c0:zk W' B 0 v:=e.cell i (d B J);refine⟨⟨zg h1.1 f,λk k1 k2=>(hb k (by have:=h1.1;omega) J J).trans (h1.2 k k1 k2)⟩,h2,⟨nm,g.keep (hb (B+1) g.lt J J),J⟩,⟨v',by rw[zr,yK rfl,c0];rfl,?_⟩,
  (yD (a:=(B+2,0)) (hb (B+2) r J J)).trans j,?_,?_,?_⟩
 .exact ownsRow_setCell_below hf (a:=(B,0)) (by show B<B+3;omega) v'
 .rw[zP];exact(zU (a:=(zQ B 0)) (e.block B p (d B J))).trans n
 .show(s.2++l).length+room'<=_;exact B1
 .exact vw (o.grown e J (λk q=>by have:=b k q;omega)) (Y _)
def Ma{s:KP}{b room' nm:Nat}{f:Wd->Option Nat}(h:Ub lo hi w0 B w s b W)(hm:jG 196 W' (B+1) (nm+1) f)(d:W.grownBy W' (some (B+1)))
  (hn:nm+b<=1000000000) (hr:room'+1<=b):Ub lo hi w0 B w (f,s.2) room' W':=by
 obtain⟨h1,h2,_,⟨v,e,g⟩,i,j,n,l⟩:=h;have c:∀k,k≠B+1->(some k:Option Nat)≠some (B+1):=λk q1 q2=>q1 (by cases q2;rfl)
 have m:B<(W:Nat):=X W _ e;refine⟨⟨zg h1.1 d.size,λk k1 k2=>(d.block k (by have:=h1.1;omega) (c k J)).trans (h1.2 k k1 k2)⟩,h2,⟨nm+1,hm,J⟩,⟨v,d.cell e (c B J),g.za7 d J⟩,
  d.cell i (c (B+2) J),?_,by show s.2.length+room'<=_;omega,l.grown d J (λk q=>by cases q;omega)⟩
 exact(zU (a:=(B,0)) (d.block B m (c B J))).trans j
def yv7(x:Fo)(u:zx)(n:Wd)(a:Nat)(s:KP)(room:Nat)(W:z8)(hI:Ub lo hi w0 B w s (room+x.wt) W)(D9:yY lo hi w0 [u] x)(IF:x.wf 2000000=true)(hh:zbk x=some (n,a)) :
  zE prog 82 #[u,.agg #[zO n,a],(B+2,0),(B,0)] W (yok (Ub lo hi w0 B w) room (gB s x)):=by
 have HI:=Z hI;have HND:=Z D9;have wa:=Z IF;clear hI IF;cases x with
 |nil=>cases hh
 |text t r=>cases hh
 |hash r=>cases hh
 |xi k0 a0 m0 r0=>cases hh
 |put n0 a0 r =>
  obtain⟨vt,b0,he,qI,qX,YU,VK,uB⟩:=D9;obtain⟨rfl,rfl⟩:n=n0/\a=a0:=We;cases he;have e1:=IU b0;have HI:=Z (show Ub lo hi w0 B w s (room+1) W from HI.o);have IG:n.length<=4000001:=zqy;obtain⟨kv,v⟩:=zw (jH (.put n a r));have g:=Z (λW' hk=>aV (.put n a r) (.iface 210 (zQ b0 0)) n a W' hk HND.o rfl);have HKV:=Z v;rw[v]at g;clear v;go_enter func82,ntmps82;go_wp2_with fail;have E:yE W W (W.alloc (.cells #[zO n,a] 195)):=(zu _ _).alloc (Y _) _;have f:=λi=>zZ W #[zO n,a] 195 (0,0) i
  have c:=HI.o.below E;obtain⟨W1,D⟩:=zw (W.alloc (.cells #[zO n,a] 195));rw[D]at f c|-;have EM:=f 0;have hh1:=f 1;clear D f E;refine(g.o W1 c.keep).mono ?_;rintro e M ⟨rfl,rfl⟩;obtain⟨nm,A,hnm⟩:=c.map;obtain⟨fv,S,p⟩:=c.row;obtain⟨fa,fc,rfl⟩:=zo p;have TO:=A.look bj n J;have wo:=c.kc;have hfz:=c.fz;have xcv:=c.few;have G9:=Z c;have Q:=Z A;have O:=Z p;have DG:B+2<(M:Nat):=X M _ wo;clear c A p;obtain⟨T,q⟩:=zw ((s.1 n).getD 0);obtain⟨bb,m⟩:=zw ((s.1 n).isSome);rw[q,m]at TO;have P:=Z q;have HBB:=Z m;clear q m g;have iA:kv=0:=HKV.o.symm;subst iA;have HF:=Z (G9.o.less (room':=room) J);go_wp2;go_ret;have hch:gB s (.put n a r) = .go true s:=by show Out.go true (uV s n a 0)=_;unfold uV;simp
  exact Wp
 |num n0 a0 r =>
  obtain⟨vt,b0,he,qI,qX,YU,VK,uB⟩:=D9;obtain⟨rfl,rfl⟩:n=n0/\a=a0:=We;cases he;have e1:=pV b0;have HI:=Z (show Ub lo hi w0 B w s (room+1) W from HI.o);have IG:n.length<=4000001:=zqy;obtain⟨kv,v⟩:=zw (jH (.num n a r));have g:=Z (λW' hk=>aV (.num n a r) (.iface 213 (zQ b0 0)) n a W' hk HND.o rfl);have HKV:=Z v;rw[v]at g;clear v;go_enter func82,ntmps82;go_wp2_with fail;have E:yE W W (W.alloc (.cells #[zO n,a] 195)):=(zu _ _).alloc (Y _) _;have f:=λi=>zZ W #[zO n,a] 195 (0,0) i
  have c:=HI.o.below E;obtain⟨W1,D⟩:=zw (W.alloc (.cells #[zO n,a] 195));rw[D]at f c|-;have EM:=f 0;have hh1:=f 1;clear D f E;refine(g.o W1 c.keep).mono ?_;rintro e M ⟨rfl,rfl⟩;obtain⟨nm,A,hnm⟩:=c.map;obtain⟨fv,S,p⟩:=c.row;obtain⟨fa,fc,rfl⟩:=zo p;have TO:=A.look bj n J;have wo:=c.kc;have hfz:=c.fz;have xcv:=c.few;have G9:=Z c;have Q:=Z A;have O:=Z p;have DG:B+2<(M:Nat):=X M _ wo;clear c A p;obtain⟨T,q⟩:=zw ((s.1 n).getD 0);obtain⟨bb,m⟩:=zw ((s.1 n).isSome);rw[q,m]at TO;have P:=Z q;have HBB:=Z m;clear q m g;have yp6:kv≠0:=by rw[<-HKV.o];exact Nat.one_ne_zero
  have vd9:kv<=2:=by rw[<-HKV.o];exact R7 _
  have j1:((kv:Int) !=0)=true:=yF;have j1':((kv:Int)==0)=false:=yF;have I:=Z yp6;cases bb with
  |false =>
   obtain⟨N,hup,EO,VA⟩:=Q.o.put bj n J (kv:Int) kv rfl J J;have Vk:=Z (show uV s n a kv=(λy=>if n=y then some kv else s.1 y,s.2)by unfold uV;rw[yv (λe=>zdj),yK I.o]);exact zdy
  |true =>
   by_cases b:T=kv
   .have j2:((T:Int) !=(kv:Int))=false:=(by simp[b]);have j3:(T !=kv)=false:=(by simp[b]);have d:=Z b;clear b;obtain⟨N,hup,EO,VA⟩:=Q.o.put bj n J (kv:Int) kv rfl J J;have Vk:=Z (show uV s n a kv=(λy=>if n=y then some kv else s.1 y,s.2)by unfold uV;rw[yv (λe=>e.2.2 (by rw[P.o];exact d.o)),yK I.o]);exact zdy
   .have j2:((T:Int) !=(kv:Int))=true:=(by simp;omega);have j3:(T !=kv)=true:=(by simp[b]);have d:=Z b;clear b;go_wp2_with (at_builtin;refine gK ?_);intro W3 Yl;have C:zR M W3:=Dw;have OS:=λi=>zZ M #[.int .i64 5,a] 76 (0,0) i
    rw[<-Yl]at OS;have HI3:=Z (G9.o.below C);have H:=(C.cell (X _ _ S)).trans S;have HO3:=Z (O.o.QN C);have yyf:=C.size;clear Yl;refine jx jq rfl _ _ rfl (B+3) _ s.2.length (ke s.2) rfl HO3.o ⟨(M:Nat),0,none⟩ 1 1 [.int .i64 5,.int .i64 a] rfl rfl MI ?w5V2 J J ?w5V3
    case w5V2 =>
     exact Pq
    intro v4 w4 B8 VA;have L:uq (B+3) w4 v4 (s.2++[(5,a)]):=zu4;have uW:∀k,(ux fa s.2.length fc).ownBlock=some k->B+3<=k:=λk hk=>(O.o.lt k hk).1
    have gN:∀k,k<B+3->(some k:Option Nat)≠(ux fa s.2.length fc).ownBlock:=λk h1 h2=>WX
    have q4:=VA.cell H (gN B J);have z4:w4.frozen? (zQ B 0)=false:=(zU (a:=(zQ B 0)) (VA.block B (X _ _ H) (gN B J))).trans HI3.o.fz;have Vk:=Z (show uV s n a kv=(s.1,s.2++[(5,a)])by unfold uV;rw[yK ⟨I.o,HBB.o,λe=>d.o (P.o.symm.trans e)⟩]);have HF:=Z (MC (l:=[(5,a)]) (room':=room) HI3.o VA uW L (by simp<;>omega));obtain⟨fa4,fc4,rfl⟩:=zo L;obtain⟨N,R⟩:=zw (w4.setCell (zQ B 0) (.slice fa4 (s.2.length+1) fc4));have z:(s.2++[(5,a)]).length=s.2.length+1:=zV;rw[z,R]at HF;have HW4:=Z R;clear B8 VA uW L gN H HO3 z;go_wp2;go_ret;have hch:gB s (.num n a r) = .go true ((s.1,s.2++[(5,a)]):KP):=(by show Out.go true (uV s n a 1)=_;rw[show(1:Nat)=kv from HKV.o,Vk.o]);exact Wp
 |br n0 a0 fo of cl bs r =>
  obtain⟨vt,b0,ba,bc,ws,he,qI,qX,YU,VK,XY,IK,DL,R3,Bf,Dz,uB⟩:=D9;obtain⟨rfl,rfl⟩:n=n0/\a=a0:=We;cases he;have e1:=Uj b0;have HI:=Z (show Ub lo hi w0 B w s (room+(2+bs.len)) W from HI.o);have IG:n.length<=4000001:=by have:=wa.o;simp[Fo.wf]at this;exact this.1.1.1.1.1
  have aU:=Z (show yY lo hi w0 [.iface 199 (zQ b0 0)] (.br n a fo of cl bs .nil) from⟨[],b0,ba,bc,ws,rfl,qI,qX,YU,VK,XY,IK,DL,R3,Bf,Dz,rfl⟩);have Bp:=Z (show(Fo.br n a fo of cl bs .nil).wf 2000000=true by have:=wa.o;simp[Fo.wf]at this|-;exact this.1);obtain⟨kv,v⟩:=zw (jH (.br n a fo of cl bs r));have g:=Z (λW' hk=>aV (.br n a fo of cl bs r) (.iface 199 (zQ b0 0)) n a W' hk HND.o rfl);have HKV:=Z v;rw[v]at g;clear v;go_enter func82,ntmps82;go_wp2_with fail;have E:yE W W (W.alloc (.cells #[zO n,a] 195)):=(zu _ _).alloc (Y _) _;have f:=λi=>zZ W #[zO n,a] 195 (0,0) i
  have c:=HI.o.below E;obtain⟨W1,D⟩:=zw (W.alloc (.cells #[zO n,a] 195));rw[D]at f c|-;have EM:=f 0;have hh1:=f 1;clear D f E;refine(g.o W1 c.keep).mono ?_;rintro e M ⟨rfl,rfl⟩;obtain⟨nm,A,hnm⟩:=c.map;obtain⟨fv,S,p⟩:=c.row;obtain⟨fa,fc,rfl⟩:=zo p;have TO:=A.look bj n J;have wo:=c.kc;have hfz:=c.fz;have xcv:=c.few;have G9:=Z c;have Q:=Z A;have O:=Z p;have DG:B+2<(M:Nat):=X M _ wo;clear c A p;obtain⟨T,q⟩:=zw ((s.1 n).getD 0);obtain⟨bb,m⟩:=zw ((s.1 n).isSome);rw[q,m]at TO;have P:=Z q;have HBB:=Z m;clear q m g;have yp6:kv≠0:=by rw[<-HKV.o];by_cases h:fo=0<;>simp[jH,h]
  have vd9:kv<=2:=by rw[<-HKV.o];exact R7 _
  have j1:((kv:Int) !=0)=true:=yF;have j1':((kv:Int)==0)=false:=yF;have I:=Z yp6;cases bb with
  |false =>
   obtain⟨N,hup,EO,VA⟩:=Q.o.put bj n J (kv:Int) kv rfl J J;have Vk:=Z (show uV s n a kv=(λy=>if n=y then some kv else s.1 y,s.2)by unfold uV;rw[yv (λe=>zdj),yK I.o]);have HF:=Z (Ma G9.o EO VA (room':=(room+1+bs.len)) hnm J);clear EO VA;obtain⟨s1,G⟩:∃s1:KP,((λy=>if n=y then some kv else s.1 y,s.2):KP)=s1:=⟨_,rfl⟩;rw[G]at Vk HF;clear G;go_wp2_with fail;have q1:=HF.o.row;obtain⟨v1,q2,H⟩:=q1;obtain⟨fa1,fc1,rfl⟩:=zo H;have U:=Z (λW' hk=>XA b0 n a fo of cl bs W' hk aU.o Bp.o);have HQ3:=Z H;refine Dp (λW':z8=>zk W' B 0 (.slice fa1 (s1).2.length fc1)) 4 [0,1] 3 q2 ?_;refine dF 2 (λK hK=>?_);go_simp;refine(U.o N.drew HF.o.keep.za9).mono ?_;rintro e W5 ⟨⟨vb,rfl,F⟩,ZV⟩;have Dv:zR N W5:=(zu _ N).drew.trans ZV;have j:=HF.o.below Dv;have q5:zk W5 B 0 (.slice fa1 (s1).2.length fc1):=(Dv.cell (X _ _ q2)).trans q2;have q6:=HQ3.o.QN Dv;have z5:=j.fz;have HI5:=Z j;have V:=Z F;clear j F;refine hK.out _ _ q5 λ_=>?_;clear hK K;refine dF 3 (λK hK=>?_);rw[yK (by rfl)];refine Gl _ _ rfl (B+3) _ _ vb (s1).2 (K6 cl [] [] bs) rfl q6 rfl V.o ?w8X1 AM ?w8X3
   case w8X1 =>
    exact Wv
   case w8X3 =>
    exact AV
  |true =>
   by_cases b:T=kv
   .have j2:((T:Int) !=(kv:Int))=false:=(by simp[b]);have j3:(T !=kv)=false:=(by simp[b]);have d:=Z b;clear b;obtain⟨N,hup,EO,VA⟩:=Q.o.put bj n J (kv:Int) kv rfl J J;have Vk:=Z (show uV s n a kv=(λy=>if n=y then some kv else s.1 y,s.2)by unfold uV;rw[yv (λe=>e.2.2 (by rw[P.o];exact d.o)),yK I.o]);have HF:=Z (Ma G9.o EO VA (room':=(room+1+bs.len)) hnm J);clear EO VA;obtain⟨s1,G⟩:∃s1:KP,((λy=>if n=y then some kv else s.1 y,s.2):KP)=s1:=⟨_,rfl⟩;rw[G]at Vk HF;clear G;go_wp2_with fail;have q1:=HF.o.row;obtain⟨v1,q2,H⟩:=q1;obtain⟨fa1,fc1,rfl⟩:=zo H;have U:=Z (λW' hk=>XA b0 n a fo of cl bs W' hk aU.o Bp.o);have HQ3:=Z H;refine Dp (λW':z8=>zk W' B 0 (.slice fa1 (s1).2.length fc1)) 4 [0,1] 3 q2 ?_;refine dF 2 (λK hK=>?_);go_simp;refine(U.o N.drew HF.o.keep.za9).mono ?_;rintro e W5 ⟨⟨vb,rfl,F⟩,ZV⟩;have Dv:zR N W5:=(zu _ N).drew.trans ZV;have j:=HF.o.below Dv;have q5:zk W5 B 0 (.slice fa1 (s1).2.length fc1):=(Dv.cell (X _ _ q2)).trans q2;have q6:=HQ3.o.QN Dv;have z5:=j.fz;have HI5:=Z j;have V:=Z F;clear j F;refine hK.out _ _ q5 λ_=>?_;clear hK K;refine dF 3 (λK hK=>?_);rw[yK (by rfl)];refine Gl _ _ rfl (B+3) _ _ vb (s1).2 (K6 cl [] [] bs) rfl q6 rfl V.o ?w9X1 AM ?w9X3
    case w9X1 =>
     exact Wv
    case w9X3 =>
     exact AV
   .have j2:((T:Int) !=(kv:Int))=true:=(by simp;omega);have j3:(T !=kv)=true:=(by simp[b]);have d:=Z b;clear b;go_wp2_with (at_builtin;refine gK ?_);intro W3 Yl;have C:zR M W3:=Dw;have OS:=λi=>zZ M #[.int .i64 5,a] 76 (0,0) i
    rw[<-Yl]at OS;have HI3:=Z (G9.o.below C);have H:=(C.cell (X _ _ S)).trans S;have HO3:=Z (O.o.QN C);have yyf:=C.size;clear Yl;refine jx jq rfl _ _ rfl (B+3) _ s.2.length (ke s.2) rfl HO3.o ⟨(M:Nat),0,none⟩ 1 1 [.int .i64 5,.int .i64 a] rfl rfl MI ?w10V2 J J ?w10V3
    case w10V2 =>
     exact Pq
    intro v4 w4 B8 VA;have L:uq (B+3) w4 v4 (s.2++[(5,a)]):=zu4;have uW:∀k,(ux fa s.2.length fc).ownBlock=some k->B+3<=k:=λk hk=>(O.o.lt k hk).1
    have gN:∀k,k<B+3->(some k:Option Nat)≠(ux fa s.2.length fc).ownBlock:=λk h1 h2=>WX
    have q4:=VA.cell H (gN B J);have z4:w4.frozen? (zQ B 0)=false:=(zU (a:=(zQ B 0)) (VA.block B (X _ _ H) (gN B J))).trans HI3.o.fz;have Vk:=Z (show uV s n a kv=(s.1,s.2++[(5,a)])by unfold uV;rw[yK ⟨I.o,HBB.o,λe=>d.o (P.o.symm.trans e)⟩]);have HF:=Z (MC (l:=[(5,a)]) (room':=(room+1+bs.len)) HI3.o VA uW L (by simp<;>omega));obtain⟨fa4,fc4,rfl⟩:=zo L;obtain⟨N,R⟩:=zw (w4.setCell (zQ B 0) (.slice fa4 (s.2.length+1) fc4));have z:(s.2++[(5,a)]).length=s.2.length+1:=zV;rw[z,R]at HF;have HW4:=Z R;clear B8 VA uW L gN H HO3 z;obtain⟨s1,G⟩:∃s1:KP,((s.1,s.2++[(5,a)]):KP)=s1:=⟨_,rfl⟩;rw[G]at Vk HF;clear G;go_wp2_with fail;clear R;have q1:=HF.o.row;obtain⟨v1,q2,H⟩:=q1;obtain⟨fa1,fc1,rfl⟩:=zo H;have U:=Z (λW' hk=>XA b0 n a fo of cl bs W' hk aU.o Bp.o);have HQ3:=Z H;refine Dp (λW':z8=>zk W' B 0 (.slice fa1 (s1).2.length fc1)) 4 [0,1] 3 q2 ?_;refine dF 2 (λK hK=>?_);go_simp;refine(U.o N.drew HF.o.keep.za9).mono ?_;rintro e W5 ⟨⟨vb,rfl,F⟩,ZV⟩;have Dv:zR N W5:=(zu _ N).drew.trans ZV;have j:=HF.o.below Dv;have q5:zk W5 B 0 (.slice fa1 (s1).2.length fc1):=(Dv.cell (X _ _ q2)).trans q2;have q6:=HQ3.o.QN Dv;have z5:=j.fz;have HI5:=Z j;have V:=Z F;clear j F;refine hK.out _ _ q5 λ_=>?_;clear hK K;refine dF 3 (λK hK=>?_);rw[yK xG];refine Gl _ _ rfl (B+3) _ _ vb (s1).2 (K6 cl [] [] bs) rfl q6 rfl V.o ?w10X1 AM ?w10X3
    case w10X1 =>
     exact Wv
    case w10X3 =>
     exact AV
def Gm(m:Nat×Nat)(l:List (Nat×Nat)):Nat×Nat:=l.foldl (λm x=>if x.2<m.2 then x else m) m
abbrev aQ(x:Nat×Nat):zx := .agg #[(x.1:Nat),(x.2:Nat)]
def aK(x y:Nat×Nat)(w:z8):zE prog 86 #[aQ x,aQ y] w λe w'=>e = .returned (.int .i64 (V8 (x.2:Nat) (y.2:Nat)))/\zR w w':=by
 have a:=Z (λW=>Tryz.cmp_Compare_int (x.2:Nat) (y.2:Nat) W);go_enter func86,ntmps86;go_wp2_with fail;refine(a.o _).mono ?_;rintro e w' ⟨rfl,rfl⟩;go_wp2;go_ret;exact zg7
def Br(l:List (Nat×Nat))(i:Nat)(h:i<l.length):(ke l)[i*2]? = some (.int .i64 (l[i].1:Nat))/\(ke l)[i*2+1]? = some (.int .i64 (l[i].2:Nat)):=by
 induction l generalizing i with
 |nil=>simp at h
 |cons a t d =>
  cases i with
  |zero=>exact⟨rfl,rfl⟩
  |succ i =>
   have:=d i (by simpa using h);have b:(i+1)*2=i*2+2:=J;have c:ke (a::t) = .int .i64 (a.1:Nat) :: .int .i64 (a.2:Nat)::ke t:=rfl;rw[b,c];simpa using this
def pK(m:Nat×Nat)(l:List (Nat×Nat))(i:Nat)(h:i<l.length):Gm m (l.take (i+1))=if l[i].2<(Gm m (l.take i)).2 then l[i]else Gm m (l.take i):=by
 unfold Gm;rw[yj h,TF];rfl
def R8(x:Nat×Nat)(l:List (Nat×Nat))(base:Nat)(v:zx)(w:z8)(hl:l.length<=2000000000)(hF:uq base w v (x::l)) :
  zE prog 85 #[v,.func (.func 86) #[] #[]] w λe w'=>e = .returned (aQ (Gm x l))/\zR w w':=by
 obtain⟨g,cap,rfl,FD,Ik,f⟩:=xY hF zV;obtain⟨n,hn⟩:=zw ((x::l).length);have p7:=λ(args:Array zx) (w:z8)=>enters_of func86 yg rfl args w
 have c:=Z (λi (h:i<(x::l).length)=>zf ((f (i*2) J).trans (Br (x::l) i h).1) ((f (i*2+1) J).trans (Br (x::l) i h).2));have b:=(c.o 0 zV).1;have d:=(c.o 0 zV).2;simp only[vz0,uE,List.getElem_cons_zero]at b d;obtain⟨x1,x2⟩:=x;have R:n=l.length+1:=by rw[<-hn];simp
 have j1:decide ((n:Int)<1)=false:=yF;have HN:=Z hn;rw[hn];have HN1:=Z R;have hz:1<=n:=J;have EE:n<=2000000001:=J;have P:g<(w:Nat):=Ik;clear hF f hn R;have F:yE w w ((w.alloc (.cells #[.int .i64 0,.int .i64 0] 76)).alloc (.cells #[x1,x2] 76)):=((zu _ _).alloc (Y _) _).alloc zV _;have A:=λi=>zZ (w.alloc (.cells #[.int .i64 0,.int .i64 0] 76)) #[x1,x2] 76 (0,0) i
 have q:∀i,((w.alloc (.cells #[.int .i64 0,.int .i64 0] 76)).alloc (.cells #[x1,x2] 76)).cell? ⟨(w:Nat),i,none⟩=(#[.int .i64 0,.int .i64 0]:Array zx)[i]? := λi=>by
  rw[zc _ _ _ (by show (w:Nat)<_;simp)];exact zZ w _ _ _ _
 rw[show(w.alloc (.cells #[.int .i64 0,.int .i64 0] 76)).heap.size=(w:Nat)+1 by simp]at A;have t:∀i,((w.alloc (.cells #[.int .i64 0,.int .i64 0] 76)).alloc (.cells #[x1,x2] 76)).frozen? ⟨(w:Nat)+1,i,none⟩=false:=λi=>by
  rw[show (w:Nat)+1=(w.alloc (.cells #[.int .i64 0,.int .i64 0] 76)).heap.size by simp];simp
 have s:∀i,((w.alloc (.cells #[.int .i64 0,.int .i64 0] 76)).alloc (.cells #[x1,x2] 76)).frozen? ⟨(w:Nat),i,none⟩=false:=λi=>by
  rw[zU (xQ _ _ _ (by show (w:Nat)<_;simp))];simp
 obtain⟨W0,E⟩:=zw ((w.alloc (.cells #[.int .i64 0,.int .i64 0] 76)).alloc (.cells #[x1,x2] 76));rw[E]at F A q s t;obtain⟨U,HW0,L,M,V,EN⟩:=ED F E A q s t;clear F A q s t E;go_enter func85,ntmps85;go_wp2_with fail;clear b d;go_loopw [6] (λiv wr=>∃(i:Nat) (m:Nat×Nat),iv = .int .i64 (i:Nat)/\1<=i/\i<=n/\Gm (x1,x2) (l.take (i - 1))=m/\zk wr ((w:Nat)+1) 0 (m.1:Nat)/\zk wr ((w:Nat)+1) 1 (m.2:Nat)/\(∀i,wr.frozen? ⟨(w:Nat)+1,i,none⟩=false) /\
  (∃u v,zk wr (w:Nat) 0 u/\zk wr (w:Nat) 1 v)/\(∀i,wr.frozen? ⟨(w:Nat),i,none⟩=false)/\zR w wr) (λiv _=>n - (intOf iv).toNat)
 case atStart =>
  rw[HW0.o];exact⟨1,(x1,x2),rfl,Y _,hz,rfl,L.o 0,L.o 1,EN.o,⟨_,_,M.o 0,M.o 1⟩,V.o,U.o⟩
 case round =>
  obtain⟨i,m,rfl,hi1,AJ,hm,b,d,S,⟨u0,v0,q,G⟩,B,O⟩:=hrel;obtain⟨m1,m2⟩:=m;dsimp only at b d;obtain⟨HM,HZ1,HZ0,z⟩:=hdd hm S B O;clear hm O;by_cases uh:i<n
  .have k2:decide ((i:Int)<(n:Int))=true:=(by simp;omega);have D:i<((x1,x2)::l).length:=Vv;obtain⟨d0,d1⟩:=c.o i D;have Q:((x1,x2)::l)[i]=l[i - 1]' Mx:=by
    obtain⟨k,rfl⟩:∃k,i=k+1:=⟨i - 1,J⟩;simp
   rw[Q]at d0 d1;obtain⟨y,hy⟩:∃y,l[i - 1]' Mx=y:=⟨_,rfl⟩;rw[hy]at d0 d1;have Vq:=Z (show Gm (x1,x2) (l.take i)=if y.2<m2 then y else (m1,m2) by
    have h:=pK (x1,x2) l (i - 1) Mx;rw[show i - 1+1=i by omega,HM.o,hy]at h;exact h)
   obtain⟨T,r⟩:=y;dsimp only at d0 d1 Vq;have e0:=(z.o.cell (p:=(zQ g (i*2))) P).trans d0;have e1:=(z.o.cell (p:=(zQ g (i*2+1))) P).trans d1;have hCM:=Z (λW=>aK (T,r) (m1,m2) W);have N:zk wr.drew g (i*2) T/\zk wr.drew g (i*2+1) r/\zk wr.drew ((w:Nat)+1) 0 m1/\zk wr.drew ((w:Nat)+1) 1 m2:=⟨e0,e1,b,d⟩;clear d0 d1 hy Q D;go_wp2_with fail;refine Vy (λW':z8=>zk W' g (i*2) T/\zk W' g (i*2+1) r/\zk W' ((w:Nat)+1) 0 m1/\zk W' ((w:Nat)+1) 1 m2) [0,1,2,3,4,5] 2 N ?_;refine gU 6 (λK hK=>?_);go_simp;refine(hCM.o wr.drew).mono ?_;rintro e w2 ⟨rfl,qX⟩;have a:zR wr w2:=(zu _ wr).drew.trans qX;have H:(w:Nat)+1<(wr:Nat):=X _ _ b;have QM:(r<m2/\V8 (r:Int) (m2:Int) = -1)\/(¬r<m2/\V8 (r:Int) (m2:Int)=0)\/(¬r<m2/\V8 (r:Int) (m2:Int)=1):=by
    unfold V8;by_cases h:(r:Int)<(m2:Int)
    .exact .inl ⟨J,yK h⟩
    .by_cases h2:(r:Int) > (m2:Int)
     .exact .inr (.inr ⟨J,by rw[yv h,yK h2]⟩)
     .exact .inr (.inl ⟨J,by rw[yv h,yv h2]⟩)
   dsimp only;have f0:=(a.cell (p:=((w:Nat)+1,0)) H).trans b;have f1:=(a.cell (p:=((w:Nat)+1,1)) H).trans d;have f2:=(a.cell (p:=⟨g,i*2,none⟩) (by show g<_;omega)).trans e0;have f3:=(a.cell (p:=⟨g,i*2+1,none⟩) (by show g<_;omega)).trans e1;have g0:=(a.cell (p:=(w,0)) AL).trans q;have g1:=(a.cell (p:=(w,1)) (by show (w:Nat)<_;omega)).trans G;have z1:∀i,w2.frozen? ⟨(w:Nat)+1,i,none⟩=false:=λi=>(a.frozen (p:=⟨(w:Nat)+1,i,none⟩) H).trans (HZ1.o i)
   have z0:∀i,w2.frozen? ⟨(w:Nat),i,none⟩=false:=λi=>(a.frozen (p:=⟨(w:Nat),i,none⟩) AL).trans (HZ0.o i)
   have xdk:=z.o.trans (a.mono J);have xdu:=Z z1;have xdq:=Z z0;have y0:=z1 0;have y1':=z1 1;clear z1 z0 N e0 e1 b d q G a;rcases QM with⟨hy,QM⟩|⟨hy,QM⟩|⟨hy,QM⟩
   .rw[QM];have HS:=Z (Vq.o.trans (yK hy));clear QM hy;refine hK.out _ _ ⟨f2,f3,f0,f1⟩ λ_=>?_;clear hK K;refine Ve [7] 0 ⟨f2,f3,f0,f1⟩ ?_;refine Y5 ?_ _;go_wp2;go_roundw
    case rel =>
     exact⟨i+1,(T,r),zV,J,J,by rw[Z3];exact HS.o,by rw[zr,yv zV,zr,yK rfl,f0];rfl,by rw[zr,yK rfl,zr,yv zV,f1];rfl,
      λj=>by rw[zP,zP];exact xdu.o j,⟨_,_,(by rw[zr,yv zV,zr,yv zV];exact g0),(by rw[zr,yv zV,zr,yv zV];exact g1)⟩,
      λj=>by rw[zP,zP];exact xdq.o j,vw (vw xdk J) J⟩
    case measure=>simp only[intOf];omega
   .exact zd0
   .exact zd0
  .have k2:decide ((i:Int)<(n:Int))=false:=(by simp;omega);have C:Gm (x1,x2) l=(m1,m2):=by
    rw[<-HM.o,ye Mx]
   have I:=Z C;have z00:=B 0;have z01:=B 1;clear C B S;have k0:zk ((wr.setCell (zQ (w:Nat) 0) m1).setCell (zQ (w:Nat) 1) m2) (w:Nat) 0 m1:=(by rw[zr,yv zV,zr,yK rfl,q];rfl);have k1:zk ((wr.setCell (zQ (w:Nat) 0) m1).setCell (zQ (w:Nat) 1) m2) (w:Nat) 1 m2:=(by rw[zr,yK rfl,zr,yv zV,G];rfl);go_wp2;refine yU (v := .agg #[m1,m2]) ?_ rfl ?_
   .simp[yN,results85,go_sem,k0,k1]
   rw[I.o];exact⟨rfl,vw (vw z.o (Y _)) (Y _)⟩
def aJ(s:KP)(x:Fo):∃s',gB s x = .go true s':=by
 cases x<;>exact⟨_,rfl⟩
def jk:∀(f:Fo) (s:KP),∃s',vg gB f s = .go true s'
 |.nil,s=>⟨s,rfl⟩
 |.text _ r,s=>jk r s
 |.hash r,s=>jk r s
 |.put n a r,s=>by
  obtain⟨b,h1⟩:=aJ s (.put n a .nil);rw[vg,h1];exact jk r b
 |.num n a r,s=>by
  obtain⟨b,h1⟩:=aJ s (.num n a .nil);rw[vg,h1];exact jk r b
 |.br n a f o c bs r,s=>by
  obtain⟨b,h1⟩:=aJ s (.br n a f o c bs .nil);obtain⟨d,h2⟩:=jk bs b;rw[vg,h1];show ∃s',(vg gB bs b).then _=_;rw[h2];exact jk r d
 |.xi k a m r,s=>by
  obtain⟨b,h1⟩:=jk m s;rw[vg,h1];exact jk r b
def gO(f:Fo):List (Nat×Nat):=match vg gB f (λ_=>none,[])with |.go _ s=>s.2 |.TM _ s=>s.2
def fD(f:Fo):Option (Nat×Nat):=match gO f with |[]=>none|x::l=>some (Gm x l)
def vdz(r:Option (Nat×Nat))(w:z8)(e:xX)(w':z8):Prop :=
 (match r with
  |none=>e = .returned .nilIface
  |some (n,a)=>∃b,e = .returned (.iface 72 (.pointer (some ⟨b,0,none⟩)))/\zk w' b 0 n/\zk w' b 1 a)/\zR w w'
def pJ(f:Fo)(a:Option yI)(c:Nat)(vs:List zx)(w:z8)(hm:f.ya=true)(hw:f.wf 2000000=true)(hl:f.len<=2000000)(hc:f.cnt<=1000000000)(t:Uv lo hi w a vs)(r:yY lo hi w vs f)(hhi:hi<=(w:Nat)) :
  zE prog 40 #[.slice a f.len c] w (vdz (fD f) w):=by
 have Ew:=@run_makeMap prog;have hmf:∀(fn:Fn) (first cap:Array zx) (w:z8),(qA fn first cap).run prog w = .ok (.func fn first cap) w:=λ_ _ _ _=>rfl
 obtain⟨B,hB⟩:=zw (w:Nat);have HB:=Z hB;have S:aj lo hi w (.func (.func 82) #[] #[(B+2,0),(B,0)]) (Ub lo hi w B w) gB :=
  ⟨⟨_,_,rfl,λargs w=>enters_of func82 yg rfl args w,λs F W x u n a K N P hh=>yv7 x u n a s F W K N P hh⟩,λs b W h=>h.keep,λs b W W' h hb=>h.below hb,λs b b' W h hb=>h.less hb⟩
 have H:=Z (λW K=>R6 S (zH f+1) f (dK _) hm hw hl ((λ_=>none),[]) 0 W a c vs K t r);obtain⟨s,hs⟩:=jk f ((λ_=>none),[]);rw[hs]at H;have D:gO f=s.2:=Ws;have y:=Z (show fD f=match s.2 with |[]=>none|x::l=>some (Gm x l)by unfold fD;rw[D]);have O:∀V o2 o3,((w.alloc V).alloc o2).alloc o3=((w.alloc V).alloc o2).alloc o3:=λ_ _ _=>rfl
 have A:Ub lo hi w B w ((λ_=>none),[]) (0+f.cnt) (((w.alloc (.cells #[.slice none 0 0] 189)).alloc (.map #[] 0)).alloc (.cells #[.map (some (B+1))] 190)):=by
  have h1:(w.alloc (.cells #[.slice none 0 0] 189)).heap.size=B+1:=by simp[hB]
  have h2:((w.alloc (.cells #[.slice none 0 0] 189)).alloc (.map #[] 0)).heap.size=B+2:=by simp[hB]
  have b1:yE w w (w.alloc (.cells #[.slice none 0 0] 189)):=(zu _ _).alloc (Y _) _;have b2:=λo=>(zu (w.alloc (.cells #[.slice none 0 0] 189)).heap.size (w.alloc (.cells #[.slice none 0 0] 189))).alloc (Y _) o
  have b3:=λo=>(zu ((w.alloc (.cells #[.slice none 0 0] 189)).alloc (.map #[] 0)).heap.size ((w.alloc (.cells #[.slice none 0 0] 189)).alloc (.map #[] 0))).alloc (Y _) o
  have R:=(b1.trans ((b2 (.map #[] 0)).mono J)).trans ((b3 (.cells #[.map (some (B+1))] 190)).mono J);have c1:=zZ w #[.slice none 0 0] 189 (0,0) 0;rw[hB]at c1;have Q:(w.alloc (.cells #[.slice none 0 0] 189)).frozen? (zQ B 0)=false:=by rw[<-hB];simp
  have c2:=jG.made 196 (w.alloc (.cells #[.slice none 0 0] 189));rw[h1]at c2;have c3:=zZ ((w.alloc (.cells #[.slice none 0 0] 189)).alloc (.map #[] 0)) #[.map (some (B+1))] 190 (0,0) 0;rw[h2]at c3;refine⟨(vH J).below R,J,⟨0,c2.below (b3 _),J⟩,⟨.slice none 0 0,?_,xz _ _ _ _⟩,c3,?_,yF,by have h:=R;rw[hB]at h;exact h⟩
  .rw[(b3 _).cell (p:=(zQ B 0)) MV,(b2 _).cell (p:=(zQ B 0)) MV];exact c1
  .rw[(b3 _).frozen (p:=(zQ B 0)) MV,(b2 _).frozen (p:=(zQ B 0)) MV];exact Q
 have z:=Z A;clear A hs D S O t r;go_enter func40,ntmps40;go_wp2_with fail;refine(H.o _ z.o).mono ?_;rintro e w2 ⟨rfl,j⟩;obtain⟨v,hc,hF⟩:=j.row;obtain⟨fa,fc,rfl⟩:=zo hF;have HF:=Z hF;have d:zR w w2:=by rw[HB.o];exact j.dD
 have k:=j.few;clear j hF H z;obtain⟨s1,l⟩:=s;dsimp only at *;cases l with
 |nil =>
  have G:=Z (show fD f=none from y.o);go_wp2;go_ret;rw[G.o];exact⟨rfl,d⟩
 |cons x l =>
  have G:=Z (show fD f=some (Gm x l)from y.o);have q:(x::l).length=l.length+1:=rfl;rw[q]at hc;have j1:(((l.length+1:Nat):Int)==0)=false:=yF;have I:=Z (R8 x l (B+3) (.slice fa (l.length+1) fc) w2 (by simp at k;omega) HF.o);clear q k;go_wp2_with fail;refine I.o.mono ?_;rintro e w3 ⟨rfl,M⟩;obtain⟨m,E⟩:=zw (Gm x l);obtain⟨T,U⟩:=m;rw[E]at G|-;clear E;have g:=d.trans (M.mono d.size);have L:=(zu (w3:Nat) w3).alloc (Y _) (.cells #[T,U] 76);have C:=λi=>zZ w3 #[T,U] 76 (0,0) i
  go_wp2;go_ret;rw[G.o];exact⟨⟨_,rfl,C 0,C 1⟩,g.trans (L.mono g.size)⟩
variable{f:Fo}{N:Nat}{msg:Option jJ}{x:Wd}
def Fo.GY:∀f g:Fo,f.wf N=true->g.wf N=true->(f.app g).wf N=true
 |.nil,g,_,h=>h
 |.text t r,g,h,h2=>Fo.GY r g h h2
 |.hash r,g,h,h2=>Fo.GY r g h h2
 |.put n a r,g,h,h2=>iH
 |.num n a r,g,h,h2=>iH
 |.br n a f o c b r,g,h,h2=>iH
 |.xi k a m r,g,h,h2=>iH
def Fo.Q8:∀f g:Fo,(f.app g).cnt=f.cnt+g.cnt
 |.nil,g=>by simp[Fo.app,Fo.cnt]
 |.text t r,g=>Fo.Q8 r g
 |.hash r,g=>Fo.Q8 r g
 |.put n a r,g=>Lc
 |.num n a r,g=>Lc
 |.br n a f o c b r,g=>Lc
 |.xi k a m r,g=>Lc
structure jR(f:Fo)(n:Nat):Prop where
 msg:f.ya=true
 wf:f.wf 2000000=true
 len:f.len<=n
 cnt:f.cnt<=n
def jR.nil:jR .nil 0:=⟨rfl,rfl,Y _,Y _⟩
def jR.app{g:Fo}(h:jR f n)(k:jR g m):jR (f.app g) (n+m) :=
 ⟨Fo.kN _ _ h.msg k.msg,Fo.GY _ _ h.wf k.wf,by rw[Fo.jE];have:=h.len;have:=k.len;omega,by rw[Fo.Q8];have:=h.cnt;have:=k.cnt;omega⟩
def jR.text(t:Wd):jR (.text t .nil) 1:=⟨rfl,rfl,Y _,zJ _⟩
def jR.more(h:jR f n)(k:n<=m):jR f m:=⟨h.msg,h.wf,zg h.len k,zg h.cnt k⟩
def La:∀(f g:Fo),(f.app g).wf N=true->f.wf N=true
 |.nil,g,_=>rfl
 |.text t r,g,h=>La r g h
 |.hash r,g,h=>La r g h
 |.put n a r,g,h=>iM
 |.num n a r,g,h=>iM
 |.br n a f o c b r,g,h=>iM
 |.xi k a m r,g,h=>iM
def jR.yn(h:jR f n)(t:Wd):jR (f.yn t) (n+1):=by
 cases c:f.xD with
 |none=>rw[qv f t c];exact h.app (jR.text t)
 |some s =>
  obtain⟨pre,h1,h2,d⟩:=vo f s c;have hw:=h.wf;have b:=h.len;have a:=h.cnt;rw[h1]at hw b a;rw[d];refine⟨Fo.kN _ _ (h2 h.msg) rfl,Fo.GY _ _ (La _ _ hw) rfl,?_,?_⟩
  .rw[Fo.jE]at b|-;simp only[Fo.len]at b|-;omega
  .rw[Fo.Q8]at a|-;simp only[Fo.cnt]at a|-;omega
structure lT(f:Fo)(n:Nat):Prop where
 yv8:f.xm=true
 wf:f.wf 2000000=true
 cnt:f.cnt+f.len<=n
def JX(rs:List Int)(m:jJ):Prop:=∀num i f j,m num i = .ok (f,j)->i<=j/\jR f (j - i)
def lW{rs:List Int}{r:Int}(h:yz rs i=r)(hr:r≠-1):i<rs.length:=by
 apply yy;intro hc;rw[kP J]at h;exact hr h.symm
section
variable {rs:List Int} (QD:rs.length<=1000000)
include QD
def ID(h:kS rs i = .ok (x,j)):x.length<=4000000/\i<j:=by
 refine⟨?_,jo h⟩;unfold kS at h;split at h
 .cases h
 .cases h;have:=Za rs i (ku rs i);omega
def aG(h:qR rs i = .ok (x,j)):x.length<=4000000/\i<j:=by
 refine⟨?_,XS h⟩;unfold qR at h;split at h
 .cases h
 .cases h;have:=Za rs i (qj rs i);omega
def zaz{num:Bool}(h:YJ rs num i = .ok (x,j)):x.length<=4000001/\i<j:=by
 unfold YJ at h;split at h
 .obtain⟨a,q,h1,h2⟩:=zF h;cases h2;have:=aG QD h1;simp;omega
 .obtain⟨a,q,h1,h2⟩:=zF h;split at h2
  .cases h2
  .cases h2;have:=ID QD h1;omega
def pG{num:Bool}(hm:∀m,msg=some m->JX rs m)(h:bM rs msg num i = .ok (f,j)):i<j/\lT f (j - i)/\f.len=1:=by
 unfold bM at h;obtain⟨k,a,h1,h2⟩:=zF h;obtain⟨u,b,o,l⟩:=zF h2;have t:=zaz QD h1;have v:=(yS o).2;have w:=yl rs a;cases msg with
 |none=>cases l
 |some m =>
  obtain⟨g,c,p,q⟩:=zF (show(m num b).then _=_ from l);obtain⟨u2,z,r,s⟩:=zF q;obtain⟨x,d⟩:=hm m rfl _ _ _ _ p;have n:=yS r;have y:=yl rs z;have A:=lW n.1 zW;cases s;have B:=d.len;have hc:=d.cnt;refine⟨J,⟨rfl,?_,?_⟩,rfl⟩
  .have e:g.len<=2000000:=(by omega);simp only[Fo.wf,zv,decide_eq_true_eq];exact⟨⟨⟨⟨J,d.msg⟩,e⟩,d.wf⟩,trivial⟩
  .simp only[Fo.cnt,Fo.len];omega
def Bs{num:Bool}(hm:∀m,msg=some m->JX rs m):∀(n:Nat) (acc:Fo) (i j b:Nat) (f:Fo),qx rs msg num n acc i = .ok (f,j)->lT acc b->i<=j/\lT f (b+(j - i))
 | 0,acc,i,j,b,f,h,_=>xp
 |n+1,acc,i,j,b,f,h,ha=>by
  rw[qx]at h;split at h
  .cases h;exact⟨Y _,by simpa using ha⟩
  .obtain⟨g,q,h1,h2⟩:=zF h;obtain⟨d,c,_⟩:=pG QD hm h1;have a:lT (acc.app g) (b+(q - i)):=⟨Fo.gi _ _ ha.yv8 c.yv8,Fo.GY _ _ ha.wf c.wf,by rw[Fo.Q8,Fo.jE];have:=ha.cnt;have:=c.cnt;omega⟩;obtain⟨e,hf⟩:=Bs hm n _ _ _ _ _ h2 a;exact⟨J,⟨hf.yv8,hf.wf,by have:=hf.cnt;omega⟩⟩
def pF(hm:∀m,msg=some m->JX rs m)(h:gH rs msg i = .ok (f,j)):i<j/\jR f (j - i):=by
 unfold gH at h;obtain⟨u,a,h1,h2⟩:=zF h;obtain⟨nm,b,A,k⟩:=zF h2;have F:=(yS h1).2;have G:=yl rs a;have H:=ID QD A;have I:=yl rs b;clear h h1 h2 A;split at k
 .obtain⟨u,z,n,e⟩:=zF k;have:=(yS n).2;cases e;exact zf1
 .obtain⟨O,c,n,e⟩:=zF k;have K:=jo n;have L:=yl rs (xx rs b+1);have M:=yl rs c;clear k n;split at e
  .obtain⟨u,z,w,x⟩:=zF e;have:=(yS w).2;cases x;exact zf1
  .split at e
   .cases e
   .next form g =>
    obtain⟨u,d,w,x⟩:=zF e;obtain⟨o,l,D,p⟩:=zF x;obtain⟨bs,q,r,s⟩:=zF p;obtain⟨u,z,t,v⟩:=zF s;have:=(yS w).2;have:=yl rs d;have:=Mr D;obtain⟨N,hb⟩:=Bs QD hm _ _ _ _ 0 _ r ⟨rfl,rfl,Y _⟩;have C:=yS t;have B:=lW C.1 zW;have E:=hb.cnt;have y:=Be g;cases v;refine⟨J,rfl,?_,by simp[Fo.len];omega,by simp[Fo.cnt];omega⟩;simp only[Fo.wf,zv,decide_eq_true_eq];exact⟨⟨⟨⟨⟨J,y⟩,hb.yv8⟩,J⟩,hb.wf⟩,trivial⟩
def Zi{num:Bool}(hm:∀m,msg=some m->JX rs m):∀(n:Nat) (acc:Fo) (i j b:Nat) (f:Fo),vJ rs msg num n acc i = .ok (f,j)->jR acc b->i<=j/\jR f (b+(j - i))
 | 0,acc,i,j,b,f,h,_=>xp
 |n+1,acc,i,j,b,f,h,ha=>by
  rw[vJ]at h;split at h
  .cases h;exact⟨Y _,by simpa using ha⟩
  split at h
  .obtain⟨g,q,h1,h2⟩:=zF h;obtain⟨d,c⟩:=pF QD hm h1;obtain⟨a,hf⟩:=Zi hm n _ _ _ _ _ h2 (ha.app c);exact⟨J,hf.more J⟩
  split at h
  .obtain⟨a,hf⟩:=Zi hm n _ _ _ _ _ h (ha.app (g := .hash .nil) (m:=1) ⟨rfl,rfl,Y _,zJ _⟩);exact⟨J,hf.more J⟩
  .have:=Jf rs num i;obtain⟨a,hf⟩:=Zi hm n _ _ _ _ _ h (ha.yn _);exact⟨J,hf.more J⟩
def IB:∀n,JX rs (gI rs n)
 | 0,num,i,f,j,h=>by
  rw[gI]at h;have:=Zi QD (λm e=>gG) _ _ _ _ 0 _ h jR.nil;simpa using this
 |n+1,num,i,f,j,h=>by
  rw[gI]at h;have:=Zi QD (λm e=>by cases e;exact IB n) _ _ _ _ 0 _ h jR.nil;simpa using this
end
def ZK{rs:List Int}{num:Bool}:∀(n:Nat) (acc:Fo) (i j:Nat) (f:Fo),vJ rs msg num n acc i = .ok (f,j)->i<=rs.length->j<=rs.length
 | 0,acc,i,j,f,h,_=>xp
 |n+1,acc,i,j,f,h,hi=>by
  rw[vJ]at h;split at h
  .cases h;exact hi
  next h0 =>
  have a:i<rs.length:=by
   apply yy;intro hc;exact h0 (.inl (kP J))
  split at h
  .obtain⟨g,q,h1,h2⟩:=zF h;exact ZK n _ _ _ _ h2 (IV h1).2
  split at h
  .exact ZK n _ _ _ _ h a
  .exact ZK n _ _ _ _ h (PR a).2
def UZ(h:vv l = .ok f):jR f 1000:=by
 unfold vv at h;split at h
 .cases h
 split at h
 .cases h
 next h1 _ =>
 have QD:=Qk l;have hr:(xk l).length<=1000:=J;cases hp:gg (xk l) with
 |error e=>rw[hp]at h;cases h
 |ok x =>
  rw[hp]at h;cases h;unfold gg at hp;obtain⟨g,q,h2,a⟩:=zF (show _=Except.ok (x.1,x.2)from hp);have b:=(IB J 5 _ _ _ _ h2).2;have he:q<=(xk l).length:=ZK _ _ _ _ _ h2 (zJ _);split at a
  .cases a;exact b.more J
  .cases a
def uo(l:List UInt8):Except (Nat×Nat) Fo :=
 match vv l with
 |.error e => .error e
 |.ok f=>match fD f with|none => .ok f|some e => .error e
def xcq(r:Except (Nat×Nat) Fo)(w:z8)(e:xX)(w':z8):Prop :=
 (match r with
  |.error (n,a)=>∃v b,e = .returned (.tuple #[v,.iface 72 (.pointer (some ⟨b,0,none⟩))])/\(∃a n c,v = .slice a n c)/\zk w' b 0 (.int .i64 n)/\zk w' b 1 (.int .i64 a)
  |.ok f=>(∃a c vs,e = .returned (.tuple #[.slice a f.len c,.nilIface])/\Uv (w:Nat) (w':Nat) w' a vs/\yY (w:Nat) (w':Nat) w' vs f)/\jR f 1000)/\zR w w'
def R9(s:ByteArray)(w:z8)(hs:s.size<=9223372036854775807)(H:Yv 3 4 w)(G:qu w) :
  zE prog 23 #[.string s] w (xcq (uo s.data.toList) w):=by
 have E:=Z (pX s w hs H G);have z:=Z (show uo s.data.toList=match vv s.data.toList with |.error e => .error e |.ok f=>match fD f with|none => .ok f|some e => .error e from rfl);have C:=Z (λf=>UZ (l:=s.data.toList) (f:=f));obtain⟨r,hr⟩:=zw (vv s.data.toList);rw[hr]at E z C;clear H G hr;go_enter func23,ntmps23;go_wp2_with fail;refine E.o.mono ?_;rintro e w1 ⟨j,m⟩;clear E;cases r with
 |error en =>
  obtain⟨n,a⟩:=en;obtain⟨b,rfl,c0,c1⟩:=j;have x:=Z (show uo s.data.toList = .error (n,a)from z.o);go_wp2;go_ret2
  rw[x.o];exact⟨⟨_,b,rfl,⟨_,_,_,rfl⟩,c0,c1⟩,m⟩
 |ok f =>
  obtain⟨⟨a,c,vs,rfl,h,g⟩,y⟩:=j;have t:=C.o f rfl;obtain⟨v,u,D,B,x⟩:=G0 h g t (pJ f a c vs w1 t.msg t.wf (by have:=t.len;omega) (by have:=t.cnt;omega) h g (Y _)) (show uo s.data.toList=match fD f with|none => .ok f|some e => .error e from z.o);obtain⟨q,j⟩:=zw (fD f);rw[j]at B x;clear h g y t j z C;go_wp2_with fail;refine B.o.mono ?_;rintro e w2 ⟨j,d⟩;clear B;have i:=m.trans (d.mono m.size);cases q with
  |none =>
   obtain rfl:=j;have F:=Z (show uo s.data.toList = .ok f from x.o);have A:vx (w:Nat) (w1:Nat) w1 w2:=⟨d.size,λk _ A=>d.block k A⟩;go_wp2;go_ret2
   rw[F.o];exact⟨⟨⟨a,c,vs,rfl,v.o.keep A (Y _) d.size,yY.keep A (Y _) d.size _ _ u.o⟩,D.o⟩,i⟩
  |some e =>
   obtain⟨n,p⟩:=e;obtain⟨b,rfl,c0,c1⟩:=j;have F:=Z (show uo s.data.toList = .error (n,p)from x.o);go_wp2;go_ret2
   rw[F.o];exact⟨⟨_,b,rfl,⟨_,_,_,rfl⟩,c0,c1⟩,i⟩
def NZ{α:Type}(x:qo α):Prop:=∀e,x = .error e->e.1≠0
section
variable {α β:Type}
def NZ.ok(x:α×Nat):NZ (.ok x:qo α):=λ_ h=>xp
def NZ.err{a:Nat}(h:n≠0):NZ (.error (n,a):qo α):=λ_ e=>by cases e;exact h
def NZ.then{x:qo α}{k:α->Nat->qo β}(h:NZ x)(b:∀a i,NZ (k a i)):NZ (x.then k):=by
 cases x with
 |error e=>intro e' he;cases he;exact h e rfl
 |ok p=>exact b p.1 p.2
end
section
variable (rs:List Int)
def Xa(r:Int)(i:Nat):NZ (ua rs r i):=by unfold ua;split;exact .ok _;exact .err zW
def N0(i:Nat):NZ (kS rs i):=by unfold kS;split;exact .err zW;exact .ok _
def Rz(i:Nat):NZ (qR rs i):=by unfold qR;split;exact .err zW;exact .ok _
def yp7(num:Bool)(i:Nat):NZ (YJ rs num i):=by
 unfold YJ;split
 .exact(Rz rs _).then λ_ _ => .ok _
 .exact(N0 rs _).then λ_ _=>by split;exact .err zW;exact .ok _
def yv9(m:Option jJ)(hm:∀x,m=some x->∀b i,NZ (x b i))(num:Bool)(k:Wd)(i o l:Nat):NZ (Kp rs m num k i o l):=by
 cases m with
 |none=>exact .err zW
 |some x=>exact(hm x rfl num l).then λ_ _=>(Xa rs _ _).then λ_ _ => .ok _
def yp8(m:Option jJ)(hm:∀x,m=some x->∀b i,NZ (x b i))(num:Bool)(i:Nat):NZ (bM rs m num i) :=
 (yp7 rs num i).then λ_ _=>(Xa rs _ _).then λ_ _=>yv9 rs m hm _ _ _ _ _
def lr(m:Option jJ)(hm:∀x,m=some x->∀b i,NZ (x b i))(num:Bool):∀(n:Nat) (acc:Fo) (i:Nat),NZ (qx rs m num n acc i)
 | 0,_,_ => .err zW
 |n+1,acc,i=>by
  unfold qx;split
  .exact .ok _
  .exact(yp8 rs m hm num i).then λ_ _=>lr m hm num n _ _
def yp9(form i:Nat):NZ (Uu rs form i):=by
 unfold Uu;split
 .exact(Rz rs _).then λ_ _ => .ok _
 .exact .ok _
def ypz(m:Option jJ)(hm:∀x,m=some x->∀b i,NZ (x b i))(i:Nat):NZ (gH rs m i):=by
 refine(Xa rs _ _).then λ_ a=>(N0 rs _).then λname b=>?_
 split
 .exact(Xa rs _ _).then λ_ _ => .ok _
 .refine(N0 rs _).then λw c=>?_
  split
  .exact(Xa rs _ _).then λ_ _ => .ok _
  .split
   .exact .err zW
   .exact(Xa rs _ _).then λ_ d=>(yp9 rs _ _).then λo l=>(lr rs m hm _ _ _ _).then λ_ _=>(Xa rs _ _).then λ_ _ => .ok _
def Ry(m:Option jJ)(hm:∀x,m=some x->∀b i,NZ (x b i))(num:Bool):∀(n:Nat) (acc:Fo) (i:Nat),NZ (vJ rs m num n acc i)
 | 0,_,_ => .err zW
 |n+1,acc,i=>by
  unfold vJ;split
  .exact .ok _
  .split
   .exact(ypz rs m hm i).then λ_ _=>Ry m hm num n _ _
   .split
    .exact Ry m hm num n _ _
    .exact Ry m hm num n _ _
def zay:∀(n:Nat) (b:Bool) (i:Nat),NZ (gI rs n b i)
 | 0,b,i=>Ry rs none (λ_ h=>xp) b _ _ _
 |n+1,b,i=>Ry rs _ (λx h=>by cases h;exact zay n) b _ _ _
def zax:NZ (gg rs):=(zay rs 5 false 0).then λ_ _=>by split;exact .ok _;exact .err zW
end
def zav(P:σ->Prop)(F:σ->Fo->Out σ)(hF:∀s f,P s->match F s f with |.go _ s=>P s |.TM _ s=>P s):∀(f:Fo) (s:σ),P s->match vg F f s with |.go _ s=>P s |.TM _ s=>P s:=by
 have key:∀(x:Out σ) (k:σ->Out σ),(match x with |.go _ s=>P s |.TM _ s=>P s)->(∀s,P s->match k s with |.go _ s=>P s |.TM _ s=>P s)->match x.then k with |.go _ s=>P s |.TM _ s=>P s:=by
  intro x k hx g;match x,hx with
  |.go true s,hx=>exact g s hx
  |.go false s,hx=>exact hx
  |.TM _ s,hx=>exact hx
 intro f;induction f with
 |nil=>exactλs h=>h
 |text t r b=>exactλs h=>b s h
 |hash r b=>exactλs h=>b s h
 |put n a r b=>exactλs h=>key _ _ (hF _ _ h) b
 |num n a r b=>exactλs h=>key _ _ (hF _ _ h) b
 |br n a f o c bs r d e=>exactλs h=>key _ _ (hF _ _ h) λs h=>key _ _ (d s h) e
 |xi k a m r d e=>exactλs h=>key _ _ (d s h) e
def NzS(s:KP):Prop:=∀x∈s.2,x.1≠0
def N1{s:KP}(h:NzS s)(n:Wd)(a k:Nat):NzS (uV s n a k):=by
 unfold uV;split
 .intro x hx;rw[zS,zG]at hx;rcases hx with hx|rfl
  .exact h x hx
  .show 5≠0;decide
 .split<;>exact h
def ypy(b:Nat):∀(f:Fo) (xC:List Wd) (acc:List (Nat×Nat)),(∀x∈acc,x.1≠0)->∀x∈K6 b xC acc f,x.1≠0:=by
 have OT:∀(xC:List Wd) (acc:List (Nat×Nat)),(∀x∈acc,x.1≠0)->∀x∈(if Bo∈xC then acc else acc++[(6,b)]),x.1≠0:=by
  intro xC acc h x hx;split at hx
  .exact h x hx
  .rw[zS,zG]at hx;rcases hx with hx|rfl
   .exact h x hx
   .show 6≠0;decide
 intro f;induction f with
 |xi k a m r _ c =>
  intro xC acc h;refine c _ _ λx hx=>?_
  split at hx
  .rw[zS,zG]at hx;rcases hx with hx|rfl
   .exact h x hx
   .show 7≠0;decide
  .exact h x hx
 |nil=>exact OT
 |text _ _ _=>exact OT
 |hash _ _=>exact OT
 |put _ _ _ _=>exact OT
 |num _ _ _ _=>exact OT
 |br _ _ _ _ _ _ _ _ _=>exact OT
def ypx{x:Nat×Nat}(h:fD f=some x):x.1≠0:=by
 have h0:∀y∈gO f,y.1≠0:=by
  have:=zav NzS gB (λs g hs=>by
   cases g with
   |br n a fo o c bs r =>
    intro y hy;simp only[zS]at hy;rcases hy with hy|hy
    .exact N1 hs _ _ _ y hy
    .exact ypy _ _ _ _ (λ_ h=>xp) y hy
   |num n a r=>exact N1 hs _ _ _
   |put n a r=>exact N1 hs _ _ _
   |_=>exact hs) f (λ_=>none,[]) (λ_ h=>xp)
  unfold gO;cases d:vg gB f (λ_=>none,[]) with
  |go b s=>rw[d]at this;exact this
  |TM c s=>rw[d]at this;exact this
 unfold fD at h;cases hf:gO f with
 |nil=>rw[hf]at h;cases h
 |cons y l =>
  rw[hf]at h h0;cases h;have:∀(l:List (Nat×Nat)) (m:Nat×Nat),m.1≠0->(∀y∈l,y.1≠0)->(Gm m l).1≠0:=by
   intro l;induction l with
   |nil=>exactλm h _=>h
   |cons z l j =>
    intro m h e;refine j _ ?_ (λy hy=>e y zg8);show(if z.2<m.2 then z else m).1≠0;split
    .exact e z zV
    .exact h
  exact this l y (h0 y zV) (λz i=>h0 z (by simp[i]))
def yvz{e:Nat×Nat}(h:uo l = .error e):e.1≠0:=by
 unfold uo at h;cases hp:vv l with
 |error e' =>
  rw[hp]at h;cases h;unfold vv at hp;split at hp
  .cases hp;show(1:Nat)≠0;decide
  .split at hp
   .cases hp;show(2:Nat)≠0;decide
   .split at hp
    .next a he=>cases hp;exact zax _ _ he
    .cases hp
 |ok g =>
  rw[hp]at h;dsimp only at h;cases hc:fD g with
  |some x=>rw[hc]at h;cases h;exact ypx hc
  |none=>rw[hc]at h;cases h
def UY:Yz prog 34 5 (.int .u8 0) 1 1 :=
 ⟨underlying34,V9 yg,rfl,zW,zW⟩
def gp(l:Wd):List zx:=l.map λc => .int .u8 c.toNat
def UX(a b:Wd):gp (a++b)=gp a++gp b:=by simp[gp]
abbrev fT(w:z8)(v:zx)(l:Wd):Prop:=w.ownsRow 0 5 1 v l.length (gp l)
def bt(x:Nat):UInt8:=uZ x
def vq(x:Nat):Wd:=[bt (x / 256),bt x]
def j8(x:Nat):Wd:=[bt (x / 16777216),bt (x / 65536),bt (x / 256),bt x]
def N2(x:Nat):((bt x).toNat:Int)=(x:Int) % 256:=by simp[bt]
def zau(v:zx)(l:Wd)(w:z8)(e:xX)(w':z8):Prop:=∃v',e = .returned v'/\fT w' v' l/\Fr (zM v) (zM v') w w'
def DM(v:zx)(l:Wd)(x:Nat)(w:z8)(h:fT w v l)(hx:x<=4000000000)(i:l.length<=2000000000) :
  zE prog 28 #[v,x] w (zau v (l++vq x) w):=by
 have g:=Z (show[yZ .u8 ((x:Int) / 256 % 256),.int .u8 ((x:Int) % 256)]=gp (vq x)by simp[gp,vq,N2]);obtain⟨n,hn⟩:=zw l.length;dsimp only[fT]at h;rw[hn]at h i;obtain⟨a,cap,rfl⟩:=zo h;have e:=Z hn;have d:=Z h;clear h hn;go_enter func28,ntmps28;go_wp2_with (at_builtin;refine KA UY [_,_] 2 d.o J ?_);intro v' w' b hf;obtain⟨na,j,rfl⟩:=zo b;have f:=Z b;have c:=Z hf;clear b hf;go_wp2;go_ret;refine⟨_,rfl,?_,c.o⟩;have:=f.o;rw[g.o]at this;simpa[fT,UX,e.o,vq]using this
def Rx(v:zx)(l:Wd)(x:Nat)(w:z8)(h:fT w v l)(hx:x<4294967296)(i:l.length<=2000000000) :
  zE prog 30 #[v,.int .u32 x] w (zau v (l++j8 x) w):=by
 have g:=Z (show[yZ .u8 ((x:Int) / 16777216),.int .u8 ((x:Int) / 65536 % 256),.int .u8 ((x:Int) / 256 % 256),.int .u8 ((x:Int) % 256)]=gp (j8 x)by simp[gp,j8,N2];omega);obtain⟨n,hn⟩:=zw l.length;dsimp only[fT]at h;rw[hn]at h i;obtain⟨a,cap,rfl⟩:=zo h;have e:=Z hn;have d:=Z h;clear h hn;go_enter func30,ntmps30;go_wp2_with (at_builtin;refine KA UY [_,_,_,_] 4 d.o J ?_);intro v' w' b hf;obtain⟨na,j,rfl⟩:=zo b;have f:=Z b;have c:=Z hf;clear b hf;go_wp2;go_ret;refine⟨_,rfl,?_,c.o⟩;have:=f.o;rw[g.o]at this;simpa[fT,UX,e.o,j8]using this
structure fW(w:z8)(v:zx)(l:List Nat):Prop where
 ex:∃a cap,v = .slice a l.length cap/\l.length<=cap/\cap<=vp/\∀j (h:j<l.length),∃b,a=some b/\w.cell? (b.add j)=some (.int .i64 l[j])
def QO:zx->zx
 |.slice (some a) n cap => .slice (some (if cap=1 then a else a.add 1)) (n - 1) (cap - 1)
 |v=>v
def aF(b:yI)(m cap:Nat)(h:m+1<=cap)(w:z8):(VX 85 (.slice (some b) (m+1) cap) (some (.int .i64 1)) none none).run prog w = .ok (QO (.slice (some b) (m+1) cap)) w:=by
 have h2:(1:Int)<=(m:Int)+1:=J;simp[VX,yzk,yfx,kJ underlying85,asIntOf,QO,go_sem,h2];split<;>rfl
def fW.tail{x:Nat}{l:List Nat}(h:fW w v (x::l)):fW w (QO v) l:=by
 obtain⟨a,cap,rfl,h1,h2,d⟩:=h.ex;obtain⟨b,rfl,hb⟩:=d 0 zV;by_cases hc:cap=1
 .subst hc;have:l=[]:=by cases l with|nil=>rfl|cons _ _=>simp at h1
  subst this;exact⟨some b,0,by simp[QO],zV,dS,λj f=>absurd f (ZH j)⟩
 .refine⟨some (b.add 1),cap - 1,by simp[QO,hc],by simp at h1;omega,J,λj f=>⟨_,rfl,?_⟩⟩;obtain⟨g,e,c⟩:=d (j+1) yF;cases e;rw[show(b.add 1).add j=b.add (j+1)by simp[Addr.add_add,Nat.add_comm]];simpa using c
structure vdx(B K:Nat)(v:zx)(l:Wd)(kv:zx)(w:z8)(e:xX)(w':z8):Prop where
 ret:e = .returned (.tuple #[])
 ex:∃v',zk w' B 0 v'/\fT w' v' l/\(∀q,zM v' q->zM v q\/(w:Nat)<=q)/\Fr (λk=>k=B\/k=K\/zM v k) (λk=>k=B\/k=K\/zM v' k) w w'
 c:zk w' K 0 kv
 z:w'.frozen? (B,0)=false/\w'.frozen? (K,0)=false
def zaq(f:FuncId):Prop:=∀(B K:Nat) (v kv:zx) (l:Wd) (x:Nat) (ks:List Nat) (w:z8),zk w B 0 v->w.frozen? (B,0)=false->zk w K 0 kv->w.frozen? (K,0)=false ->
  fT w v l->fW w kv (x::ks)->B≠K->¬zM v B->¬zM v K->(∀k,kv.ownBlock=some k->¬zM v k/\k≠B/\k≠K)->x<=4000000000->l.length<=100000000 ->
  zE prog f #[(B,0),(K,0)] w (vdx B K v (l++vq x) (QO kv) w)
def Rv:zaq 53/\zaq 54:=by
 constructor<;>(
  intro B K v kv l x ks w hB zB hK zK hr hn gN h1 h2 h3 hx hl;have HR:=Z hr;obtain⟨a,cap,rfl,k1,k2,k3⟩:=hn.ex;obtain⟨b,rfl,hb⟩:=k3 0 (by simp);obtain⟨m,hm⟩:=zw ks.length;simp only[zY,hm]at k1 hK;obtain⟨OM,h4⟩:=h3 b.block rfl;have HT:=Z (DM v l x w.drew (by exact hr) hx (by omega));obtain⟨L,hL⟩:=zw (l++vq x);rw[hL]at HT|-
  clear k3 hn h3 hL;have HM:=Z hm;clear hm;have hb':w.drew.cell? b=some (.int .i64 x):=by
   have e:b.add 0=b:=by unfold fG;split<;>simp_all
   rw[e]at hb;exact hb
  obtain⟨ad,aD⟩:∃ad,QO (.slice (some b) (m+1) cap) = .slice (some ad) m (cap - 1):=⟨_,rfl⟩;have hs:=aF b m cap k1;rw[aD]at hs;have HS:=Z hs;clear hs;first|(go_enter func53,ntmps53)|(go_enter func54,ntmps54)
  go_wp2_with fail;refine rk (λW':z8=>W'.cell? ⟨K,0,none⟩=some (.slice (some b) (m+1) cap)/\W'.cell? b=some (.int .i64 x)) 8 [1,2,3,5,6] 4 ⟨hK,hb'⟩ ?_;(iterate 4 (refine ty ?_;try simp only[pl]))
  refine ty (v := .slice (some ad) m (cap - 1)) ?_ (hy:=λw' _=>by have hs:=HS.out w';simp[execOp,go_sem,hs]);try simp only[pl]
  refine yW ?_;refine dF 0 (λJk hJ=>?_);go_simp;refine hJ.out _ _ ⟨hK,hb'⟩ λ_=>?_
  clear hJ Jk;refine dF 4 (λJk hJ=>?_);go_simp;refine HT.out.mono ?_;rintro e w1 ⟨v',rfl,DJ,hf⟩;have e1:=hf.cell (a:=⟨K,0,none⟩) (v := .slice (some b) (m+1) cap) hK h2;have e2:=hf.cell hb' OM;have e3:=hf.cell (a:=⟨B,0,none⟩) (v:=v) hB h1;have z1:=(hf.frozen (a:=⟨B,0,none⟩) (X w _ hB) h1).trans zB;have z2:=(hf.frozen (a:=⟨K,0,none⟩) (X w _ hK) h2).trans zK;obtain⟨na,nc,rfl⟩:=zo DJ;have HF:=Z hf;have OR:=Z DJ;refine hJ.out _ _ ⟨e1,e2⟩ λ_=>?_
  clear hJ Jk hf DJ;refine dF 7 (λJk hJ=>?_);go_simp;refine hJ.out _ _ ⟨by rw[zr,if_neg (λe=>gN (congrArg qb e))];exact e1,by rw[zr,if_neg (λe=>h4.1 (congrArg qb e).symm)];exact e2⟩ λ_=>?_
  clear hJ Jk;have e4:(w1.setCell ⟨B,0,none⟩ (.slice na L.length nc)).cell? ⟨K,0,none⟩=some (.slice (some b) (m+1) cap):=by rw[zr,if_neg (λe=>gN (congrArg qb e))];exact e1
  refine D0 8 (λJk hJ=>?_);go_simp;refine hJ.out _ _ ?_;clear hJ Jk;refine D1 ?_ _;go_wp2;refine yU (v := .tuple #[]) ?_ rfl ?_
  .simp[yN,results53,results54,go_sem]
  rw[show QO (.slice (some b) (ks.length+1) cap) = .slice (some ad) m (cap - 1)by rw[HM.out];exact aD];refine⟨rfl,⟨_,by rw[zr,if_neg (λe=>gN (congrArg qb e).symm),zr,if_pos rfl,e3];rfl,?_,HF.out.fp,?_⟩,by rw[zr,if_pos rfl,e4];rfl,by rw[zP,zP];exact z1,by rw[zP,zP];exact z2⟩
  .exact xP (xP OR.out (λe=>(HF.out.fp _ e).elim h1 (λq=>qV _ (zC (X w _ hB) q))) _) (λe=>(HF.out.fp _ e).elim h2 (λq=>qV _ (zC (X w _ hK) q))) _
  .have h:=HF.out;exact((show Fr (λk=>k=B\/k=K\/zM v k) (λk=>k=B\/k=K\/zM _ k) w w1 from⟨h.os,h.tape,h.output,h.size,λk hk hn=>h.keep k hk (λq=>hn (.inr (.inr q))),λk hk=>by
    rcases hk with q|q|q
    .exact .inl (.inl q)
    .exact .inl (.inr (.inl q))
    .exact(h.fp k q).imp (λq => .inr (.inr q)) id⟩).set _ (.inl (.inl rfl))).set _ (.inl (.inr (.inl rfl))))
variable{q:Nat}{F F':Nat->Prop}
structure uF where
 op:Nat
 pos:Nat
 v:Nat
 k:List Nat
 tg:List Nat
def uA:Nat->Wd
 | 1=>[107]|2=>[110]|3=>[110]|4=>[110,118]|7=>[118,116]|8=>[116,116,116,116,116,116]|9=>[116,116,116,116,116,116]|10=>[110,42]|11=>[116]|_=>[]
def YG:List Nat->List Nat->Wd
 |[],t=>vq (t.headD 0)
 |a::k,t=>vq a++(vq (t.headD 0)++YG k t.tail)
def ue:Wd->Nat->List Nat->List Nat->Wd
 |[],_,_,_=>[]
 |c::f,v,k,t =>
  if c=107\/c=110 then vq (k.headD 0)++ue f v k.tail t
  else if c=118 then j8 v++ue f v k t
  else if c=116 then vq (t.headD 0)++ue f v k t.tail
  else vq k.length++(YG k t++ue f v [] (t.drop (k.length+1)))
def okB:Wd->Nat->Nat->Bool
 |[],_,_=>true
 |c::f,a,b =>
  if c=107\/c=110 then decide (0<a) && okB f (a - 1) b
  else if c=118 then okB f a b
  else if c=116 then decide (0<b) && okB f a (b - 1)
  else decide (c=42) && (decide (a<b) && okB f 0 (b - (a+1)))
def xE(i:uF):Wd:=bt i.op::ue (uA i.op) i.v i.k i.tg
def qg(w:z8):Prop:=∀op,op<12->zk w 2 op (zO (uA op))
structure IC(w:z8)(g o:Nat)(i:uF)(kv tv:zx):Prop where
 c0:zk w g o i.op
 c1:zk w g (o+1) i.pos
 c2:zk w g (o+2) i.v
 c3:zk w g (o+3) kv
 c4:zk w g (o+4) tv
 k:fW w kv i.k
 t:fW w tv i.tg
structure IE(i:uF):Prop where
 op:i.op<12
 v:i.v<=4000000000
 k:∀x∈i.k,x<=4000000000
 t:∀x∈i.tg,x<=4000000000
 len:i.k.length<=1000000
 ok:okB (uA i.op) i.k.length i.tg.length=true
def fW.slice{w:z8}{l:List Nat}(h:fW w v l):∃a cap,v = .slice a l.length cap:=by
 obtain⟨a,cap,h1,_⟩:=h.ex;exact⟨a,cap,h1⟩
structure ER(w:z8)(v0:zx)(B K T I:Nat)(s:ByteArray)(j:Nat)(done:Wd)(ks ts:List Nat)(wr:z8):Prop where
 ex:∃v kv tv,zk wr B 0 v/\zk wr K 0 kv/\zk wr T 0 tv/\fT wr v done/\fW wr kv ks/\fW wr tv ts/\Fr (zM v0) (zM v) w wr /\
  ¬zM v B/\¬zM v K/\¬zM v T/\¬zM v I/\(∀q,zM kv q\/zM tv q->q<(w:Nat)/\¬zM v0 q)
 it:wr.heap[I]? = some (.stringIter s j)
 zB:wr.frozen? (B,0)=false
 zK:wr.frozen? (K,0)=false
 zT:wr.frozen? (T,0)=false
 lo:(w:Nat)<=B/\(w:Nat)<=K/\(w:Nat)<=T/\(w:Nat)<=I
 ne:B≠K/\B≠T/\K≠T/\I≠B/\I≠K/\I≠T
def fW.fr{w:z8}{l:List Nat}(h:fW w v l)(hf:Fr F F' w w')(hv:∀q,zM v q->¬F q):fW w' v l:=by
 obtain⟨a,cap,e,h1,h2,d⟩:=h.ex;refine⟨a,cap,e,h1,h2,λj f=>?_⟩;obtain⟨b,c,hb⟩:=d j f;exact⟨b,c,hf.cell hb (by rw[addr_add];exact hv _ (by rw[e,c];rfl))⟩
def JV(h:zM (QO v) q):zM v q:=by
 unfold QO at h;split at h
 .next a n cap =>
  dsimp only[zM,yA]at h|-;split at h
  .exact h
  .rw[addr_add]at h;exact h
 .exact h
section
variable {w wr:z8} {v0:zx} {B K T I j:Nat} {s:ByteArray} {done:Wd} {ks ts:List Nat} {x:Nat}
def ER.swap(h:ER w v0 B K T I s j done ks ts wr):ER w v0 B T K I s j done ts ks wr:=by
 obtain⟨v,kv,tv,c1,c2,c3,hr,i,l,hf,n1,n2,n3,n4,k⟩:=h.ex;obtain⟨a,b,c,d,e,f⟩:=h.ne;obtain⟨m,n,o,p⟩:=h.lo;exact⟨⟨v,tv,kv,c1,c3,c2,hr,l,i,hf,n1,n3,n2,n4,λq g=>k q g.symm⟩,h.it,h.zB,h.zT,h.zK,⟨m,o,n,p⟩,⟨b,a,c.symm,d,f,e⟩⟩
def ER.step{f:FuncId}(hs:zaq f)(h:ER w v0 B K T I s j done (x::ks) ts wr)(hx:x<=4000000000)(u:done.length<=100000000) :
  zE prog f #[(B,0),(K,0)] wr λe w'=>e = .returned (.tuple #[])/\ER w v0 B K T I s j (done++vq x) ks ts w':=by
 obtain⟨v,kv,tv,c1,c2,c3,hr,m,y,hf,n1,n2,n3,n4,n⟩:=h.ex;obtain⟨p,k,l,r,t,C⟩:=h.ne;obtain⟨D,E,F,G⟩:=h.lo;have g:∀q,zM kv q\/zM tv q->¬zM v q/\q≠B/\q≠K:=λq d=>by
  obtain⟨a,b⟩:=n q d;exact⟨λc=>(hf.fp q c).elim b J,J,J⟩
 refine(hs B K v kv done x ks wr c1 h.zB c2 h.zK hr m p n1 n2 (λq d=>g q (.inl d)) hx u).mono ?_;rintro e w' ⟨rfl,⟨v',d1,d2,d3,d4⟩,d5,d6,d7⟩;have z:=X _ _ c1;have A:=X _ _ c2;have o:=X _ _ c3;have lI:I<(wr:Nat):=(yR.1 h.it).1;have row:∀q,q<(wr:Nat)->¬zM v q->¬zM v' q:=λq a b c=>(d3 q c).elim b J
 have i:∀q,q≠B->q≠K->¬zM v q->¬(q=B\/q=K\/zM v q):=λq a b c=>by rintro(e|e|e);exact a e;exact b e;exact c e
 refine⟨rfl,⟨v',_,tv,d1,d5,d4.cell c3 (i _ k.symm l.symm n3),d2,m.tail.fr d4 (λq d=>i _ (g q (.inl (JV d))).2.1 (g q (.inl (JV d))).2.2 (g q (.inl (JV d))).1),y.fr d4 (λq d=>i _ (g q (.inr d)).2.1 (g q (.inr d)).2.2 (g q (.inr d)).1),?_,row _ z n1,row _ A n2,row _ o n3,row _ lI n4,λq d=>n q (d.imp JV id)⟩,
  (d4.keep I lI (i _ r t n4)).trans h.it,d6,d7,(d4.frozen o (i _ k.symm l.symm n3)).trans h.zT,h.lo,h.ne⟩
 refine⟨d4.os.trans hf.os,d4.tape.trans hf.tape,d4.output.trans hf.output,zg hf.size d4.size,λq d hn=>(d4.keep q (zC d hf.size) (i q J J (λc=>(hf.fp q c).elim hn J))).trans (hf.keep q d hn),λq d=>?_⟩;exact(d3 q d).elim (hf.fp q) (λc => .inr (zg hf.size c))
def ER.con(h:ER w v0 B K T I s j done (x::ks) ts wr)(hx:x<=4000000000)(a:done.length<=100000000) :
  zE prog 53 #[(B,0),(K,0)] wr λe w'=>e = .returned (.tuple #[])/\ER w v0 B K T I s j (done++vq x) ks ts w':=h.step Rv.1 hx a
def ER.tar(h:ER w v0 B K T I s j done ks (x::ts) wr)(hx:x<=4000000000)(c:done.length<=100000000) :
  zE prog 54 #[(B,0),(T,0)] wr λe w'=>e = .returned (.tuple #[])/\ER w v0 B K T I s j (done++vq x) ks ts w' :=
 (h.swap.step Rv.2 hx c).mono λ_ _ ⟨a,b⟩=>⟨a,b.swap⟩
def ER.more(h:ER w v0 B K T I s j done ks ts wr){d:Wd}(hv:zk wr B 0 v)(g:fT w' v' d)(d4:Fr (zM v) (zM v') wr w'):ER w v0 B K T I s j d ks ts (w'.setCell (B,0) v'):=by
 obtain⟨v1,kv,tv,c1,c2,c3,hr,r,t,hf,n1,n2,n3,n4,k⟩:=h.ex;obtain⟨n,o,x,p,y,z⟩:=h.ne;obtain⟨u,A,C,D⟩:=h.lo;obtain rfl:v1=v:=zL (c1.symm.trans hv);have i:=X _ _ c1;have l:=X _ _ c2;have m:=X _ _ c3;have lI:I<(wr:Nat):=(yR.1 h.it).1;have row:∀q,q<(wr:Nat)->¬zM v1 q->¬zM v' q:=λq a b c=>(d4.fp q c).elim b J
 have f:∀q,zM kv q\/zM tv q->¬zM v1 q/\q≠B:=λq e=>by
  obtain⟨a,b⟩:=k q e;exact⟨λc=>(hf.fp q c).elim b J,J⟩
 have f2:Fr (λq=>q=B\/zM v1 q) (λq=>q=B\/zM v1 q) wr (w'.setCell (B,0) v'):=(d4.wide (λq e => .inr e)).set _ (.inl (.inl rfl));have fz:∀a,(w'.setCell (B,0) v').frozen? a=w'.frozen? a:=λa=>zP ..
 refine⟨⟨v',kv,tv,xq (d4.cell c1 n1) _,f2.cell c2 (λq=>q.elim n.symm n2),f2.cell c3 (λq=>q.elim o.symm n3),xP g (row _ i n1) _,r.fr f2 (λq e c=>c.elim (f q (.inl e)).2 (f q (.inl e)).1),t.fr f2 (λq e c=>c.elim (f q (.inr e)).2 (f q (.inr e)).1),
  (hf.trans d4).set _ (.inr u),row _ i n1,row _ l n2,row _ m n3,row _ lI n4,k⟩,(f2.keep I lI (λq=>q.elim p n4)).trans h.it,?_,?_,?_,h.lo,h.ne⟩
 .rw[fz,d4.frozen i n1];exact h.zB
 .rw[fz,d4.frozen l n2];exact h.zK
 .rw[fz,d4.frozen m n3];exact h.zT
def zak(w:z8)(K:Nat):Nat:=match w.cell? (K,0) with|some (.slice _ n _)=>n|_=>0
def ER.xck(h:ER w v0 B K T I s j done ks ts wr):zak wr K=ks.length:=by
 obtain⟨v,kv,tv,c1,c2,c3,hr,b,_⟩:=h.ex;obtain⟨a,c,rfl⟩:=b.slice;simp[zak,c2]
def ER.next(h:ER w v0 B K T I s j done ks ts wr)(m:Nat):ER w v0 B K T I s m done ks ts (wr.iterAt I s m):=by
 obtain⟨v,kv,tv,c1,c2,c3,hr,l,n,hf,n1,n2,n3,n4,e⟩:=h.ex;obtain⟨o,p,r,f,g,i⟩:=h.ne;obtain⟨t,u,x,y⟩:=h.lo;have f2:Fr (λq=>q=I) (λq=>q=I) wr (wr.iterAt I s m):=⟨rfl,rfl,rfl,TD (vq3 _ _ _ _).symm,λk _ hn=>xrb _ _ _ _ _ hn,λ_ q => .inl q⟩;refine⟨⟨v,kv,tv,f2.cell c1 f.symm,f2.cell c2 g.symm,f2.cell c3 i.symm,f2.own hr (λq a b=>n4 (b▸a)),l.fr f2 (λq d c=>by have:=(e q (.inl d)).1;omega),n.fr f2 (λq d c=>by have:=(e q (.inr d)).1;omega),?_,n1,n2,n3,n4,e⟩,
  vq2 _ _ _ _ _ h.it,(f2.frozen (X _ _ c1) f.symm).trans h.zB,(f2.frozen (X _ _ c2) g.symm).trans h.zK,(f2.frozen (X _ _ c3) i.symm).trans h.zT,h.lo,h.ne⟩
 exact⟨hf.os,hf.tape,hf.output,zg hf.size f2.size,λq d hn=>(f2.keep q (zC d hf.size) J).trans (hf.keep q d hn),hf.fp⟩
end
def Bt(op:Nat):∀c∈uA op,c.toNat<128:=by
 unfold uA;split<;>decide
def zaj(w:z8)(a b:zx)(t:xM):∃W,W=((w.alloc (.cells #[a] t)).alloc (.cells #[b] t)).drew/\(zk W (w:Nat) 0 a/\W.frozen? (w,0)=false)/\(zk W ((w:Nat)+1) 0 b/\W.frozen? ((w:Nat)+1,0)=false)/\Fr yH yH w W/\W.heap.size=(w:Nat)+2:=by
 have e:(w.alloc (.cells #[a] t)).heap.size=(w:Nat)+1:=zV;refine⟨_,rfl,⟨yu (zZ w #[a] t (0,0) 0) _,?_⟩,⟨?_,?_⟩,(((Fr.refl _ _).alloc _).alloc _).drew,zV⟩
 .show((w.alloc (.cells #[a] t)).alloc (.cells #[b] t)).frozen? _=false;rw[zU (xQ _ _ _ zV)];simp
 .rw[<-e];exact zZ (w.alloc (.cells #[a] t)) #[b] t (0,0) 0
 .rw[<-e];show((w.alloc (.cells #[a] t)).alloc (.cells #[b] t)).frozen? _=false;simp
def Bh(g o:Nat)(i:uF)(kv tv v:zx)(l:Wd)(w:z8)(hi:IC w g o i kv tv)(ho:IE i)(hr:fT w v l)(hg:¬zM v g)(hk:∀q,zM kv q->q<w.heap.size/\¬zM v q)(ht:∀q,zM tv q->q<w.heap.size/\¬zM v q)(hF:qg w)
  (hfv:¬zM v 2) (hl:(l++xE i).length<=100000000) :
  zE prog 29 #[.pointer (some ⟨g,o,none⟩),v] w (zau v (l++xE i) w):=by
 have HI:=Z hi;have HO:=Z ho;have c0:=hi.c0;have c2:=hi.c2;have c3:=hi.c3;have c4:=hi.c4;obtain⟨ka,kc,ek⟩:=hi.k.slice;obtain⟨ta,tc,et⟩:=hi.t.slice;obtain⟨kn,hkn⟩:=zw i.k.length;obtain⟨tn,htn⟩:=zw i.tg.length;obtain⟨op,dL⟩:=zw i.op;have yav:=ho.op;rw[dL]at c0 yav;rw[hkn]at ek;rw[htn]at et;subst ek et;obtain⟨n,hn⟩:=zw l.length;have hr':=hr;dsimp only[fT]at hr';rw[hn]at hr';have HL:=Z hl;have DI:n<=100000000:=by rw[<-hn];simp only[zy]at hl;omega
 obtain⟨va,vc,rfl⟩:=zo hr';have HR:=Z hr';have HN:=Z hn;have oH:=Z hkn;have HTN:=Z htn;have HOP:=Z dL;clear hr hr' hn hl hkn htn dL hi ho;go_enter func29,ntmps29;go_wp2_with fail;refine Gu ?_;intro W1 H9;obtain⟨B,hB⟩:=zw w.heap.size;rw[hB];have f1:Fr yH yH w W1:=by rw[H9];exact Fr.of ((zu _ _).alloc (Y _) _)
 have b0:W1.cell? ⟨B,0,none⟩=some (.slice va n vc):=by rw[H9,<-hB];exact zZ _ _ _ _ _
 have b1:W1.frozen? ⟨B,0,none⟩=false:=by rw[H9,<-hB];simp
 have s1:W1.heap.size=B+1:=by rw[H9];simp[hB]
 have c0:=f1.cell c0 id;have hcv:IntKind.u8.wrap (op:Int)=((bt op).toNat:Int):=by simp[IntKind.wrap,IntKind.signed,IntKind.bits,bt]
 have HB:=Z hB;clear H9 hB;refine rk (λW':z8=>W'.cell? ⟨B,0,none⟩=some (.slice va n vc)/\W'.cell? ⟨g,o,none⟩=some (.int .i64 op)) 8 [0,1,2,3,4,5] 3 ⟨b0,c0⟩ ?_;(iterate 6 (refine ty ?_;try simp only[pl]))
 refine yW ?_;refine dF 6 (λJk hJ=>?_);go_simp;refine hJ.out _ _ ⟨yu b0 _,yu c0 _⟩ λ_=>?_
 clear hJ Jk;refine dF 7 (λJk hJ=>?_);rw[if_pos (by rfl)];rw[<-s1];change j6 _ _ _ (W1.drew.alloc (.cells [_].toArray _)) _ _
 refine jZ UY [_] 1 ((f1.own HR.out (λ_ _=>id):W1.drew.ownsRow _ _ _ _ _ _)) (by omega) ?_;intro v2 W2 DN ZL;have f2:Fr (zM (.slice va n vc)) (zM v2) w W2:=(f1.wide (λ_ q=>q.elim)).trans ZL.und;have xcf:=X _ _ b0;have nB:∀q,zM (.slice va n vc) q->q<B:=λq hq=>by have:=(HR.out.lt q hq).2;have:=HB.out;omega
 have b0:=ZL.cell (a:=⟨B,0,none⟩) (v := .slice va n vc) b0 (λq=>qV _ (nB _ q));have b1:=(ZL.frozen (a:=⟨B,0,none⟩) xcf (λq=>qV _ (nB _ q))).trans b1;have c0:=ZL.cell (a:=⟨g,o,none⟩) c0 hg;have nB2:¬zM v2 B:=λq=>(ZL.fp _ q).elim (λq=>qV _ (nB _ q)) (λq=>by have:W1.drew.heap.size=B+1:=s1;omega)
 obtain⟨va2,vc2,rfl⟩:=zo DN;go_simp;refine hJ.out _ _ ⟨b0,c0⟩ λ_=>?_
 clear hJ Jk;refine D0 8 (λJk hJ=>?_);go_simp;refine hJ.out _ _ ?_;clear hJ Jk;refine D1 ?_ _;have f3:=f2.set (a:=⟨B,0,none⟩) (.slice va2 (n+1) vc2) (.inr (by have:=HB.out;show w.heap.size<=B;omega));have b0:=xq b0 (.slice va2 (n+1) vc2);have b1:(W2.setCell ⟨B,0,none⟩ (.slice va2 (n+1) vc2)).frozen? ⟨B,0,none⟩=false:=by rw[zP];exact b1
 have lG:=Z (xP DN nB2 (.slice va2 (n+1) vc2) (a:=⟨B,0,none⟩));have Z0:=ZL.size;obtain⟨W3,Yl⟩:=zw (W2.setCell ⟨B,0,none⟩ (.slice va2 (n+1) vc2));rw[Yl]at f3 b0 b1 lG|-
 have sz3:B<W3.heap.size:=X _ _ b0;clear Yl ZL DN f2 f1 hcv c0;have c3:=f3.cell c3 hg;have c4:=f3.cell c4 hg;go_wp2_with fail;refine rt (λW':z8=>W'.cell? ⟨g,o+3,none⟩=some (.slice ka kn kc)/\W'.cell? ⟨g,o+4,none⟩=some (.slice ta tn tc)) [0,1,2,3,4,5,6,7] 4 ⟨c3,c4⟩ ?_;(iterate 8 (refine ty ?_;try simp only[pl]))
 refine yW ?_;obtain⟨N,hN⟩:=zw W3.heap.size;refine wpAnyH_ready (rs:=[8,9]) (by kernel_rfl) (by simp) (ub rfl (λJk hJ=>?_) (ub rfl (λJk hJ=>?_) XV));all_goals
  go_simp;refine hJ.out _ _ ⟨yu c3 _,yu c4 _⟩ λ_=>?_
  clear hJ Jk
 refine gU 9 (λJk hJ=>?_);rotate_left
 refine gU 8 (λJk hJ=>?_);rotate_left
 all_goals
  go_simp;refine hJ.out _ _ ⟨yu (yu c3 _) _,yu (yu c4 _) _⟩ λ_=>?_
  clear hJ Jk;refine gU 10 (λJk hJ=>?_);go_simp;refine hJ.out _ _ ⟨yu (yu c3 _) _,yu (yu c4 _) _⟩ λ_=>?_
  clear hJ Jk;refine gU 11 (λJk hJ=>?_);go_simp;refine hJ.out _ _ ⟨yu (yu c3 _) _,yu (yu c4 _) _⟩ λ_=>?_
  clear hJ Jk;refine Y5 ?_ _
 obtain⟨W4,Lp,e1,e2,fb,s4⟩:=zaj W3 (.slice ka kn kc) (.slice ta tn tc) 85;rw[<-Lp];obtain⟨K,hK⟩:=zw N;obtain⟨T,hT⟩:=zw (N+1);rw[hN]at e1 e2 s4;rw[hT]at e2|-
 rw[hK]at e1|-
 rotate_left
 obtain⟨W4,Lp,e2,e1,fb,s4⟩:=zaj W3 (.slice ta tn tc) (.slice ka kn kc) 85;rw[<-Lp];obtain⟨K,hK⟩:=zw (N+1);obtain⟨T,hT⟩:=zw N;rw[hN]at e1 e2 s4;rw[hK]at e1|-
 rw[hT]at e2|-
 rotate_left
 all_goals
  have hKN:N<=K:=by omega
  have hTN:N<=T:=by omega
  have hKT:K≠T:=by omega
  have hBN:B<N:=by rw[<-hN];exact sz3
  have f4:=f3.trans (fb.wide (λ_ q=>q.elim));have b0:=fb.cell b0 id;have b1:=(fb.frozen (a:=⟨B,0,none⟩) sz3 id).trans b1;have HR3:=Z (fb.own lG.out (λ_ _=>id));have nV:∀q,zM (.slice va2 (n+1) vc2) q->q<N/\q≠B:=λq hq=>⟨by rw[<-hN];exact(lG.out.lt q hq).2,λe=>nB2 (e▸hq)⟩
  have c5:=f4.cell (a:=⟨g,o,none⟩) (v := .int .i64 op) (by rw[<-HOP.out];exact HI.out.c0) hg;have c6:=f4.cell (hF op yav) hfv;have fl:decide ((op:Int)<12)=true:=by simp;omega
  clear Lp hK hT c3 c4 fb f3 hN lG c0 sz3 Z0;obtain⟨F,hFm⟩:=zw (uA op);rw[hFm]at c6;obtain⟨I,hI⟩:=zw (N+2);rw[hI]at s4;have nI:B<I/\K<I/\T<I:=by have:=X _ _ e1.1;have:=X _ _ e2.1;dsimp only at *;omega
  go_wp2_with fail;have HT:=Z (show xE i=bt op::ue F i.v i.k i.tg by unfold xE;rw[HOP.out,hFm]);go_loopw [10] (λ_ wr=>∃j done ks ts,j<=F.length/\ER w (.slice va n vc) B K T I ⟨F.toArray⟩ j done ks ts wr/\done++ue (F.drop j) i.v ks ts=l++xE i/\okB (F.drop j) ks.length ts.length=true/\(∀x∈ks,x<=4000000000)/\(∀x∈ts,x<=4000000000)/\ks.length<=1000000) (λ_ wr=>F.length - wr.iterPos I)
  case atStart =>
   have fi:Fr yH yH W4 (W4.iter ⟨F.toArray⟩ 0):=(Fr.refl _ _).alloc _;have Dt:=HO.out.k;have dH:=HO.out.t;have KR:=HO.out.ok;rw[HOP.out,hFm]at KR;have hwB:w.heap.size=B:=HB.out;have eb:gp l++[yZ Vz ((bt op).toNat:Int)]=gp (l++[bt op]):=by simp[gp]
   have el:n+1=(l++[bt op]).length:=by simp[HN.out]
   have hR4:fT (W4.iter ⟨F.toArray⟩ 0) (.slice va2 (n+1) vc2) (l++[bt op]):=by
    have:=fi.own HR3.out (λ_ _=>id);rw[eb,el]at this;rw[el];exact this
   refine⟨0,l++[bt op],i.k,i.tg,zJ _,⟨⟨_,_,_,fi.cell b0 id,fi.cell e1.1 id,fi.cell e2.1 id,hR4,(HI.out.k.fr f4 (λq hq=>(hk q hq).2)).fr fi (λ_ _=>id),(HI.out.t.fr f4 (λq hq=>(ht q hq).2)).fr fi (λ_ _=>id),f4.alloc _,
    λq=>(nV _ q).2 rfl,λq=>by have:=(nV _ q).1;omega,λq=>by have:=(nV _ q).1;omega,λq=>by have:=(nV _ q).1;omega,λq hq=>hq.elim (hk q) (ht q)⟩,by rw[<-s4];exact ye8 W4 _ 0,(fi.frozen (a:=⟨B,0,none⟩) (show B<_ by omega) id).trans b1,(fi.frozen (X _ _ e1.1) id).trans e1.2,(fi.frozen (X _ _ e2.1) id).trans e2.2,by omega,by omega⟩,?_,KR,Dt,dH,HO.out.len⟩
   rw[HT.out];simp
  case round =>
   obtain⟨j,done,ks,ts,hj,Ru,heq,KR,D5,pD,lh⟩:=hrel;have HAP:=Z Ru;have hit:=Ru.it;by_cases uh:j<F.length
   .obtain⟨c,hc⟩:=zw (F[j]);have hd:F.drop j=c::F.drop (j+1):=by rw[<-hc];exact yd uh
    have hn:=Lib.run_next_ascii_at (P:=prog) wr I ⟨F.toArray⟩ j 0 hit (by rw[size_mk];exact uh) (by
     show(F[j]).toNat<128;exact Bt op _ (by rw[hFm];exact yf _))
    rw[show(vD F.toArray)[j]'(by rw[size_mk];exact uh)=c from hc]at hn;have Gn:=Ru.next (j+1);obtain⟨W5,hW5⟩:=zw (wr.iterAt I ⟨F.toArray⟩ (j+1));rw[hW5]at hn Gn;rw[hd]at heq KR;have HJ:=Z (show W5.iterPos I=j+1 from jm Gn.it);have HJ0:=Z (show wr.iterPos I=j from jm Ru.it);have HD:=Z hd;clear hW5 hd Ru hit hc;have IH:c=107\/c=110\/c=118\/c=116\/c=42:=by
     unfold okB at KR;split at KR
     .next h=>rcases h with h|h<;>simp[h]
     .split at KR
      .next h=>simp[h]
      .split at KR
       .next h=>simp[h]
       .simp at KR;simp[KR.1]
    rcases IH with rfl|rfl|rfl|rfl|rfl;iterate 2
     cases ks with
     |nil=>simp[okB]at KR
     |cons x ks =>
      have hx:=D5 x (by simp);have HQ:=Z (show(done++vq x)++ue (F.drop (j+1)) i.v ks ts=l++xE i by rw[<-heq];simp[ue]);have HK:=Z (show okB (F.drop (j+1)) ks.length ts.length=true by simpa[okB]using KR);have HC:=Z (Gn.con hx (by have:=congrArg xJ heq;have:=HL.out;simp only[zy]at *;omega));have HBK:=Z D5;clear heq KR Gn D5 hx;go_wp2_with fail;refine HC.out.mono ?_;rintro e W6 ⟨rfl,Dq⟩;have HIP:=Z (jm Dq.it);go_wp2;go_roundw
      case rel=>exact⟨j+1,_,ks,ts,uh,Dq,HQ.out,HK.out,λy hy=>HBK.out y (by simp[hy]),pD,by simp at lh;omega⟩
      case measure=>rw[HIP.out,HJ0.out];omega
    .obtain⟨v,kv,tv,d1,d2,d3,dr,dk,dt,df,n1,n2,n3,n4,dq⟩:=Gn.ex;have hv:=HO.out.v;have HQ:=Z (show(done++j8 i.v)++ue (F.drop (j+1)) i.v ks ts=l++xE i by rw[<-heq];simp[ue]);have HK:=Z (show okB (F.drop (j+1)) ks.length ts.length=true by simpa[okB]using KR);have HC:=Z (Rx v done i.v W5.drew (by exact dr) (by omega) (by have:=congrArg xJ heq;have:=HL.out;simp only[zy]at *;omega));obtain⟨D,hD⟩:=zw (done++j8 i.v);rw[hD]at HQ HC;have HA2:=Z Gn;have g2:=df.cell c2 hg;have hcv:IntKind.u32.wrap (i.v:Int)=(i.v:Int):=by simp[yf9,EU,OQ];omega
     have z1:=Gn.zB;have DF:=Z df;clear heq KR Gn dr dk dt dq df hD;go_wp2_with fail;refine rk (λW':z8=>W'.cell? ⟨B,0,none⟩=some v/\W'.cell? ⟨g,o+2,none⟩=some (.int .i64 i.v)) 7 [0,1,2,3,4,5] 2 ⟨d1,g2⟩ ?_;(iterate 6 (refine ty ?_;try simp only[pl]))
     refine yW ?_;refine dF 6 (λJk hJ=>?_);go_simp;refine HC.out.mono ?_;rintro e W6 ⟨v',rfl,Ks,gW⟩;have Dq:=HA2.out.more d1 Ks gW.und;have z6:=(gW.frozen (a:=⟨B,0,none⟩) (X _ _ d1) n1).trans z1;have k6:=gW.cell (a:=⟨B,0,none⟩) (v:=v) d1 n1;have g6:=gW.cell (a:=⟨g,o+2,none⟩) g2 (λq=>(DF.out.fp _ q).elim hg (λq=>by have:g<w.heap.size:=X w _ c2;have q2:w.heap.size<=g:=q;omega));refine hJ.out _ _ ⟨k6,g6⟩ λ_=>?_
     clear hJ Jk;refine D0 7 (λJk hJ=>?_);obtain⟨a6,c6',rfl⟩:=zo Ks;go_simp;refine hJ.out _ _ ?_;clear hJ Jk;refine D1 ?_ _;have HIP:=Z (jm Dq.it);have HA3:=Z Dq;clear Dq Ks gW;go_wp2;go_roundw
     case rel=>exact⟨j+1,_,ks,ts,uh,HA3.out,HQ.out,HK.out,D5,pD,lh⟩
     case measure=>rw[HIP.out,HJ0.out];omega
    .skip
     cases ts with
     |nil=>simp[okB]at KR
     |cons x ts =>
      have hx:=pD x (by simp);have HQ:=Z (show(done++vq x)++ue (F.drop (j+1)) i.v ks ts=l++xE i by rw[<-heq];simp[ue]);have HK:=Z (show okB (F.drop (j+1)) ks.length ts.length=true by simpa[okB]using KR);have HC:=Z (Gn.tar hx (by have:=congrArg xJ heq;have:=HL.out;simp only[zy]at *;omega));have HBK:=Z pD;clear heq KR Gn pD hx;go_wp2_with fail;refine HC.out.mono ?_;rintro e W6 ⟨rfl,Dq⟩;have HIP:=Z (jm Dq.it);go_wp2;go_roundw
      case rel=>exact⟨j+1,_,ks,ts,uh,Dq,HQ.out,HK.out,D5,λy hy=>HBK.out y (by simp[hy]),lh⟩
      case measure=>rw[HIP.out,HJ0.out];omega
    .obtain⟨v,kv,tv,d1,d2,d3,dr,dk,dt,df,n1,n2,n3,n4,dq⟩:=Gn.ex;obtain⟨q1,q2,KR⟩:ks.length<ts.length/\okB (F.drop (j+1)) 0 (ts.length - (ks.length+1))=true/\True:=by simpa[okB]using KR
     have HK:=Z q2;have HQ:=Z (show(done++vq ks.length)++(YG ks ts++ue (F.drop (j+1)) i.v [] (ts.drop (ks.length+1)))=l++xE i by rw[<-heq];simp[ue]);have HC:=Z (DM v done ks.length W5 (by exact dr) (by omega) (by have:=congrArg xJ heq;have:=HL.out;simp only[zy]at *;omega));obtain⟨D,hD⟩:=zw (done++vq ks.length);rw[hD]at HQ HC;have HA2:=Z Gn;obtain⟨ea,ec,rfl⟩:=dk.slice;clear heq KR Gn dr dk dt dq df hD q2;go_wp2_with fail;refine HC.out.mono ?_;rintro e W6 ⟨v',rfl,Ks,gW⟩;have Dq:=HA2.out.more d1 Ks gW;have z6:=(gW.frozen (a:=⟨B,0,none⟩) (X _ _ d1) n1).trans HA2.out.zB;have k6:=gW.cell (a:=⟨B,0,none⟩) (v:=v) d1 n1;obtain⟨a6,c6',rfl⟩:=zo Ks;have HA3:=Z Dq;clear Dq Ks gW HC;go_wp2;go_loopw [] (λwr2=>∃d2 k2 t2,ER w (.slice va n vc) B K T I ⟨F.toArray⟩ (j+1) d2 k2 t2 wr2/\d2++(YG k2 t2++ue (F.drop (j+1)) i.v [] (ts.drop (ks.length+1)))=l++xE i/\t2.drop (k2.length+1)=ts.drop (ks.length+1)/\k2.length<t2.length/\(∀x∈k2,x<=4000000000)/\(∀x∈t2,x<=4000000000)) (λwr2=>zak wr2 K)
     case atStart=>exact⟨D,ks,ts,HA3.out,HQ.out,rfl,q1,D5,pD⟩
     case round =>
      clear HA3 HA2;obtain⟨d2,k2,t2,Ru,heq,hdr,Bj,hk2,ht2⟩:=hrel
      cases t2 with
      |nil=>simp at Bj
      |cons t t2 =>
      have yvx:=Ru;obtain⟨v7,kv7,tv7,g1,g2,g3,-,gk,-,-,-,-,-,-,-⟩:=Ru.ex;obtain⟨a7,c7,rfl⟩:=gk.slice;have hlen:(d2++vq t).length<=100000000:=by have:=congrArg xJ heq;have:=HL.out;cases k2<;>simp only[zy,YG,List.headD_cons,vq,zY,yG]at * <;> omega
      have yaq:d2.length<=100000000:=by simp at hlen;omega
      have HM:=Z Ru.xck;clear gk
      cases k2 with
      |nil =>
       have HC:=Z (yvx.tar (ht2 t (by simp)) yaq);have pB:=Z heq;have HDR:=Z hdr;clear Ru yvx heq hdr;go_wp2_with fail;refine HC.out.mono ?_;rintro e W8 ⟨rfl,zaf⟩;have HIP:=Z (jm zaf.it);go_wp2;go_roundw
       case rel =>
        have hd8:t2=ts.drop (ks.length+1):=HDR.out;refine⟨j+1,_,[],t2,uh,zaf,?_,?_,λ_ h=>by simp at h,λy hy=>ht2 y (by simp[hy]),by simp⟩
        .rw[<-pB.out,hd8];simp[YG]
        .rw[hd8];simpa using HK.out
       case measure=>rw[HIP.out,HJ0.out];omega
      |cons x k2 =>
       obtain⟨n2,DD⟩:=zw ((x::k2).length);have hn3:0<n2:=by rw[<-DD];simp
       rw[DD]at g2;have k0:decide (0<n2)=true:=by simp[hn3]
       have k1:decide ((0:Int)<(n2:Int))=true:=by simp;omega
       have HC:=Z (yvx.con (hk2 x (by simp)) yaq);have pB:=Z heq;have HDR:=Z hdr;have HN2:=Z DD;clear Ru yvx heq hdr DD;go_wp2_with fail;refine HC.out.mono ?_;rintro e W8 ⟨rfl,zaf⟩;have HT8:=Z (zaf.tar (ht2 t (by simp)) (by simp only[zy,vq,zY,yG]at hlen|-;omega));go_wp2_with fail;refine HT8.out.mono ?_;rintro e W9 ⟨rfl,xcb⟩;have HM9:=Z xcb.xck;clear HT8 zaf;go_wp2;go_roundw
       case rel=>exact⟨_,k2,t2,xcb,by rw[<-pB.out];simp[YG],by simpa using HDR.out,by simp at Bj;omega,λy hy=>hk2 y (by simp[hy]),λy hy=>ht2 y (by simp[hy])⟩
       case measure=>rw[HM9.out,HM.out];simp
   .have hn:=ye9 (P:=prog) wr I ⟨F.toArray⟩ j 0 hit (by rw[size_mk];exact uh);obtain⟨v,kv,tv,d1,d2,d3,dr,dk,dt,df,n1,n2,n3,n4,dq⟩:=Ru.ex;have hFe:F.drop j=[]:=yL (by omega);rw[hFe]at heq;have pB:=Z (show done=l++xE i by rw[<-heq];simp[ue]);have HDR:=Z dr;have HDF:=Z df;clear Ru heq KR dr df dk dt dq hit;go_wp2;go_ret;rw[<-pB.out];exact⟨v,rfl,HDR.out,HDF.out⟩
variable{xs:List zx}{size:Nat}{e:xM}
structure MkS where
 cs:List Wd
 code:List uF
 pos:Nat
namespace MkS
def const(s:MkS)(t:Wd):MkS:=if t∈s.cs then s else { s with cs:=s.cs++[t] }
def num(s:MkS)(t:Wd):Nat:=s.cs.idxOf t
def put(s:MkS)(op v:Nat)(k tg:List Nat):MkS:={ s with code:=s.code++[⟨op,s.pos,v,k,tg⟩],pos:=s.pos+(xE ⟨op,s.pos,v,k,tg⟩).length }
def xL(s:MkS)(i j:Nat):MkS:={ s with code:=s.code.modify i λx=>{ x with tg:=x.tg.set j s.pos } }
end MkS
structure XX where
 B:Nat
 q:Nat
 m:Nat
 vC:zx
 vI:zx
 rs:List (zx×zx)
def XX.has(L:XX)(p k:Nat):Prop:=k=p\/k=L.q\/k=L.m\/zM L.vC k\/zM L.vI k\/∃r∈L.rs,zM r.1 k\/zM r.2 k
def JU(i:uF)(r:zx×zx):List zx:=[.int .i64 i.op,.int .i64 i.pos,.int .i64 i.v,r.1,r.2]
def dN:List uF->List (zx×zx)->List zx
 |i::l,r::rs=>JU i r++dN l rs
 |_,_=>[]
def bh(l:List Nat):List zx:=l.map λx => .int .i64 (x:Nat)
abbrev uk(w:z8)(v:zx)(l:List Nat):Prop:=w.ownsRow 0 3 1 v l.length (bh l)
def Rq:Yz prog 81 87 (.agg #[.int .i64 0,.int .i64 0,.int .i64 0,.slice none 0 0,.slice none 0 0]) 5 72 :=
 ⟨underlying81,V9 yg,rfl,zW,zW⟩
def Bw:∀(l:List uF) (rs:List (zx×zx)) (i:uF) (r:zx×zx),rs.length=l.length->dN (l++[i]) (rs++[r])=dN l rs++JU i r
 |[],[],i,r,_=>by simp[dN]
 |[],r'::rs,i,r,h=>Vr
 |i'::l,[],i,r,h=>Vr
 |i'::l,r'::rs,i,r,h=>by simp[dN,Bw l rs i r QH]
def Jx:∀(l:List uF) (rs:List (zx×zx)),rs.length=l.length->∀n j (i:uF) (r:zx×zx),l[n]? = some i->rs[n]? = some r->j<5->(dN l rs)[n*5+j]? = (JU i r)[j]?
 |[],_,_,n,j,i,r,h,_,_=>Vr
 |i'::l,[],h,_,_,_,_,_,_,_=>Vr
 |i'::l,r'::rs,h,0,j,i,r,h1,h2,a=>by
  simp at h1 h2;subst h1 h2;simp only[dN,vz0,uE];exact zi (by simpa[JU]using a)
 |i'::l,r'::rs,h,n+1,j,i,r,h1,h2,a=>by
  have:=Jx l rs QH n j i r (by simpa using h1) BG a;rw[<-this];simp only[dN];rw[yp (by simp[JU];omega)];congr 1;simp[JU];omega
def Rk:∀(l:List uF) (rs:List (zx×zx)) (n:Nat) (f:List Nat->List Nat),dN (l.modify n λx=>{ x with tg:=f x.tg }) rs=dN l rs
 |[],_,n,f=>by simp[dN]
 |i::l,[],0,f=>by simp[dN]
 |i::l,[],n+1,f=>by simp[dN]
 |i::l,r::rs,0,f=>by simp[dN,JU]
 |i::l,r::rs,n+1,f=>by simp[dN,Rk l rs n f]
def gz(w:z8)(k:Nat):Option xM:=match w.heap[k]? with|some (.cells _ t _)=>some t|_=>none
def xn{base:Nat}(h:w.ownsRow base e size v n xs){g:Nat}(a:zM v g):gz w g=some e:=by
 rcases h.2 with⟨hv,_⟩|⟨g',cap,b,hv,_,c,_⟩
 .rw[hv]at a;cases a
 .rw[hv]at a;cases a;simp[gz,c]
def ym(h:w'.heap[k]? = w.heap[k]?):gz w' k=gz w k:=by unfold gz;rw[h]
def qJ(w:z8)(a:yI)(u:zx)(k:Nat):gz (w.setCell a u) k=gz w k:=by
 by_cases b:k=a.block
 .subst b;unfold gz xu;simp only[xc,if_true];cases c:w.heap[a.block]? with
  |none=>rfl
  |some o=>cases o<;>rfl
 .exact ym (yX _ _ _ _ b)
def bN(w:z8)(c:Array zx)(t:xM):gz (w.alloc (.cells c t)) (w:Nat)=some t:=by
 unfold gz;show(match (w.heap.push (.cells c t (0,0)))[(w:Nat)]? with|some (.cells _ t _)=>some t|_=>none)=_;simp
def uO{t:xM}(h:gz w k=some t):k<(w:Nat):=by
 unfold gz at h;split at h
 .next a=>exact(yR.1 a).1
 .cases h
def Xc{b:Nat}{f:Wd->Option Nat}(h:jG e w b n f):gz w b=none:=by
 obtain⟨D,⟨es,a,c,_⟩,_⟩:=h;simp[gz,c]
def jg(cs:List Wd)(t:Wd):Option Nat:=if t∈cs then some (cs.idxOf t)else none
structure UU(w:z8)(code:List uF)(rs:List (zx×zx)):Prop where
 len:rs.length=code.length
 k:∀(n:Nat) (i:uF) (r:zx×zx),code[n]? = some i->rs[n]? = some r->uk w r.1 i.k/\uk w r.2 i.tg
 ne:∀(n m:Nat) (r r':zx×zx),rs[n]? = some r->rs[m]? = some r'->∀g,zM r.2 g->¬zM r'.1 g/\(zM r'.2 g->n=m)
def UU.fr{code:List uF}{rs:List (zx×zx)}(h:UU w code rs)(hf:Fr F F' w w')(hF:∀k,F k->gz w k≠some 3):UU w' code rs :=
 ⟨h.len,λn i r h1 h2=>by
  obtain⟨a,b⟩:=h.k n i r h1 h2;exact⟨hf.own a (λg c d=>hF g d (xn a c)),hf.own b (λg c d=>hF g d (xn b c))⟩,h.ne⟩
structure uU(p:Nat)(L:XX)(s:MkS)(w:z8):Prop where
 p0:zk w p 0 (L.q,0)
 p1:zk w p 1 s.pos
 p2:zk w p 2 (.map (some L.m))
 q0:zk w L.q 0 L.vC
 q1:zk w L.q 1 L.vI
 q2:zk w L.q 2 (.map none)
 zp:∀j,w.frozen? ⟨p,j,none⟩=false
 zq:∀j,w.frozen? ⟨L.q,j,none⟩=false
 tp:gz w p=some 141
 tq:gz w L.q=some 84
 mp:jG 3 w L.m s.cs.length (jg s.cs)
 cC:w.ownsRow 0 9 1 L.vC s.cs.length (s.cs.map zO)
 cI:w.ownsRow 0 87 5 L.vI s.code.length (dN s.code L.rs)
 rows:UU w s.code L.rs
 lo:∀k,L.has p k->L.B<=k
def jG.fr{b:Nat}{f:Wd->Option Nat}(h:jG e w b n f)(hf:Fr F F' w w')(hb:¬F b):jG e w' b n f:=h.keep (hf.keep b h.lt hb)
def uU.fr{L:XX}{s:MkS}(h:uU p L s w)(hf:Fr F F' w w')(hF:∀k,F k->¬L.has p k):uU p L s w':=by
 have d:¬F p:=λq=>hF p q (.inl rfl)
 have nq:¬F L.q:=λq=>hF _ q (.inr (.inl rfl))
 have lp:=uO h.tp;have e:=uO h.tq;refine⟨hf.cell h.p0 d,hf.cell h.p1 d,hf.cell h.p2 d,hf.cell h.q0 nq,hf.cell h.q1 nq,hf.cell h.q2 nq,λj=>(hf.frozen lp d).trans (h.zp j),λj=>(hf.frozen e nq).trans (h.zq j),(ym (hf.keep p lp d)).trans h.tp,(ym (hf.keep _ e nq)).trans h.tq,
  h.mp.fr hf (λq=>hF _ q (.inr (.inr (.inl rfl)))),hf.own h.cC (λg c q=>hF g q (.inr (.inr (.inr (.inl c))))),hf.own h.cI (λg c q=>hF g q (.inr (.inr (.inr (.inr (.inl c)))))),⟨h.rows.len,λn i r h1 h2=>?_,h.rows.ne⟩,h.lo⟩
 obtain⟨a,b⟩:=h.rows.k n i r h1 h2;have hr:=ze h2;exact⟨hf.own a (λg c q=>hF g q (.inr (.inr (.inr (.inr (.inr ⟨r,hr,.inl c⟩)))))),hf.own b (λg c q=>hF g q (.inr (.inr (.inr (.inr (.inr ⟨r,hr,.inr c⟩))))))⟩
def uU.lt{L:XX}{s:MkS}(h:uU p L s w)(c:L.has p k):k<(w:Nat):=by
 rcases c with rfl|rfl|rfl|c|c|⟨r,hr,c⟩
 .exact uO h.tp
 .exact uO h.tq
 .exact h.mp.lt
 .exact ug h.cC c
 .exact ug h.cI c
 .obtain⟨n,hn,e⟩:=ja.1 hr;have h1:L.rs[n]? = some r:=by rw[zj hn,e]
  have h2:s.code[n]? = some (s.code[n]' GI):=zj _;obtain⟨a,b⟩:=h.rows.k n _ r h2 h1;exact c.elim (ug a) (ug b)
def uU.alloc{L:XX}{s:MkS}(h:uU p L s w)(o:Obj):uU p L s (w.alloc o):=h.fr ((Fr.refl yH w).alloc o) (λ_ q=>q.elim)
def uU.drew{L:XX}{s:MkS}(h:uU p L s w):uU p L s w.drew:=h.fr (Fr.refl yH w).drew (λ_ q=>q.elim)
def uU.base{L:XX}{s:MkS}(h:uU p L s w):L.B<=p/\p<(w:Nat):=⟨h.lo p (.inl rfl),uO h.tp⟩
def uU.low{L L':XX}{s:MkS}(h:uU p L s w)(hb:L'.B=L.B)(hf:Fr (L.has p) (L'.has p) w w'):∀k,L'.has p k->L'.B<=k:=λk a=>by
 have:=h.base;rw[hb];exact(hf.fp k a).elim (h.lo k) J
def MkQ(p:Nat)(L:XX)(s:MkS)(w w':z8):Prop:=∃L',uU p L' s w'/\(L'.q=L.q/\L'.B=L.B)/\Fr (L.has p) (L'.has p) w w'
variable{L:XX}{s:MkS}{t:Wd}{w1 w2:z8}
def Gp:pQ 139 3:=⟨underlying139,underlying3,λw=>kO⟩
def FO{cs:List Wd}(h:t ∉ cs):(λx=>if t=x then some cs.length else jg cs x)=jg (cs++[t]):=by
 funext x;unfold jg;by_cases hx:t=x
 .subst hx;simp[h,VV,xj9]
 .have a:¬x=t:=λe=>hx e.symm
  by_cases hm:x∈cs
  .simp[hx,hm,VV]
  .simp[hx,hm,a]
def uU.nC(h:uU p L s w){g:Nat}(a:zM L.vC g):g≠p/\g≠L.q/\g≠L.m/\¬zM L.vI g:=by
 have t:=xn h.cC a;refine⟨?_,?_,?_,λq=>?_⟩
 .rintro rfl;rw[h.tp]at t;simp at t
 .rintro rfl;rw[h.tq]at t;simp at t
 .rintro rfl;rw[Xc h.mp]at t;cases t
 .rw[xn h.cI q]at t;simp at t
def uU.nI(h:uU p L s w){g:Nat}(a:zM L.vI g):g≠p/\g≠L.q/\g≠L.m:=by
 have t:=xn h.cI a;refine⟨?_,?_,?_⟩
 .rintro rfl;rw[h.tp]at t;simp at t
 .rintro rfl;rw[h.tq]at t;simp at t
 .rintro rfl;rw[Xc h.mp]at t;cases t
def uU.nP(h:uU p L s w):p≠L.q/\p≠L.m/\L.q≠L.m:=by
 refine⟨λe=>?_,λe=>?_,λe=>?_⟩
 .have:=h.tp;rw[e,h.tq]at this;simp at this
 .have:=h.tp;rw[e,Xc h.mp]at this;cases this
 .have:=h.tq;rw[e,Xc h.mp]at this;cases this
def uU.more(h:uU p L s w)(v:t ∉ s.cs)(hm:jG 3 w1 L.m (s.cs.length+1) (λx=>if t=x then some s.cs.length else jg s.cs x))(h1:w.grownBy w1 (some L.m))
  (u:w2.ownsRow 0 9 1 v' (s.cs.length+1) (s.cs.map zO++[zO t])) (h2:Fr (zM L.vC) (zM v') w1 w2) :
  ∃L',uU p L' { s with cs:=s.cs++[t] } (w2.setCell (L.q,0) v')/\(L'.q=L.q/\L'.B=L.B)/\Fr (L.has p) (L'.has p) w (w2.setCell (L.q,0) v'):=by
 obtain⟨n1,n2,n3⟩:=h.nP;have nC:=λg d=>h.nC (g:=g) d
 have nI:=λg d=>h.nI (g:=g) d
 have n:=uO h.tq;have lp:=uO h.tp;have f1:Fr (λk=>k=L.m) (λk=>k=L.m) w w1:=⟨h1.os,h1.tape,h1.output,h1.size,λk b hn=>h1.block k b (λe=>hn (zL e)),λ_ q => .inl q⟩;have f2:Fr (λk=>k=L.m\/zM L.vC k) (λk=>k=L.m\/zM v' k) w w2:=by
  have a:=f1.wide (G:=λk=>k=L.m\/zM L.vC k) (λ_ q => .inl q);exact⟨h2.os.trans a.os,h2.tape.trans a.tape,h2.output.trans a.output,zg a.size h2.size,λk b hn=>(h2.keep k (zC b a.size) (λq=>hn (.inr q))).trans (a.keep k b hn),λk q=>q.elim (λq => .inl (.inl q)) (λq=>(h2.fp k q).imp .inr (zg a.size))⟩
 have nq:¬(L.q=L.m\/zM L.vC L.q):=λq=>q.elim n3 (λq=>(nC _ q).2.1 rfl)
 have z:¬(p=L.m\/zM L.vC p):=λq=>q.elim n2 (λq=>(nC _ q).1 rfl)
 have o:∀g,zM v' g->zM L.vC g\/(w:Nat)<=g:=λg d=>(h2.fp g d).imp id (zg f1.size)
 have r:=f2.cell h.q0 nq;have y:¬zM v' L.q:=λq=>(o _ q).elim (λq=>(nC _ q).2.1 rfl) J
 have f3:Fr (λk=>k=L.m\/zM L.vC k\/k=L.q) (λk=>k=L.m\/zM L.vC k\/k=L.q) w (w2.setCell ⟨L.q,0,none⟩ v'):=(f2.wide (λ_ q=>q.elim .inl (λq => .inr (.inl q)))).set _ (.inl (.inr (.inr rfl)));have c:¬(p=L.m\/zM L.vC p\/p=L.q):=λq=>q.elim n2 (λq=>q.elim (λq=>(nC _ q).1 rfl) n1)
 have i:∀g,zM L.vI g->¬(g=L.m\/zM L.vC g\/g=L.q):=λg d q=>q.elim (nI g d).2.2 (λq=>q.elim (λq=>(nC _ q).2.2.2 d) (nI g d).2.1)
 have l:Fr (L.has p) (XX.has { L with vC:=v' } p) w (w2.setCell (L.q,0) v'):=by
  refine(f3.wide (G:=L.has p) (λk b=>by rcases b with b|b|b;exact .inr (.inr (.inl b));exact .inr (.inr (.inr (.inl b)));exact .inr (.inl b))).tg λk b=>?_
  rcases b with b|b|b|b|b|b
  .exact .inl (.inl b)
  .exact .inl (.inr (.inl b))
  .exact .inl (.inr (.inr (.inl b)))
  .exact(o k b).imp (λq => .inr (.inr (.inr (.inl q)))) id
  .exact .inl (.inr (.inr (.inr (.inr (.inl b)))))
  .exact .inl (.inr (.inr (.inr (.inr (.inr b)))))
 refine⟨{ L with vC:=v' },⟨f3.cell h.p0 c,f3.cell h.p1 c,f3.cell h.p2 c,xq r _,?_,?_,λj=>(f3.frozen lp c).trans (h.zp j),λj=>?_,(ym (f3.keep p lp c)).trans h.tp,?_,?_,?_,f3.own h.cI i,h.rows.fr f3 ?_,h.low rfl l⟩,⟨rfl,rfl⟩,l⟩
 .rw[zr,yv zV];exact f2.cell h.q1 nq
 .rw[zr,yv zV];exact f2.cell h.q2 nq
 .rw[zP];exact(f2.frozen n nq).trans (h.zq j)
 .rw[qJ];exact(ym (f2.keep _ n nq)).trans h.tq
 .have f:jG 3 w2 L.m (s.cs.length+1) (λx=>if t=x then some s.cs.length else jg s.cs x):=hm.fr h2 (λq=>(nC _ q).2.2.1 rfl);rw[FO v]at f;have:=f.keep (w':=w2.setCell ⟨L.q,0,none⟩ v') (yX _ _ _ _ (λe=>n3 e.symm));simpa using this
 .have:=xP u (a:=(L.q,0)) y v';simpa using this
 .intro k b;rcases b with rfl|b|rfl
  .rw[Xc h.mp];simp
  .rw[xn h.cC b];simp
  .rw[h.tq];simp
def Qf(p:Nat)(L:XX)(s:MkS)(t:Wd)(w:z8)(h:uU p L s w)(E:t.length<=5000000)(I:s.cs.length<=1000000) :
  zE prog 140 #[(p,0),zO t] w λe w'=>e = .returned (s.num t:Nat)/\∃L',uU p L' (s.const t) w'/\(L'.q=L.q/\L'.B=L.B)/\Fr (L.has p) (L'.has p) w w':=by
 have r:=Z h;have p0:=h.p0;have p2:=h.p2;have q0:=h.q0;have x:=h.mp.look Gp t E;by_cases b:t∈s.cs
 .rw[show jg s.cs t=some (s.num t)from yK b]at x;have C:=Z (show s.const t=s from yK b);clear h b;go_enter func140,ntmps140;go_wp2;go_ret;rw[C.o];exact⟨rfl,L,r.o,⟨rfl,rfl⟩,Fr.refl _ _⟩
 .rw[show jg s.cs t=none from yv b]at x;have C:=Z (show s.const t={ s with cs:=s.cs++[t] }from yv b);have G:=Z (show s.num t=s.cs.length from zr3 b);obtain⟨w1,y,k,f⟩:=h.mp.put Gp t E (s.cs.length:Nat) s.cs.length rfl J J;obtain⟨n,hn⟩:=zw s.cs.length;have D:=Z b;have u:=f.cell p0 (λe=>h.nP.2.1 (zL e));have j:=f.cell q0 (λe=>h.nP.2.2 (zL e));have c:w1.ownsRow 0 9 1 L.vC s.cs.length (s.cs.map zO):=h.cC.kept f (by
   cases hv:L.vC.ownBlock with
   |none=>exact .inl rfl
   |some g=>exact .inr (λe=>(h.nC hv).2.2.1 (zL e)))
  obtain⟨ca,cc,l⟩:=zo c;rw[hn]at y k c l;rw[l]at q0 j c;clear h b;go_enter func140,ntmps140;go_wp2_with fail;refine Dp (λW':z8=>zk W' p 0 (zQ L.q 0)/\zk W' L.q 0 (.slice ca n cc)) 16 [0,1,2,3,4,5,6,7,8,9,10,11] 5 ⟨u,j⟩ ?_;refine dF 12 (λv m=>?_);go_simp;refine m.out _ _ ⟨yu u _,yu j _⟩ λ_=>?_
  clear m v;refine dF 13 (λv m=>?_);rw[yK xG];change j6 _ _ _ (w1.drew.alloc (.cells [_].toArray _)) _ _
  refine jZ fX [_] 1 (by exact c) J ?_;intro v2 w2 i a;have a:=a.und;rw[<-l]at a;have F:=Z a;have z:=a.cell u (λq=>(r.o.nC q).1 rfl);have A:=a.cell j (λq=>(r.o.nC q).2.1 rfl);have z2:=(a.frozen (X _ _ j) (λq=>(r.o.nC q).2.1 rfl)).trans ((zU (f.block L.q (X _ _ q0) (λe=>r.o.nP.2.2 (zL e)))).trans (r.o.zq 0));rw[<-hn]at i k;have H:=Z (r.o.more D.o k f i a);rw[hn]at i;obtain⟨a2,c2,rfl⟩:=zo i;clear i a k l c;go_simp;refine m.out _ _ ⟨z,A⟩ λ_=>?_
  clear m v;refine jM [14,15] 1 rfl ZW yg yg ⟨z,A⟩ ?_;(iterate 2 (refine ty ?_;try simp only[pl]))
  refine yW ?_;refine D0 16 (λv m=>?_);go_simp;refine m.out _ _ ?_;clear m v;refine D1 ?_ _;go_wp2;go_ret;rw[C.o,G.o,hn];exact⟨rfl,H.o⟩
variable{kv tv:zx}
structure jF(w:z8)(p:Nat)(i:Nat)(b c:Nat):Prop where
 pb:zk w b 0 (p,0)
 pc:zk w c 0 i
 tb:gz w b=some 138
 tc:gz w c=some 3
abbrev Zl(b c:Nat):zx := .func (.func 99) #[] #[(b,0),(c,0)]
def uk.pC{l:List Nat}(h:uk w v l):fW w v l:=by
 rcases h.2 with⟨rfl,hn⟩|⟨g,cap,d,rfl,_,f,b,a,e,i⟩
 .exact⟨none,0,by rw[hn],J,zJ _,λj c=>J⟩
 .refine⟨_,cap,rfl,b,a,λj c=>⟨_,rfl,?_⟩⟩;rw[ve,vz1 h j J];simp[bh,c]
def uU.xe1{i:uF}(h:uU p L s w)(b:uk w kv i.k)(D:uk w tv i.tg)(H:∀g,zM kv g->¬L.has p g)(A:∀g,zM tv g->¬L.has p g)(I:∀g,zM tv g->¬zM kv g)
  (lk:∀g,zM kv g\/zM tv g->L.B<=g) (F:w2.ownsRow 0 87 5 v' (s.code.length+1) (dN s.code L.rs++JU i (kv,tv))) (h2:Fr (zM L.vI) (zM v') w w2) :
  ∃L',uU p L' { s with code:=s.code++[i] } (w2.setCell (L.q,1) v')/\(L'.q=L.q/\L'.B=L.B)/\Fr (λg=>L.has p g\/zM kv g\/zM tv g) (L'.has p) w (w2.setCell (L.q,1) v'):=by
 obtain⟨n1,n2,n3⟩:=h.nP;have nC:=λg c=>h.nC (g:=g) c
 have nI:=λg c=>h.nI (g:=g) c
 have E:=uO h.tq;have lp:=uO h.tp;have nq:¬zM L.vI L.q:=λq=>(nI _ q).2.1 rfl
 have K:¬zM v' L.q:=λq=>(h2.fp _ q).elim nq J
 have f3:Fr (λk=>zM L.vI k\/k=L.q) (λk=>zM L.vI k\/k=L.q) w (w2.setCell ⟨L.q,1,none⟩ v'):=(h2.wide (λ_ q => .inl q)).set _ (.inl (.inr rfl));have l:¬(zM L.vI p\/p=L.q):=λq=>q.elim (λq=>(nI _ q).1 rfl) n1
 have z:∀g,zM L.vC g->¬(zM L.vI g\/g=L.q):=λg c q=>q.elim (nC g c).2.2.2 (nC g c).2.1
 have C:Fr (λg=>L.has p g\/zM kv g\/zM tv g) (XX.has { L with vI:=v',rs:=L.rs++[(kv,tv)] } p) w (w2.setCell (L.q,1) v'):=by
  refine(f3.wide (G:=λg=>L.has p g\/zM kv g\/zM tv g) (λk b=>by rcases b with b|b;exact .inl (.inr (.inr (.inr (.inr (.inl b)))));exact .inl (.inr (.inl b)))).tg λk b=>?_
  rcases b with b|b|b|b|b|⟨r,hr,b⟩
  .exact .inl (.inl (.inl b))
  .exact .inl (.inl (.inr (.inl b)))
  .exact .inl (.inl (.inr (.inr (.inl b))))
  .exact .inl (.inl (.inr (.inr (.inr (.inl b)))))
  .exact(h2.fp k b).imp (λq => .inl (.inr (.inr (.inr (.inr (.inl q)))))) id
  .rcases zS.1 hr with hr|hr
   .exact .inl (.inl (.inr (.inr (.inr (.inr (.inr ⟨r,hr,b⟩))))))
   .simp at hr;subst hr;exact .inl (.inr b)
 have u:∀k,(zM L.vI k\/k=L.q)->gz w k≠some 3:=by
  rintro k (b|rfl)
  .rw[xn h.cI b];simp
  .rw[h.tq];simp
 have d:=h.rows.len;refine⟨{ L with vI:=v',rs:=L.rs++[(kv,tv)] },⟨f3.cell h.p0 l,f3.cell h.p1 l,f3.cell h.p2 l,?_,xq (h2.cell h.q1 nq) _,?_,λj=>(f3.frozen lp l).trans (h.zp j),λj=>?_,(ym (f3.keep p lp l)).trans h.tp,?_,h.mp.fr f3 (λq=>q.elim (λq=>(nI _ q).2.2 rfl) (λe=>n3 e.symm)),f3.own h.cC z,?_,⟨by simp[d],?_,?_⟩,?_⟩,⟨rfl,rfl⟩,C⟩
 .rw[zr,yv zV];exact h2.cell h.q0 nq
 .rw[zr,yv zV];exact h2.cell h.q2 nq
 .rw[zP];exact(h2.frozen E nq).trans (h.zq j)
 .rw[qJ];exact(ym (h2.keep _ E nq)).trans h.tq
 .have:=xP F (a:=(zQ L.q 1)) K v';rw[Bw _ _ _ _ d];simpa using this
 .have h0:=h.rows.fr f3 u;intro n j r o t;by_cases hn:n<s.code.length
  .rw[zi hn]at o;rw[zi J]at t;exact h0.k n j r o t
  .have f:n=s.code.length:=(by have:=(zD.1 o).1;simp at this;omega);rw[f,yp (Y _)]at o;rw[f,yp J,d]at t;simp at o t;subst o t;exact⟨f3.own b (λg c q=>u g q (xn b c)),f3.own D (λg c q=>u g q (xn D c))⟩
 .intro n m r r' o t g c;have y:∀n (r:zx×zx),(L.rs++[(kv,tv)])[n]? = some r->(n<L.rs.length/\L.rs[n]? = some r)\/(n=L.rs.length/\r=(kv,tv)):=λn r e=>by
   by_cases hn:n<L.rs.length
   .exact .inl ⟨hn,by rwa [zi hn]at e⟩
   .have f:n=L.rs.length:=(by have:=(zD.1 e).1;simp at this;omega);rw[f,yp (Y _)]at e;simp at e;exact .inr ⟨f,e.symm⟩
  rcases y n r o with⟨a1,a2⟩|⟨a1,rfl⟩<;>rcases y m r' t with⟨b1,b2⟩|⟨b1,rfl⟩
  .exact h.rows.ne n m r r' a2 b2 g c
  .have v:L.has p g := .inr (.inr (.inr (.inr (.inr ⟨r,ze a2,.inr c⟩))));exact⟨λq=>H g q v,λq=>absurd v (A g q)⟩
  .have v:∀x,(zM r'.1 x\/zM r'.2 x)->L.has p x:=λx hx => .inr (.inr (.inr (.inr (.inr ⟨r',ze b2,hx⟩))))
   exact⟨λq=>A g c (v g (.inl q)),λq=>absurd (v g (.inr q)) (A g c)⟩
  .exact⟨I g c,λ_=>J⟩
 .intro k b;have:=h.base;exact(C.fp k b).elim (λq=>q.elim (h.lo k) (lk k)) (λq=>by show L.B<=k;omega)
def uU.setPos(h:uU p L s w)(n:Nat):uU p L { s with pos:=n } (w.setCell (p,1) n)/\Fr (L.has p) (L.has p) w (w.setCell (p,1) n):=by
 obtain⟨n1,n2,n3⟩:=h.nP;have f3:Fr (λk=>k=p) (λk=>k=p) w (w.setCell (zQ p 1) n):=(Fr.refl _ _).set _ (.inl rfl);refine⟨⟨?_,xq h.p1 _,?_,f3.cell h.q0 (λe=>n1 e.symm),f3.cell h.q1 (λe=>n1 e.symm),f3.cell h.q2 (λe=>n1 e.symm),λj=>by rw[zP];exact h.zp j,λj=>by rw[zP];exact h.zq j,by rw[qJ];exact h.tp,by rw[qJ];exact h.tq,
  h.mp.fr f3 (λe=>n2 e.symm),f3.own h.cC (λg a=>(h.nC a).1),f3.own h.cI (λg a=>(h.nI a).1),h.rows.fr f3 (by rintro k rfl;rw[h.tp];simp),h.lo⟩,f3.wide (by rintro k rfl;exact .inl rfl)⟩
 .rw[zr,yv zV];exact h.p0
 .rw[zr,yv zV];exact h.p2
def pE(w:z8)(x y:zx)(l:List zx)(t1 t2 t3:xM):∃W,W=((w.alloc (.cells #[x] t1)).alloc (.cells l.toArray t2)).alloc (.cells #[y] t3)/\Fr yH yH w W/\W.heap.size=(w:Nat)+3/\zk W (w:Nat) 0 x/\(∀j,W.cell? ⟨(w:Nat)+1,j,none⟩=l[j]?)/\zk W ((w:Nat)+2) 0 y/\gz W (w:Nat)=some t1/\gz W ((w:Nat)+2)=some t3:=by
 have b:(w.alloc (.cells #[x] t1)).heap.size=(w:Nat)+1:=zV;have a:((w.alloc (.cells #[x] t1)).alloc (.cells l.toArray t2)).heap.size=(w:Nat)+2:=zV;refine⟨_,rfl,(((Fr.refl _ _).alloc _).alloc _).alloc _,zV,yu (yu (zZ w #[x] t1 (0,0) 0) _) _,λj=>?_,by rw[<-a];exact zZ _ #[y] t3 (0,0) 0,?_,by rw[<-a];exact bN _ _ _⟩
 .rw[zc _ _ _ (by rw[a];show (w:Nat)+1<_;omega),<-b,zZ];simp
 .rw[ym (xQ _ _ _ (by rw[a];omega)),ym (xQ _ _ _ (by rw[b];omega))];exact bN _ _ _
def Zy(p:Nat)(L:XX)(s:MkS)(op v:Nat)(k tg:List Nat)(kv tv:zx)(w:z8)(h:uU p L s w)(hk:uk w kv k)(ht:uk w tv tg)(nk:∀g,zM kv g->¬L.has p g)(nt:∀g,zM tv g->¬L.has p g)(nn:∀g,zM tv g->¬zM kv g)
  (lk:∀g,zM kv g\/zM tv g->L.B<=g) (ho:IE ⟨op,s.pos,v,k,tg⟩) (hF:qg w) (hB:2<L.B) (hl:s.code.length<=1000000) (hp:s.pos<=1000000) (hx:(xE ⟨op,s.pos,v,k,tg⟩).length<=1000000) :
  zE prog 51 #[(p,0),.agg #[op,.int .i64 0,v,kv,tv]] w λe w'=>∃b c,e = .returned (Zl b c)/\jF w' p s.code.length b c/\(w:Nat)<=b/\(w:Nat)<=c /\
   ∃L',uU p L' (s.put op v k tg) w'/\(L'.q=L.q/\L'.B=L.B)/\Fr (λg=>L.has p g\/zM kv g\/zM tv g) (L'.has p) w w'/\¬L'.has p b/\¬L'.has p c:=by
 obtain⟨M,HK,HT,HO,HF,HX⟩:=ED h hk ht ho hF hx;have p0:=h.p0;have p1:=h.p1;have q0:=h.q1;have lp:=X _ _ p0;obtain⟨n,hn⟩:=zw s.code.length;obtain⟨pos,y⟩:=zw s.pos;have r:=h.cI;rw[hn]at r;obtain⟨ia,ic,hvI⟩:=zo r;rw[hvI]at q0 r;obtain⟨ka,kc,rfl⟩:=zo hk;obtain⟨ta,tc,rfl⟩:=zo ht;obtain⟨kn,hkn⟩:=zw k.length;obtain⟨tn,htn⟩:=zw tg.length;rw[hkn]at HK nk nn lk|-;rw[htn]at HT nt nn lk|-;rw[y]at p1;have HN:=Z hn;have HP:=Z y;have lq:=X _ _ q0;have pj:n<=1000000:=by rw[<-hn];exact hl
 have pH:pos<=1000000:=by rw[<-y];exact hp
 obtain⟨N,P⟩:=zw (w:Nat);have p0a:=λo o2=>yu (yu p0 o) o2
 have p1a:=λo o2=>yu (yu p1 o) o2
 have q0a:=λo o2=>yu (yu q0 o) o2
 clear h hk ht ho hF hx hn y;go_enter func51,ntmps51;go_wp2_with fail;obtain⟨W,H9,f1,s1,b0,e0,c0,y1,y2⟩:=pE w (zQ p 0) n [.int .i64 op,.int .i64 pos,.int .i64 v,.slice ka kn kc,.slice ta tn tc] 138 87 3;rw[<-H9];rw[P]at s1 b0 e0 c0 y1 y2;have HY:=Z (zf y1 y2);clear y1 y2;have p0:=f1.cell p0 id;have q0:=f1.cell q0 id;have EN:=Z f1;have KM:=Z s1;have HW1:=Z (λg (t:g<N)=>f1.keep g (by rw[P];exact t) id);have E:=e0 0;have F:=e0 1;have G:=e0 2;have H:=e0 3;have i4:=e0 4;simp at E F G H i4;clear H9;refine Dp (λW':z8=>zk W' p 0 (zQ L.q 0)/\zk W' L.q 1 (.slice ia n ic)/\zk W' N 0 (zQ p 0)/\zk W' (N+1) 0 op/\zk W' (N+1) 1 pos/\zk W' (N+1) 2 v/\zk W' (N+1) 3 (.slice ka kn kc)/\zk W' (N+1) 4 (.slice ta tn tc)) 16 [0,1,2,3,4,5,6,7,8,9,10,11] 5 ⟨p0,q0,b0,E,F,G,H,i4⟩ ?_;refine dF 12 (λO x=>?_);go_simp;refine x.out _ _ ⟨yu p0 _,yu q0 _,yu b0 _,yu E _,yu F _,yu G _,yu H _,yu i4 _⟩ λ_=>?_
 clear x O;refine dF 13 (λO x=>?_);rw[yK xG];rw[show N+3=(W:Nat)from s1.symm];change j6 _ _ _ (W.drew.alloc (.cells [_,_,_,_,_].toArray _)) _ _
 refine jZ Rq [_,_,_,_,_] 1 ((f1.own r (λ_ _=>id):W.drew.ownsRow _ _ _ _ _ _)) J ?_;intro v2 w2 DN f;have f:=f.und;rw[<-hvI]at f;have R:=M.o.fr f1 (λ_ q=>q.elim);have l:uk W (.slice ka kn kc) k/\uk W (.slice ta tn tc) tg:=⟨f1.own HK.o (λ_ _=>id),f1.own HT.o (λ_ _=>id)⟩;have nI:∀g,zM L.vI g->g<N/\g≠p/\g≠L.q:=λg t=>⟨by rw[<-P];exact ug M.o.cI t,(M.o.nI t).1,(M.o.nI t).2.1⟩
 have nb:∀j,N<=j->¬zM L.vI j:=λj hj q=>by have:=(nI j q).1;omega
 have p0:=f.cell p0 (λq=>(nI _ q).2.1 rfl);have q0:=f.cell q0 (λq=>(nI _ q).2.2 rfl);have b0:=f.cell b0 (nb N (Y _));have E:=f.cell E (nb (N+1) J);have F:=f.cell F (nb (N+1) J);have G:=f.cell G (nb (N+1) J);have H:=f.cell H (nb (N+1) J);have i4:=f.cell i4 (nb (N+1) J);have c0:=f.cell c0 (nb (N+2) J);have zq:=(f.frozen (a:=⟨L.q,1,none⟩) (uO R.tq) (λq=>(nI _ q).2.2 rfl)).trans (R.zq 1);have lG:=Z (show uk w2 (.slice ka kn kc) k/\uk w2 (.slice ta tn tc) tg from⟨f.own l.1 (λg t q=>nk g t (.inr (.inr (.inr (.inr (.inl q)))))),f.own l.2 (λg t q=>nt g t (.inr (.inr (.inr (.inr (.inl q))))))⟩);have HM:=Z (R.xe1 (i:=⟨op,s.pos,v,k,tg⟩) l.1 l.2 nk nt nn lk (by rw[HN.o,HP.o];exact DN) f);have Va:=Z f;obtain⟨a2,c2,rfl⟩:=zo DN;clear DN f r l f1 R;go_simp;refine x.out _ _ ⟨p0,q0,b0,E,F,G,H,i4⟩ λ_=>?_
 clear x O;refine jM [14,15] 1 rfl ZW yg yg ⟨p0,q0,b0,E,F,G,H,i4⟩ ?_;(iterate 2 (refine ty ?_;try simp only[pl]))
 refine yW ?_;refine D0 16 (λO x=>?_);go_simp;refine x.out _ _ ?_;clear x O;refine D1 ?_ _;obtain⟨L2,D,⟨KO,DG⟩,PH⟩:=HM.o;obtain⟨C,A⟩:=zw (w2.setCell (zQ L.q 1) (.slice a2 (n+1) c2));have T:∀{a:yI} {u:zx},w2.cell? a=some u->a.block≠L.q->C.cell? a=some u:=λhc hn=>by rw[<-A];exact uH hc _ (λe=>hn e.symm)
 rw[A]at D PH|-;have p0:=D.p0;have p1:zk C p 1 pos:=by have:=D.p1;rw[show s.pos=pos from HP.o]at this;exact this
 have qN:L.q<N:=by rw[<-P];exact lq
 have b0:=T b0 (show N≠L.q by omega);have c0:=T c0 (show N+2≠L.q by omega);have E:=T E (show N+1≠L.q by omega);have F:=T F (show N+1≠L.q by omega);have G:=T G (show N+1≠L.q by omega);have H:=T H (show N+1≠L.q by omega);have i4:=T i4 (show N+1≠L.q by omega);have s3:N+3<=(C:Nat):=X _ _ c0;have OW:∀g,g<L.B->C.heap[g]? = w.heap[g]? := λg t=>by
  rw[<-A,yX _ _ _ _ (by show g≠L.q;have:=M.o.lo L.q (.inr (.inl rfl));omega)];have:=M.o.base;rw[P]at this;exact(Va.o.keep g J (λq=>by have:=M.o.lo g (.inr (.inr (.inr (.inr (.inl q)))));omega)).trans (HW1.o g J)
 have HFO:qg C:=λo ho=>(yD (OW _ hB)).trans (HF.o o ho)
 have hia:IC C.drew (N+1) 0 ⟨op,pos,v,k,tg⟩ (.slice ka kn kc) (.slice ta tn tc):=by
  refine⟨E,F,G,H,i4,uk.pC ?_,uk.pC ?_⟩
  .show uk C _ _;rw[<-A];exact xP lG.o.1 (λe=>nk _ e (.inr (.inl rfl))) _
  .show uk C _ _;rw[<-A];exact xP lG.o.2 (λe=>nt _ e (.inr (.inl rfl))) _
 have AJ:∀g,(zM (.slice ka kn kc) g\/zM (.slice ta tn tc) g)->g<(C:Nat):=λg t=>by
  have:g<N:=by rw[<-P];exact t.elim (ug HK.o) (ug HT.o)
  omega
 have hio:IE ⟨op,pos,v,k,tg⟩:=by have:=HO.o;rw[show s.pos=pos from HP.o]at this;exact this
 have hxl:=HX.o;rw[show s.pos=pos from HP.o]at hxl;have HAP:=Z (Bh (N+1) 0 ⟨op,pos,v,k,tg⟩ _ _ (.slice none 0 0) [] C.drew hia hio (xz _ _ _ _) (λq=>kG) (λg t=>⟨AJ g (.inl t),λq=>kG⟩) (λg t=>⟨AJ g (.inr t),λq=>by cases q⟩) HFO (λq=>by cases q) (by simp only[xV];omega));obtain⟨Xk,hX⟩:=zw (xE ⟨op,pos,v,k,tg⟩);rw[xV,hX]at HAP;rw[hX]at hxl;have HXX:=Z hX;have EI:=Z D;have I:=Z PH;clear hia AJ hio OW A D PH hX T E F G H i4;go_wp2_with fail;refine Dp (λW':z8=>zk W' p 1 pos/\zk W' N 0 (zQ p 0)) 9 [0,1,2,3] 6 ⟨p1,b0⟩ ?_;refine dF 4 (λO x=>?_);go_simp;refine HAP.o.mono ?_;rintro e W4 ⟨v4,rfl,Eh,m⟩;have m:=m.und;obtain⟨a4,c4,rfl⟩:=zo Eh;have p1:=m.cell p1 (λq=>by cases q);have b0:=m.cell b0 (λq=>by cases q);have c0:=m.cell c0 (λq=>by cases q);have S:=EI.o.fr m (λ_ q=>by cases q);refine x.out _ _ ⟨p1,b0⟩ λ_=>?_
 clear x O;refine jM [5,6,7,8] 1 rfl ZW yg yg ⟨p1,b0⟩ ?_;have ua9:IntKind.i64.wrap ((pos:Int)+(Xk.length:Int))=((pos+Xk.length:Nat):Int):=by simp[IntKind.wrap,IntKind.signed,IntKind.bits];omega
 (iterate 4 (refine ty ?_;try simp only[pl]))
 refine yW ?_;have zp:=S.zp 1;refine D0 9 (λO x=>?_);go_simp;refine x.out _ _ ?_;clear x O;refine D1 ?_ _;obtain⟨TP,OA⟩:=S.setPos (pos+Xk.length);obtain⟨V,K,U,HM4,z⟩:=G0 TP OA m S P;have np:p<N:=by rw[<-P];exact lp
 have e9:((pos+Xk.length:Nat):Int)=(pos:Int)+(Xk.length:Int):=J;rw[e9]at V K;obtain⟨W5,Q⟩:=zw (W4.setCell (zQ p 1) (.int .i64 ((pos:Int)+(Xk.length:Int))));have b5:zk W5 N 0 (zQ p 0):=by rw[<-Q];exact uH b0 _ (by show p≠N;omega)
 have c5:zk W5 (N+2) 0 n:=by rw[<-Q];exact uH c0 _ (by show p≠N+2;omega)
 rw[Q]at V K|-;clear TP OA m S;clear Q P;have hmf:∀(fn:Fn) (first cap:Array zx) (w:z8),(qA fn first cap).run prog w = .ok (.func fn first cap) w:=λ_ _ _ _=>rfl
 go_wp2;go_ret;have hno:∀g,N<=g->g<N+3->¬L2.has p g:=λg h1 h2 q=>by
  rcases I.o.fp g q with(q|q|q)|q
  .have:=M.o.lt q;have:=z.o;omega
  .have:=ug HK.o q;have:=z.o;omega
  .have:=ug HT.o q;have:=z.o;omega
  .have:=KM.o;omega
 have TR:∀g,N<=g->g<N+3->gz W5 g=gz W g:=λg h1 h2=>by
  have l1:g<(W:Nat):=by have:=KM.o;omega
  have l3:g<(C:Nat):=zC l1 I.o.size;rw[ym (K.o.keep g (zC l3 U.o.size) (hno g h1 h2)),ym (U.o.keep g l3 (λq=>kG)),ym (I.o.keep g l1 (λq=>?_))];have:=z.o;rcases q with q|q|q
  .have:=M.o.lt q;omega
  .have:=ug HK.o q;omega
  .have:=ug HT.o q;omega
 refine⟨N,N+2,rfl,⟨b5,by rw[HN.o];exact c5,(TR N (Y _) J).trans HY.o.1,(TR (N+2) J J).trans HY.o.2⟩,by have:=z.o;omega,by have:=z.o;omega,L2,?_,⟨KO,DG⟩,(((EN.o.wide (λ_ q=>q.elim)).trans I.o).trans (U.o.wide (λ_ q=>kG))).trans K.o,hno N (Y _) J,hno (N+2) J J⟩;have:=V.o;simp only[MkS.put];rw[show s.pos=pos from HP.o]at this|-;rw[show xE ⟨op,pos,v,k,tg⟩=Xk from HXX.o];exact this
variable{cap:Nat}
def zad{base:Nat}{g:Nat}(h:w.ownsRow base e size (.slice (g,0) n cap) n xs)(j:Nat)(u:zx) :
  (w.setCell (g,j) u).ownsRow base e size (.slice (g,0) n cap) n (xs.set j u):=by
 obtain⟨h1,h2⟩:=h;refine⟨by simp[h1],?_⟩;rcases h2 with⟨h2,_⟩|⟨g',b,a,hv,f,c,k1,k2,k3,k4⟩
 .cases h2
 .cases hv;have uh:=lt_of_block c;have d:w.heap[g] = .cells a e (0,0):=by simpa[YR uh]using c
  refine .inr ⟨g,cap,a.setIfInBounds j u,rfl,f,?_,k1,k2,by simp[k3],?_⟩
  .show(w.heap.modify g _)[g]? = _;rw[YR Qt,Array.getElem_modify_self,d];rfl
  .rw[Array.toList_setIfInBounds,List.take_set,k4]
def uU.xL{T tc:Nat}{x:uF}(h:uU p L s w)(hi:s.code[i]? = some x)(hr:L.rs[i]? = some (kv,.slice (T,0) n tc)) :
  uU p L (s.xL i j) (w.setCell (T,j) s.pos)/\Fr (L.has p) (L.has p) w (w.setCell (T,j) s.pos):=by
 obtain⟨o,v⟩:=h.rows.k i x _ hi hr;have A:=xn v (g:=T) rfl;have nx:∀g t,gz w g=some t->t≠3->g≠T:=λg t c u e=>by rw[e,A]at c;exact u (zL c).symm
 have z:=nx p _ h.tp zW;have nq:=nx L.q _ h.tq zW;have nm:L.m≠T:=λe=>by have:=Xc h.mp;rw[e,A]at this;cases this
 have f3:Fr (λk=>k=T) (λk=>k=T) w (w.setCell (T,j) s.pos):=(Fr.refl _ _).set _ (.inl rfl);have hn:n=x.tg.length:=by rcases v.2 with⟨hv,_⟩|⟨g,cap,B,hv,_⟩<;>cases hv;rfl
 refine⟨⟨f3.cell h.p0 z,f3.cell h.p1 z,f3.cell h.p2 z,f3.cell h.q0 nq,f3.cell h.q1 nq,f3.cell h.q2 nq,λj=>by rw[zP];exact h.zp j,λj=>by rw[zP];exact h.zq j,by rw[qJ];exact h.tp,by rw[qJ];exact h.tq,
  h.mp.fr f3 nm,f3.own h.cC (λg c=>nx g _ (xn h.cC c) zW),?_,⟨by simpa[MkS.xL]using h.rows.len,?_,h.rows.ne⟩,h.lo⟩,f3.wide (λk o=>?_)⟩
 .have:=f3.own h.cI (λg c=>nx g _ (xn h.cI c) zW);simp only[MkS.xL,List.length_modify];rw[show dN (s.code.modify i λx=>{ x with tg:=x.tg.set j s.pos }) L.rs=dN s.code L.rs from Rk s.code L.rs i (λl=>l.set j s.pos)];exact this
 .intro m y r d f;simp only[MkS.xL]at d;rw[yez]at d;by_cases hm:i=m
  .subst hm;rw[hi]at d;rw[hr]at f;simp at d f;subst d f;refine⟨f3.own o (λg c e=>(h.rows.ne i i _ _ hr hr T rfl).1 (e▸c)),?_⟩;subst hn;have:=zad v j s.pos;have e:(bh x.tg).set j s.pos=bh (x.tg.set j s.pos):=(by simp[bh,List.map_set]);rw[e]at this;show yey _ _ _ _ _ (x.tg.set j s.pos).length _;rw[List.length_set];exact this
  .simp[hm]at d;obtain⟨a,b⟩:=h.rows.k m y r d f;exact⟨f3.own a (λg c e=>(h.rows.ne i m _ _ hr f T rfl).1 (e▸c)),f3.own b (λg c e=>hm ((h.rows.ne i m _ _ hr f T rfl).2 (e▸c)))⟩
 .subst o;exact .inr (.inr (.inr (.inr (.inr ⟨_,ze hr,.inr rfl⟩))))
def Rj(p:Nat)(L:XX)(s:MkS)(w:z8)(e:xX)(w':z8):Prop:=e = .returned (.tuple #[])/\uU p L s w'/\Fr (L.has p) (L.has p) w w'
def JQ(p:Nat)(L:XX)(s:MkS)(i j b c:Nat)(x:uF)(w:z8)(h:uU p L s w)(u:jF w p i b c)(hi:s.code[i]? = some x)(A:j<x.tg.length)(D:s.code.length<=1000000)(G:x.tg.length<=1000000) :
  zE prog 99 #[j,(b,0),(c,0)] w (Rj p L (s.xL i j) w):=by
 have t:=(zD.1 hi).1;obtain⟨⟨kv,tv⟩,hr⟩:∃r,L.rs[i]? = some r:=⟨_,zj GI⟩;obtain⟨F,y⟩:=h.rows.k i x _ hi hr;obtain⟨T,tc,rfl,-,M,a⟩:=xY y J;obtain⟨I,H,f,-,K,d⟩:=xY h.cI J;have p0:=h.p0;have p1:=h.p1;have q1:=h.q1;rw[f]at q1;have b0:=u.pb;have c0:=u.pc;have t0:zk w I (i*5+4) (.slice (zQ T 0) x.tg.length tc):=by
  rw[d _ J,Jx _ _ h.rows.len i 4 x _ hi hr J];rfl
 have u0:zk w T j (x.tg[j]:Nat):=by
  rw[a j J];simp[bh,A]
 have zT:w.frozen? (T,j)=false:=by
  rcases y.2 with⟨hv,_⟩|⟨g,cap,C,hv,_,E,_⟩
  .cases hv
  .cases hv;simp[World.frozen?,E]
 have l:=Z (h.xL (j:=j) hi hr);obtain⟨n,hn⟩:=zw s.code.length;obtain⟨m,hm⟩:=zw x.tg.length;obtain⟨pos,e⟩:=zw s.pos;rw[hn]at q1 t;rw[hm]at t0 A;rw[e]at p1 l;have k1:(i:Int)<(n:Int):=J;have k2:(j:Int)<(m:Int):=J;clear h u F y a d f hi hr;go_enter func99,ntmps99;go_wp2_with fail;refine Dp (λW':z8=>zk W' p 0 (zQ L.q 0)/\zk W' p 1 pos/\zk W' L.q 1 (.slice (zQ I 0) n H)/\zk W' b 0 (zQ p 0)/\zk W' c 0 i/\zk W' I (i*5+4) (.slice (zQ T 0) m tc)) 17 (xH 17) 1 ⟨p0,p1,q1,b0,c0,t0⟩ ?_;refine D0 17 (λB z=>?_);go_simp;refine z.out _ _ ?_;clear z B;refine D1 ?_ _;go_wp2;refine yU (v := .tuple #[]) ?_ rfl ?_
 .simp[yN,results99,go_sem]
 exact⟨rfl,l.o.1.drew,l.o.2.drew⟩
def MkS.sz(s:MkS):Nat:=s.code.length+s.cs.length+s.pos
def MkS.one(s:MkS)(op:Nat)(t:Wd):MkS:=(s.const t).put op 0 [s.num t] []
def xS(s:MkS)(t:Wd):(s.const t).sz<=s.sz+1/\(s.const t).code=s.code/\(s.const t).pos=s.pos:=by
 unfold MkS.const;split
 .exact⟨J,rfl,rfl⟩
 .exact⟨by simp[MkS.sz];omega,rfl,rfl⟩
def gh(s:MkS)(op v:Nat)(k tg:List Nat):(s.put op v k tg).sz=s.sz+1+(xE ⟨op,s.pos,v,k,tg⟩).length:=by simp[MkS.put,MkS.sz];omega
def XH(s:MkS)(i j:Nat):(s.xL i j).sz=s.sz:=by simp[MkS.xL,MkS.sz]
def N5(s:MkS)(t:Wd):s.num t<=s.cs.length:=Ft
def Fr.tr{G a:Nat->Prop}(h:Fr F F' w w1)(k:Fr G a w1 w2)(b:∀q,G q->F q\/(w:Nat)<=q):Fr F a w w2 :=
 ⟨k.os.trans h.os,k.tape.trans h.tape,k.output.trans h.output,zg h.size k.size,λi hi hn=>(k.keep i (zC hi h.size) (λq=>(b i q).elim hn J)).trans (h.keep i hi hn),
  λi hi=>(k.fp i hi).elim (b i) (λq => .inr (zg h.size q))⟩
def uk.lit(w:z8)(l:List Nat)(a:l.length<=1000000):uk (w.alloc (.cells (bh l).toArray 3)) (.slice (w,0) l.length l.length) l:=by
 have h:=World.ownsRow_lit (base:=0) (e:=3) (size:=1) w (bh l).toArray l.length (zJ _) dS (by simp[bh]);simpa using h
def uk.nil(w:z8):uk w (.slice none 0 0) []:=xz _ _ _ _
def qg.fr(h:qg w)(hf:Fr F F' w w')(hF:∀k,F k->B<=k)(hB:2<B):qg w':=λo a=>hf.cell (h o a) (λq=>by have:=hF _ q;simp only at this;omega)
def MQ(p:Nat)(L:XX)(s:MkS)(w:z8)(e:xX)(w':z8):Prop:=e = .returned (.tuple #[])/\MkQ p L s w w'
def N6(p:Nat)(L:XX)(s:MkS)(op:Nat)(t:Wd)(w:z8)(h:uU p L s w)(d:op=1\/op=2\/op=3)(G:t.length<=5000000)(hs:s.sz<=900000)(hF:qg w)(hB:2<L.B) :
  zE prog 96 #[(p,0),op,zO t] w (MQ p L (s.one op t) w):=by
 have F:s.cs.length<=900000:=WI;have f:=Z (Qf p L s t w h G J);have z:=Z h;have y:=Z hF;obtain⟨n,hn⟩:=zw (s.num t);have E:n<=900000:=by have:=N5 s t;omega
 have A:=Z hn;rw[hn]at f;obtain⟨z1,z2,H⟩:=xS s t;have D:=h.base.2;clear h hF hn;go_enter func96,ntmps96;go_wp2_with fail;refine f.o.mono ?_;rintro e w1 ⟨rfl,L1,Q9,⟨r,a⟩,Q6⟩;clear f;have k:=uk.lit w1 [n] zV;have l:=Q9.alloc (.cells (bh [n]).toArray 3);have hx:(xE ⟨op,(s.const t).pos,0,[n],[]⟩).length<=1000:=by rcases d with rfl|rfl|rfl<;>simp[xE,uA,ue,vq]
 have x:=Z (Zy p L1 (s.const t) op 0 [n] [] (.slice (w1,0) 1 1) (.slice none 0 0) (w1.alloc (.cells (bh [n]).toArray 3)) l k (uk.nil _) (λg hg q=>zqd) (λg hg=>U3) (λg hg=>by cases hg)
  (λg hg=>zvv)
  ⟨by show op<12;omega,zV,yF,zV,zV,by rcases d with rfl|rfl|rfl<;>rfl⟩ ((y.o.fr Q6 z.o.lo hB).fr ((Fr.refl yH w1).alloc _) (λ_ q=>q.elim) hB) (by rw[a];exact hB) (by have:=z2;unfold MkS.sz at hs z1;omega) (by rw[H];unfold MkS.sz at hs;omega) J)
 go_wp2_with fail;refine x.o.mono ?_;rintro e w2 ⟨b,c,rfl,I,hb,hc,C,m,⟨u,i⟩,j,-,-⟩;clear x;go_wp2;refine yU (v := .tuple #[]) ?_ rfl ?_
 .simp[yN,results96,go_sem]
 refine⟨rfl,C,?_,⟨u.trans r,i.trans a⟩,(Q6.alloc _).tr j (λq hq=>?_)⟩
 .unfold MkS.one;rw[A.o];exact m
 .exact zvb
variable{α:Type}
def qf:Wd:=[111,116,104,101,114]
def YF:List Wd:=[[122,101,114,111],[111,110,101],[116,119,111],[102,101,119],[109,97,110,121],[111,116,104,101,114]]
def Fo.keys:Fo->List Wd
 |.xi k _ _ r=>k::r.keys
 |_=>[]
namespace MkS
def vR:Fo->MkS->List Nat->MkS×List Nat
 |.xi k _ _ r,s,acc=>if k=qf then vR r s acc else vR r (s.const k) (acc++[s.num k])
 |_,s,acc=>(s,acc)
def place(ks:List Wd)(k:Wd):Nat:=if k=qf then (ks.filter (· ≠ qf)).length else (ks.filter (· ≠ qf)).idxOf k
def vX:Fo->MkS->List (Wd×Nat)->MkS×List (Wd×Nat)
 |.xi k _ _ r,s,acc=>if k.head? = some 61 then vX r (s.put 7 (yb k.tail) [] [0]) (acc++[(k,s.code.length)])else vX r s acc
 |_,s,acc=>(s,acc)
def Rf(ks:List Wd)(t:Nat)(key:Wd)(s:MkS):MkS :=
 (xH 6).foldl (λs c=>if YF.getD c []=key\/key=qf/\YF.getD c [] ∉ ks then s.xL t c else s) s
def fy(n:Wd)(bs:Fo)(s:MkS):MkS×List Nat:=vR bs (s.const n) [s.num n]
def ki(n:Wd)(bs:Fo)(s:MkS):MkS:=(fy n bs s).1.put 10 0 (fy n bs s).2 (zX (fy n bs s).2.length 0)
def VH(n o:Wd)(bs:Fo)(s:MkS):MkS×List (Wd×Nat):=vX bs ((s.const n).put 4 (yb o) [s.num n] []) []
def kU(n o:Wd)(f:Nat)(bs:Fo)(s:MkS):MkS:=(VH n o bs s).1.put (if f=2 then 9 else 8) 0 [] (zX 6 0)
def bO(n:Wd)(bs:Fo)(s:MkS)(k:Wd)(x:MkS):MkS:=x.xL (fy n bs s).1.code.length (place bs.keys k)
def kV(n o:Wd)(bs:Fo)(s:MkS)(k:Wd)(x:MkS):MkS :=
 match (VH n o bs s).2.lookup k with
 |some i=>x.xL i 0
 |none=>Rf bs.keys (VH n o bs s).1.code.length k x
def uw:Fo->(Wd->MkS->MkS)->MkS->List Nat->MkS×List Nat
 |.nil,_,s,ls=>(s,ls)
 |.text t r,bg,s,ls=>uw r bg (s.one 1 t) ls
 |.hash r,bg,s,ls=>uw r bg (s.put 6 0 [] []) ls
 |.put n _ r,bg,s,ls=>uw r bg (s.one 2 n) ls
 |.num n _ r,bg,s,ls=>uw r bg (s.one 3 n) ls
 |.br n _ f o _ bs r,bg,s,ls =>
  if f=0 then
   let y:=uw bs (bO n bs s) (ki n bs s) []
   uw r bg (y.2.foldl (λs i=>s.xL i 0) y.1) ls
  else
   let y:=uw bs (kV n o bs s) (kU n o f bs s) []
   uw r bg ((y.2.foldl (λs i=>s.xL i 0) y.1).put 5 0 [] []) ls
 |.xi k _ m r,bg,s,ls =>
  let s1:=(uw m (λ_ s=>s) (bg k s) []).1
  uw r bg (s1.put 11 0 [] [0]) (ls++[s1.code.length])
def Zx(m:Fo)(s:MkS):MkS:=(uw m (λ_ s=>s) s []).1
def start:MkS:=⟨[],[],0⟩
def all(m:Fo):MkS:=(Zx m start).put 0 0 [] []
end MkS
def EqW(k:Wd):Prop:=k.tail≠[]/\k.tail.length<=9/\k.tail.all yC=true
def Fo.YD:Fo->Prop
 |.nil=>True
 |.text t r=>t.length<=5000000/\r.YD
 |.hash r=>r.YD
 |.put n _ r=>n.length<=16/\r.YD
 |.num n _ r=>n.length<=16/\r.YD
 |.br n _ f o _ bs r=>n.length<=16/\f<3/\yb o<=999999999/\bs.xm=true/\bs.keys.Nodup/\(∀k∈bs.keys,k.length<=17/\(f≠0->k.head? = some 61->EqW k))/\bs.YD/\r.YD
 |.xi _ _ m r=>m.ya=true/\m.YD/\r.YD
def Fo.cw:Fo->Nat
 |.nil=>0
 |.text _ r=>5+r.cw
 |.hash r=>5+r.cw
 |.put _ _ r=>5+r.cw
 |.num _ _ r=>5+r.cw
 |.br _ _ _ _ _ bs r=>40+bs.cw+r.cw
 |.xi _ _ m r=>20+m.cw+r.cw
def Fo.gw:Fo->Nat
 |.xi _ _ m r=>5+m.cw+r.gw
 |_=>0
def Fo.Xe:∀f:Fo,f.gw+15*f.keys.length<=f.cw
 |.xi k a m r=>by have:=Fo.Xe r;simp only[Fo.gw,Fo.keys,Fo.cw,zY];omega
 |.nil=>zJ _
 |.text _ _=>zJ _
 |.hash _=>zJ _
 |.put _ _ _=>zJ _
 |.num _ _ _=>zJ _
 |.br _ _ _ _ _ _ _=>zJ _
def MkS.le(s s':MkS):Prop:=∀(i:Nat) (x:uF),s.code[i]? = some x->∃y,s'.code[i]? = some y/\y.tg.length=x.tg.length
def MkS.le_refl(s:MkS):s.le s:=λ_ x h=>⟨x,h,rfl⟩
def MkS.le_trans{a b c:MkS}(h:a.le b)(k:b.le c):a.le c:=λi x hx=>by
 obtain⟨y,h1,h2⟩:=h i x hx;obtain⟨z,d,e⟩:=k i y h1;exact⟨z,d,e.trans h2⟩
def MkS.JK(s:MkS)(t:Wd):s.le (s.const t):=λi x hx=>⟨x,by rw[(xS s t).2.1];exact hx,rfl⟩
def MkS.Zm(s:MkS)(op v:Nat)(k tg:List Nat):s.le (s.put op v k tg):=λi x hx=>⟨x,by simp only[MkS.put];rw[zi (zD.1 hx).1];exact hx,rfl⟩
def MkS.Qz(s:MkS)(i j:Nat):s.le (s.xL i j):=λn x hx=>by
 simp only[MkS.xL];rw[yez];by_cases h:i=n
 .exact⟨{ x with tg:=x.tg.set j s.pos },by simp[h,hx],zV⟩
 .exact⟨x,by simp[h,hx],rfl⟩
def MkS.yiq(s:MkS)(op:Nat)(t:Wd):s.le (s.one op t):=MkS.le_trans (s.JK t) (MkS.Zm _ _ _ _ _)
def MkS.C0(g:MkS->α->MkS)(b:∀(s:MkS) (a:α),s.le (g s a)):∀(l:List α) (s:MkS),s.le (l.foldl g s)
 |[],s=>s.le_refl
 |a::l,s=>MkS.le_trans (b s a) (MkS.C0 g b l _)
def MkS.Kl(g:MkS->α->MkS)(b:∀(s:MkS) (a:α),(g s a).sz=s.sz):∀(l:List α) (s:MkS),(l.foldl g s).sz=s.sz
 |[],s=>rfl
 |a::l,s=>(MkS.Kl g b l _).trans (b s a)
def MkS.yl8(ks:List Wd)(t:Nat)(key:Wd)(s:MkS):s.le (MkS.Rf ks t key s)/\(MkS.Rf ks t key s).sz=s.sz:=by
 refine⟨MkS.C0 _ (λs c=>?_) _ s,MkS.Kl _ (λs c=>?_) _ s⟩
 .split
  .exact s.Qz _ _
  .exact s.le_refl
 .split
  .exact XH _ _ _
  .rfl
def MkS.N7(n:Wd)(bs:Fo)(s:MkS)(k:Wd)(x:MkS):x.le (MkS.bO n bs s k x)/\(MkS.bO n bs s k x).sz=x.sz:=⟨x.Qz _ _,XH _ _ _⟩
def MkS.N8(n o:Wd)(bs:Fo)(s:MkS)(k:Wd)(x:MkS):x.le (MkS.kV n o bs s k x)/\(MkS.kV n o bs s k x).sz=x.sz:=by
 unfold MkS.kV;exact zuq
def MkS.JG:∀(f:Fo) (s:MkS) (acc:List Nat),s.le (MkS.vR f s acc).1/\(MkS.vR f s acc).1.sz<=s.sz+f.keys.length/\(MkS.vR f s acc).2.length<=acc.length+f.keys.length/\(MkS.vR f s acc).1.code=s.code/\(MkS.vR f s acc).1.pos=s.pos
 |.xi k _ _ r,s,acc=>by
  rw[MkS.vR];split
  .obtain⟨a,b,c,d⟩:=MkS.JG r s acc;exact⟨a,M3,by simp[Fo.keys];omega,d⟩
  .obtain⟨a,b,c,d,e⟩:=MkS.JG r (s.const k) (acc++[s.num k]);obtain⟨z1,z2,g⟩:=xS s k;exact⟨MkS.le_trans (s.JK k) a,M3,by simp[Fo.keys]at c|-;omega,d.trans z2,e.trans g⟩
 |.nil,s,acc=>⟨s.le_refl,Y _,Y _,rfl,rfl⟩
 |.text _ _,s,acc=>⟨s.le_refl,Y _,Y _,rfl,rfl⟩
 |.hash _,s,acc=>⟨s.le_refl,Y _,Y _,rfl,rfl⟩
 |.put _ _ _,s,acc=>⟨s.le_refl,Y _,Y _,rfl,rfl⟩
 |.num _ _ _,s,acc=>⟨s.le_refl,Y _,Y _,rfl,rfl⟩
 |.br _ _ _ _ _ _ _,s,acc=>⟨s.le_refl,Y _,Y _,rfl,rfl⟩
def MkS.N9:∀(f:Fo) (s:MkS) (acc:List (Wd×Nat)),s.le (MkS.vX f s acc).1/\(MkS.vX f s acc).1.sz<=s.sz+8*f.keys.length
 |.xi k _ _ r,s,acc=>by
  rw[MkS.vX];split
  .obtain⟨a,b⟩:=MkS.N9 r (s.put 7 (yb k.tail) [] [0]) (acc++[(k,s.code.length)]);have:=gh s 7 (yb k.tail) [] [0];have hx:(xE ⟨7,s.pos,yb k.tail,[],[0]⟩).length=7:=(by simp[xE,uA,ue,vq,j8]);exact⟨MkS.le_trans (s.Zm _ _ _ _) a,M3⟩
  .obtain⟨a,b⟩:=MkS.N9 r s acc;exact⟨a,M3⟩
 |.nil,s,acc=>⟨s.le_refl,Y _⟩
 |.text _ _,s,acc=>⟨s.le_refl,Y _⟩
 |.hash _,s,acc=>⟨s.le_refl,Y _⟩
 |.put _ _ _,s,acc=>⟨s.le_refl,Y _⟩
 |.num _ _ _,s,acc=>⟨s.le_refl,Y _⟩
 |.br _ _ _ _ _ _ _,s,acc=>⟨s.le_refl,Y _⟩
def mz:∀(k t:List Nat),(YG k t).length=4*k.length+2
 |[],t=>by simp[YG,vq]
 |a::k,t=>by simp[YG,vq,mz k t.tail];omega
def Nz(pos:Nat)(x:Nat)(k:List Nat)(t:List Nat):(xE ⟨10,pos,0,x::k,t⟩).length=7+4*k.length:=by
 simp[xE,uA,ue,vq,mz];omega
def MkS.Qd:∀(f:Fo) (s:MkS) (x:Nat) (acc:List Nat),∃y,(MkS.vR f s (x::acc)).2=x::y
 |.xi k _ _ r,s,x,acc=>by
  rw[MkS.vR];split
  .exact MkS.Qd r s x acc
  .exact MkS.Qd r (s.const k) x (acc++[s.num k])
 |.nil,s,x,acc=>⟨_,rfl⟩
 |.text _ _,s,x,acc=>⟨_,rfl⟩
 |.hash _,s,x,acc=>⟨_,rfl⟩
 |.put _ _ _,s,x,acc=>⟨_,rfl⟩
 |.num _ _ _,s,x,acc=>⟨_,rfl⟩
 |.br _ _ _ _ _ _ _,s,x,acc=>⟨_,rfl⟩
def MkS.Ny(n:Wd)(bs:Fo)(s:MkS):s.le (MkS.ki n bs s)/\(MkS.ki n bs s).sz<=s.sz+9+5*bs.keys.length:=by
 obtain⟨a,b,c,d,e⟩:=MkS.JG bs (s.const n) [s.num n];obtain⟨y,hy⟩:=MkS.Qd bs (s.const n) (s.num n) [];refine⟨MkS.le_trans (s.JK n) (MkS.le_trans a (MkS.Zm _ _ _ _ _)),?_⟩;unfold MkS.ki MkS.fy;rw[gh,hy,Nz];rw[hy]at c;have:=(xS s n).1;simp at c;omega
def MkS.Nx(n o:Wd)(f:Nat)(bs:Fo)(s:MkS):s.le (MkS.kU n o f bs s)/\(MkS.kU n o f bs s).sz<=s.sz+24+8*bs.keys.length:=by
 obtain⟨a,b⟩:=MkS.N9 bs ((s.const n).put 4 (yb o) [s.num n] []) [];refine⟨MkS.le_trans (s.JK n) (MkS.le_trans (MkS.Zm _ _ _ _ _) (MkS.le_trans a (MkS.Zm _ _ _ _ _))),?_⟩;unfold MkS.kU MkS.VH;have h1:=gh (s.const n) 4 (yb o) [s.num n] [];have h2:(xE ⟨4,(s.const n).pos,yb o,[s.num n],[]⟩).length=7:=WT;have c:∀p,(xE ⟨if f=2 then 9 else 8,p,0,[],zX 6 0⟩).length=13:=λp=>by split<;>simp[xE,uA,ue,vq]
 rw[gh,c];have:=(xS s n).1;omega
def MkS.Gr(s:MkS)(op:Nat)(t:Wd)(h:op=1\/op=2\/op=3):(s.one op t).sz<=s.sz+5:=by
 unfold MkS.one;rw[gh];have:=(xS s t).1;have hx:(xE ⟨op,(s.const t).pos,0,[s.num t],[]⟩).length=3:=zuk;omega
def MkS.go_le:∀(f:Fo) (h:Wd->MkS->MkS) (s:MkS) (ls:List Nat),(∀k s,s.le (h k s)/\(h k s).sz=s.sz)->s.le (MkS.uw f h s ls).1/\(MkS.uw f h s ls).1.sz+15*f.keys.length<=s.sz+f.cw
 |.nil,h,s,ls,hb=>⟨s.le_refl,Y _⟩
 |.text t r,h,s,ls,hb=>by
  obtain⟨a,b⟩:=MkS.go_le r h (s.one 1 t) ls hb;have:=s.Gr 1 t (.inl rfl);exact zyb
 |.hash r,h,s,ls,hb=>by
  obtain⟨a,b⟩:=MkS.go_le r h (s.put 6 0 [] []) ls hb;have:=gh s 6 0 [] [];have hx:(xE ⟨6,s.pos,0,[],[]⟩).length=1:=Iq;exact⟨MkS.le_trans (s.Zm _ _ _ _) a,by simp only[Fo.keys,Fo.cw,MkS.uw,yG];omega⟩
 |.put n _ r,h,s,ls,hb=>by
  obtain⟨a,b⟩:=MkS.go_le r h (s.one 2 n) ls hb;have:=s.Gr 2 n (.inr (.inl rfl));exact zyb
 |.num n _ r,h,s,ls,hb=>by
  obtain⟨a,b⟩:=MkS.go_le r h (s.one 3 n) ls hb;have:=s.Gr 3 n (.inr (.inr rfl));exact zyb
 |.br n _ f o _ bs r,h,s,ls,hb=>by
  have j:=λ(l:List Nat) (x:MkS)=>MkS.C0 (λs i=>MkS.xL s i 0) (λs i=>s.Qz i 0) l x
  have q:=λ(l:List Nat) (x:MkS)=>MkS.Kl (λs i=>MkS.xL s i 0) (λs i=>XH s i 0) l x
  rw[MkS.uw];split
  .obtain⟨a,b⟩:=MkS.go_le bs (MkS.bO n bs s) (MkS.ki n bs s) [] (λk x=>MkS.N7 n bs s k x);obtain⟨c,d⟩:=MkS.Ny n bs s;obtain⟨e,g⟩:=MkS.go_le r h ((MkS.uw bs (MkS.bO n bs s) (MkS.ki n bs s) []).2.foldl (λs i=>MkS.xL s i 0) (MkS.uw bs (MkS.bO n bs s) (MkS.ki n bs s) []).1) ls hb;rw[q]at g;exact⟨MkS.le_trans c (MkS.le_trans a (MkS.le_trans (j _ _) e)),zq1⟩
  .obtain⟨a,b⟩:=MkS.go_le bs (MkS.kV n o bs s) (MkS.kU n o f bs s) [] (λk x=>MkS.N8 n o bs s k x);obtain⟨c,d⟩:=MkS.Nx n o f bs s;obtain⟨e,g⟩:=MkS.go_le r h (((MkS.uw bs (MkS.kV n o bs s) (MkS.kU n o f bs s) []).2.foldl (λs i=>MkS.xL s i 0) (MkS.uw bs (MkS.kV n o bs s) (MkS.kU n o f bs s) []).1).put 5 0 [] []) ls hb;rw[gh,q]at g;have hx:∀p,(xE ⟨5,p,0,[],[]⟩).length=1:=λp=>by simp[xE,uA,ue]
   rw[hx]at g;exact⟨MkS.le_trans c (MkS.le_trans a (MkS.le_trans (j _ _) (MkS.le_trans (MkS.Zm _ _ _ _ _) e))),zq1⟩
 |.xi k _ m r,h,s,ls,hb=>by
  obtain⟨a,b⟩:=MkS.go_le m (λ_ s=>s) (h k s) [] (λ_ s=>⟨s.le_refl,rfl⟩);obtain⟨c,d⟩:=MkS.go_le r h ((MkS.uw m (λ_ s=>s) (h k s) []).1.put 11 0 [] [0]) (ls++[(MkS.uw m (λ_ s=>s) (h k s) []).1.code.length]) hb;rw[gh]at d;have hx:∀p,(xE ⟨11,p,0,[],[0]⟩).length=3:=λp=>WL
  rw[hx]at d;have:=(hb k s).2;exact⟨MkS.le_trans (hb k s).1 (MkS.le_trans a (MkS.le_trans (MkS.Zm _ _ _ _ _) c)),by simp only[Fo.keys,Fo.cw,MkS.uw,zY];omega⟩
def aB(m:Fo)(s:MkS):s.le (MkS.Zx m s)/\(MkS.Zx m s).sz<=s.sz+m.cw:=by
 obtain⟨a,b⟩:=MkS.go_le m (λ_ s=>s) s [] (λ_ s=>⟨s.le_refl,rfl⟩);exact⟨a,by unfold MkS.Zx;omega⟩
def Fr.over{G a:Nat->Prop}(h:Fr F F' w w1)(k:Fr G a w1 w2)(b:∀q,G q->F q\/(w:Nat)<=q):Fr F F' w w2 :=
 ⟨k.os.trans h.os,k.tape.trans h.tape,k.output.trans h.output,zg h.size k.size,λi hi hn=>(k.keep i (zC hi h.size) (λq=>(b i q).elim hn J)).trans (h.keep i hi hn),h.fp⟩
structure Xi(lo hi:Nat)(w0:z8)(B:Nat)(w:z8):Prop where
 keep:vx lo hi w0 w
 hB:hi<=B
 fo:qg w
 na:qu w
 g1:2<B
 g2:0<B
def Xi.fr(h:Xi lo hi w0 B w)(hf:Fr F F' w w')(hF:∀k,F k->B<=k):Xi lo hi w0 B w':=by
 have hb:=h.hB;have c:=h.keep;refine⟨⟨zg c.1 hf.size,λk a b=>(hf.keep k (by have:=c.1;omega) (λq=>by have:=hF k q;omega)).trans (c.2 k a b)⟩,hb,h.fo.fr hf hF h.g1,λj d=>hf.cell (h.na j d) (λq=>by have:=hF _ q;have:=h.g2;simp only at *;omega),h.g1,h.g2⟩
def Rb(lo hi:Nat)(w0:z8)(f:Fo):Prop:=∀p L s w a c vs,uU p L s w->Xi lo hi w0 L.B w->Uv lo hi w0 a vs->yY lo hi w0 vs f->f.ya=true->f.wf 2000000=true->f.YD->f.len<=2000000->s.sz+f.cw<=900000 ->
 zE prog 50 #[(p,0),.slice a f.len c] w (MQ p L (MkS.Zx f s) w)
structure ypg(N p:Nat)(s0:MkS)(keys:List Wd)(bg:Wd->MkS->MkS)(v:zx)(I:XX->z8->Prop):Prop where
 fn:∃k cap,v = .func (.func k) #[] cap/\(∀args w,(callFunc k args).run prog w = .ok (.enter k args) w) /\
  ∀L s W key (a:Nat) ma mn mc,uU p L s W->I L W->s0.le s->s.sz<=900000->key∈keys->zE prog k (#[.agg #[zO key,a,.slice ma mn mc]]++cap) W (Rj p L (bg key s) W)
 fr:∀L L' W W',I L W->Fr (L.has p) (L'.has p) W W'->I L' W'
 al:∀L W W' F F',I L W->Fr F F' W W'->(∀k,F k->N<=k)->I L W'
 le:∀k s,s.le (bg k s)/\(bg k s).sz=s.sz
def jI(w:z8)(p:Nat)(L:XX)(s:MkS)(ls:List Nat)(bcs:List (Nat×Nat)):Prop :=
 bcs.length=ls.length/\∀(n i:Nat) (x:Nat×Nat),ls[n]? = some i->bcs[n]? = some x->jF w p i x.1 x.2/\¬L.has p x.1/\¬L.has p x.2/\∃y,s.code[i]? = some y/\y.tg.length=1
def jF.fr{b:Nat}(h:jF w p i b c)(hf:Fr F F' w w')(h1:¬F b)(h2:¬F c):jF w' p i b c:=⟨hf.cell h.pb h1,hf.cell h.pc h2,(ym (hf.keep b (X w _ h.pb) h1)).trans h.tb,(ym (hf.keep c (X w _ h.pc) h2)).trans h.tc⟩
def jF.lt{b:Nat}(h:jF w p i b c):b<(w:Nat)/\c<(w:Nat):=⟨X w _ h.pb,X w _ h.pc⟩
def jI.fr{L':XX}{s':MkS}{ls:List Nat}{f:List (Nat×Nat)}(h:jI w p L s ls f)(hf:Fr (L.has p) (L'.has p) w w')(hs:s.le s'):jI w' p L' s' ls f :=
 ⟨h.1,λn i x h1 h2=>by
  obtain⟨a,b,c,y,d,e⟩:=h.2 n i x h1 h2;obtain⟨j,d2,g⟩:=hs i y d;exact⟨a.fr hf b c,λq=>(hf.fp _ q).elim b (by have:=a.lt;omega),λq=>(hf.fp _ q).elim c (by have:=a.lt;omega),j,d2,g.trans e⟩⟩
def jI.ty{ls:List Nat}{e:List (Nat×Nat)}(h:jI w p L s ls e)(hf:Fr F F' w w')(hF:∀k,F k->gz w k=some 143):jI w' p L s ls e :=
 ⟨h.1,λn i x h1 h2=>by
  obtain⟨a,b,c,d⟩:=h.2 n i x h1 h2;exact⟨a.fr hf (λq=>by have:=hF _ q;rw[a.tb]at this;cases this) (λq=>by have:=hF _ q;rw[a.tc]at this;cases this),b,c,d⟩⟩
def jI.al{ls:List Nat}{e:List (Nat×Nat)}(h:jI w p L s ls e)(hf:Fr yH yH w w'):jI w' p L s ls e :=
 ⟨h.1,λn i x h1 h2=>by
  obtain⟨a,b,c,d⟩:=h.2 n i x h1 h2;exact⟨a.fr hf id id,b,c,d⟩⟩
def jI.more{ls:List Nat}{d:List (Nat×Nat)}{b:Nat}{y:uF}(h:jI w p L s ls d)(g:jF w p i b c)(hb:¬L.has p b)(hc:¬L.has p c)(hy:s.code[i]? = some y)(h1:y.tg.length=1) :
  jI w p L s (ls++[i]) (d++[(b,c)]):=by
 refine⟨by simp[h.1],λn j x a e=>?_⟩;by_cases hn:n<ls.length
 .rw[zi hn]at a;rw[zi (by have:=h.1;omega)]at e;exact h.2 n j x a e
 .have f:n=ls.length:=by have:=(zD.1 a).1;simp at this;omega
  rw[f,yp (Y _)]at a;rw[f,yp (by have:=h.1;omega),h.1]at e;simp at a e;subst a e;exact⟨g,hb,hc,y,hy,h1⟩
def pI:Yz prog 314 143 .nilFunc 1 8 :=
 ⟨underlying314,V9 yg,rfl,zW,zW⟩
def zab(bcs:List (Nat×Nat)):List zx:=bcs.map λx=>Zl x.1 x.2
def go_leg(k:Wd)(a:Nat)(m r:Fo)(b:Wd->MkS->MkS)(s:MkS)(ls:List Nat) :
  MkS.uw (.xi k a m r) b s ls=MkS.uw r b ((MkS.Zx m (b k s)).put 11 0 [] [0]) (ls++[(MkS.Zx m (b k s)).code.length]):=rfl
def pL(n:Nat):(zr4 (yZ .i64 0).cells (n*1)).toList=bh (zX n 0):=by
 apply xu1
 .simp[zr4,bh]
 .intro j h1 h2;simp[zr4,bh,Js,Nat.mod_one]
def Qb(n:Nat)(w:z8)(hn:n<=1000000):∃w',(Instr.makeSlice 85 (n:Int) (n:Int)).run prog w = .ok (.slice (w,0) n n) w'/\uk w' (.slice (w,0) n n) (zX n 0)/\Fr yH yH w w':=by
 obtain⟨i,hi,d,h2,h3⟩:=qw.info;obtain⟨w',hr,b,a⟩:=run_makeSlice_full (P:=prog) (w:=w) 0 85 3 i _ 1 qw.under hi d h2 .i64 .i64 n J GL dS (zJ _);rw[pL]at b;refine⟨w',hr,by simpa[uk]using b,a.os,a.tape,a.output,a.size,λk c _=>a.block k c zV,λ_ q=>q.elim⟩
def Gs{b:Option yI}{ws us s:List zx}{k0:Wd}{a0 l mc:Nat}{ma:Option yI}(r:vx lo hi w0 w)(d:Uv lo hi w0 b ws)(f:us.length=i*3)(k:ws=us++(zO k0 :: .int .i64 (a0:Nat) :: .slice ma l mc::s)) :
  ∃g o,b=some ⟨g,o,none⟩/\zk w g (o+i*3) (zO k0)/\zk w g (o+i*3+1) a0/\zk w g (o+i*3+2) (.slice ma l mc):=by
 have a:∀j v,[zO k0,.int .i64 a0,.slice ma l mc][j]? = some v->j<3->ws[i*3+j]? = some v:=by
  intro j v q p;rw[k,<-f,yp J,Z7,<-q];match j,p with
  | 0,_=>rfl
  | 1,_=>rfl
  | 2,_=>rfl
 have hc:∀j v,ws[i*3+j]? = some v->∃g o,b=some ⟨g,o,none⟩/\zk w g (o+(i*3+j)) v:=λj v h=>by
  obtain⟨h1,h2⟩:=zD.1 h;obtain⟨g,o,e,g1,g2,c⟩:=d _ h1;rw[h2]at c;exact⟨g,o,e,yM r c g1 g2⟩
 obtain⟨g,o,rfl,c0⟩:=hc 0 _ (a 0 _ rfl J);obtain⟨g1,t,m,c1⟩:=hc 1 _ (a 1 _ rfl J);obtain⟨g2,u,n,c2⟩:=hc 2 _ (a 2 _ rfl J);cases m;cases n;exact⟨g,o,rfl,c0,c1,c2⟩
def D7(bs:Fo)(bg:Wd->MkS->MkS)(s:MkS):MkS:=(MkS.uw bs bg s []).2.foldl (λs i=>s.xL i 0) (MkS.uw bs bg s []).1
def C1(b0:Nat)(n:Wd)(a fo:Nat)(of:Wd)(cl:Nat)(bs:Fo)(p:Nat)(L:XX)(s:MkS)(bg:Wd->MkS->MkS)(v:zx)(I:XX->z8->Prop)(w:z8)
  (ih:∀m:Fo,zH m<zH bs->Rb lo hi w0 m) (h:uU p L s w) (he:Xi lo hi w0 L.B w)
  (D9:yY lo hi w0 [.iface 199 (b0,0)] (.br n a fo of cl bs .nil)) (hL:bs.xm=true) (hc:bs.YD) (hw:bs.wf 2000000=true) (hn:bs.len<=2000000) (hs:s.sz+bs.gw<=900000)
  (hb:ypg (w:Nat) p s bs.keys bg v I) (hI:I L w) :
  zE prog 141 #[(p,0),(b0,0),v] w (MQ p L (D7 bs bg s) w):=by
 obtain⟨vt,b',ba,bc,ws,hee,qI,qX,YU,VK,XY,IK,DL,R3,Bf,Dz,_⟩:=D9;cases hee;have c4:=yM he.keep DL qI qX;obtain⟨k,cap,rfl,p7,W⟩:=hb.fn;obtain⟨HH,HE,IJ,aY,HL,HC,HW,HB⟩:=OH h he Bf Dz hL hc hw hb;obtain⟨HI,Bk,HIH,HS⟩:=hdd hI W ih hs;obtain⟨R,hR⟩:=zw (MkS.uw bs bg s []);have HR:=Z hR;have hbR:D7 bs bg s=R.2.foldl (λs i=>s.xL i 0) R.1:=by unfold D7;rw[hR]
 rw[hbR];obtain⟨M,hM⟩:=zw bs.len;have HM:=Z hM;rw[hM]at c4 hn;clear h he Bf Dz hL hc hw hb hI W ih hs hR hbR hM YU VK XY IK DL R3;go_enter func141,ntmps141;go_wp2_with fail;go_loopw [6,16] (λlv iv wr=>∃i us xs r z f ls N,iv = .int .i64 (i:Nat)/\i<=M/\yY lo hi w0 xs r/\r.xm=true/\r.YD/\r.wf 2000000=true/\us.length=i*3/\ws=us++xs/\i+r.len=M/\zH r<=zH bs/\(∀k∈r.keys,k∈bs.keys) /\
  uU p f z wr/\(f.q=L.q/\f.B=L.B)/\Fr (L.has p) (f.has p) w wr/\I f wr/\s.le z/\z.sz+r.gw<=900000/\jI wr p f z ls N/\wr.ownsRow 0 143 1 lv ls.length (zab N)/\(∀g,zM lv g->(w:Nat)<=g/\¬f.has p g)/\ls.length=i/\MkS.uw r bg z ls=R) (λ_ iv _=>M - (intOf iv).toNat)
 case atStart =>
  exact⟨0,[],ws,bs,s,L,[],[],rfl,zJ _,aY.o,HL.o,HC.o,HW.o,rfl,rfl,by have:=HM.o;omega,Y _,λ_ q=>q,HH.o,⟨rfl,rfl⟩,Fr.refl _ _,HI.o,s.le_refl,HS.o,⟨rfl,λn i x q=>by simp at q⟩,xz _ _ _ _,(λg q=>kG),rfl,HR.o⟩
 case round =>
  obtain⟨i,us,xs,r,z,f,ls,N,rfl,hiM,uB,d,O,EP,K0,RZ,C,Z0,oT,Q9,⟨hq1,oL⟩,Q6,hi1,ypf,T,hlp,F,hrg,ypd,Nv⟩:=hrel;have he1:Xi lo hi w0 f.B wr:=by rw[oL];exact HE.o.fr Q6 HH.o.lo
  obtain⟨la,lc,rfl⟩:=zo F;by_cases uh:i<M
  .cases r with
   |nil=>exfalso;simp[Fo.len]at C;omega
   |text t r=>cases d
   |hash r=>cases d
   |put n a r=>cases d
   |num n a r=>cases d
   |br n a fo of cl bs r=>cases d
   |xi k0 a0 V r0 =>
    obtain⟨R4,ma,mc,ms,rfl,Ud,lL,Ug⟩:=uB;obtain⟨g2,o2,rfl,e0,e1,e2⟩:=Gs he1.keep IJ.o K0 RZ;obtain⟨H,HE1,EN,G9,xe4,HLP,u,A⟩:=OH Q9 he1 Q6 hi1 ypf hlp F hrg;obtain⟨Gf,HLR,l8,AQ,HUS,HWS,HKK,EL⟩:=OH Nv d O EP K0 RZ oT Ud;obtain⟨HMN,DE,QI,ZX,KM,HLS⟩:=ED lL Ug C Z0 T ypd;have k3:(i:Int)<(M:Int):=J;have k4:decide ((i:Int)<(M:Int))=true:=yF;clear Q9 he1 Q6 hi1 ypf hlp F hrg Nv d O EP K0 RZ oT Ud lL Ug C Z0 T ypd;go_wp2_with fail;obtain⟨wA,hwA⟩:=zw (wr.alloc (.cells #[zO k0,a0,.slice ma V.len mc] 221));have fA:Fr yH yH wr wA:=(by rw[<-hwA];exact(Fr.refl _ _).alloc _);have cA:=zZ wr #[zO k0,a0,.slice ma V.len mc] 221 (0,0) 2;rw[hwA]at cA|-;clear hwA;have hmA:=H.o.fr fA (λ_ q=>q.elim);have yvv:k0∈bs.keys:=HKK.o k0 (by simp[Fo.keys]);have T:=KM.o;simp only[Fo.gw]at T;refine(Bk.o f z wA k0 a0 ma V.len mc hmA (HB.o.al _ _ _ _ _ G9.o fA (λ_ q=>q.elim)) xe4.o J yvv).mono ?_;rintro e w2 ⟨rfl,K,E⟩;obtain⟨lH,hbz⟩:=HB.o.le k0 z;have nA:¬f.has p (wr:Nat):=λq=>qV _ (H.o.lt q)
    have c2:=E.cell cA nA;have f12:Fr (f.has p) (f.has p) wr w2:=(fA.wide (λ_ q=>q.elim)).trans E;have TI:Xi lo hi w0 f.B w2:=HE1.o.fr f12 H.o.lo;have O:=l8.o;have U:(decide (k0.length<=4000001) && V.ya && decide (V.len<=2000000) && V.wf 2000000 && r0.wf 2000000)=true:=AQ.o;simp only[zv,decide_eq_true_eq]at U;have xe5:zH V<zH bs:=GH;have xe6:=Z (HIH.o V xe5 p f (bg k0 z) w2 ma mc ms K TI EL.o HMN.o U.1.1.1.2 U.1.2 O.2.1 U.1.1.2 J);have F12:=Z f12;have HWQ:=Z U.2;clear K E f12 TI O U xe5 cA fA hmA;go_wp2_with fail;refine xe6.o.mono ?_;rintro e w3 ⟨rfl,L2,l9,⟨KO,DG⟩,PH⟩;have Dy:=Z l9;have G:=Z PH;clear l9 PH xe6 c2;obtain⟨w4,hmk,KL,Gt⟩:=Qb 1 w3 J;rw[show((1:Nat):Int)=1 from rfl]at hmk;have EO:=Dy.o.fr Gt (λ_ q=>q.elim);have he3:Xi lo hi w0 L2.B w3:=by
     have:=(HE1.o.fr F12.o H.o.lo).fr G.o H.o.lo;rw[DG];exact this
    have he4:Xi lo hi w0 L2.B w4:=he3.fr Gt (λ_ q=>q.elim);obtain⟨l,D⟩:=zw (MkS.Zx V (bg k0 z));rw[D]at EO Dy;have hmz:=aB V (bg k0 z);rw[D]at hmz;have hx:(xE ⟨11,l.pos,0,[],zX 1 0⟩).length=3:=WL;have EE:l.sz<=900000:=J;unfold MkS.sz at EE;have HP:=Z (Zy p L2 l 11 0 [] (zX 1 0) (.slice none 0 0) (.slice (w3,0) 1 1) w4 EO (uk.nil _) KL (λg hg=>U3) (λg hg q=>zff) (λg hg q=>kG)
     (λg hg=>by rcases hg with hg|hg<;>cases hg;have:=Dy.o.base;show L2.B<=(w3:Nat);omega)
     ⟨(by decide:11<12),zV,zV,zV,by simp,rfl⟩ he4.fo he4.g1 J J J)
    have HF4:=Z Gt;have vdb:=Z D;have HMZ:=Z hmz;clear EO he3 he4 KL Gt hmz hx D;go_wp2_with fail;refine HP.o.mono ?_;rintro e w5 ⟨b,c,rfl,RY,ZV,R3,L3,TP,⟨TN,hB3⟩,OA,nb5,nc5⟩;have HM5:=Z TP;have wP:=Z OA;have A4:=Z RY;clear HP TP OA RY;have FA:=Z (show Fr (f.has p) (L3.has p) wr w5 from(((F12.o.trans G.o).trans (HF4.o.wide (λ_ q=>q.elim))).tr wP.o (λq Q=>by
     rcases Q with Q|Q|Q
     .exact(F12.o.trans G.o).fp q Q
     .cases Q
     .cases Q;exact .inr (F12.o.trans G.o).size)))
    have S:=FA.o.own u.o (λg hg=>(A.o g hg).2);obtain⟨ln,C⟩:=zw ls.length;rw[C]at S u A|-;have zy1:ln<=2000000:=(by have:=HLS.o;omega);have ON:=Z S;have aX:=Z C;clear S C;go_wp2_with (at_builtin;refine KA pI [_] 1 ON.o J ?_);intro v6 w6 G8 P;have n3:∀g,zM (.slice la ln lc) g->¬L3.has p g:=λg hg q=>(FA.o.fp g q).elim (A.o g hg).2 (by have:=ug u.o hg;omega)
    have pj:z.le l:=MkS.le_trans (HB.o.le k0 z).1 HMZ.o.1;have hl3:=MkS.le_trans pj (MkS.Zm l 11 0 [] (zX 1 0));have Th:=gh l 11 0 [] (zX 1 0);have hx3:(xE ⟨11,l.pos,0,[],zX 1 0⟩).length=3:=WL;have oE:=HMZ.o.2;obtain⟨G1,G2,G3,G4,G5⟩:=G0 (HM5.o.fr P n3) ((EN.o.trans FA.o).over P (λq Q => .inr (A.o q Q).1)) (HB.o.al _ _ _ _ _ (HB.o.fr _ _ _ _ G9.o FA.o) P (λq Q=>(A.o q Q).1)) (((HLP.o.fr FA.o hl3).more A4.o nb5 nc5 (i:=l.code.length) (y:=⟨11,l.pos,0,[],zX 1 0⟩) (by simp[MkS.put]) zV).ty P (λq Q=>xn ON.o Q)) (show ∀g,zM v6 g->(w:Nat)<=g/\¬L3.has p g from λg hg=>(P.fp g hg).elim (λq=>⟨(A.o g q).1,n3 g q⟩) (λq=>⟨zg (EN.o.trans FA.o).size q,λe=>by have:=HM5.o.lt e;omega⟩));obtain⟨a6,c6,rfl⟩:=zo G8;have HO6:=Z G8;clear G8 P n3 hmk;have hzb:=(HB.o.le k0 z).2;go_wp2;go_roundw
    case rel =>
     refine⟨i+1,us++[zO k0,.int .i64 a0,.slice ma V.len mc],R4,r0,l.put 11 0 [] (zX 1 0),L3,ls++[l.code.length],N++[(b,c)],uN,J,DE.o,HLR.o,l8.o.2.2,HWQ.o,BL,BO,by have:=QI.o;simp only[Fo.len]at this;omega,by have:=ZX.o;simp at this;omega,λk hk=>HKK.o k (by simp[Fo.keys,hk]),G1.o,⟨by rw[TN,KO,hq1],by rw[hB3,DG,oL]⟩,G2.o,G3.o,MkS.le_trans xe4.o hl3,J,G4.o,?_,G5.o,by rw[zy,HLS.o];rfl,?_⟩
     .have:=HO6.o;rw[<-aX.o]at this|-;simpa[zab]using this
     .have:=Gf.o;rw[go_leg,vdb.o]at this;exact this
    case measure=>simp only[intOf];omega
  .have kL:MkS.uw r bg z ls=(z,ls):=by
    cases r with
    |nil=>rfl
    |text t r=>cases d
    |hash r=>cases d
    |put n a r=>cases d
    |num n a r=>cases d
    |br n a fo of cl bs r=>cases d
    |xi k0 a0 V r0=>exfalso;simp only[Fo.len]at C;omega
   obtain rfl:(z,ls)=R:=kL.symm.trans Nv;obtain⟨H,EN,HLP,u,A,KM⟩:=ED Q9 Q6 hlp F hrg T;obtain⟨ln,yr0⟩:=zw ls.length;rw[yr0]at u A|-;have zy1:ln<=2000000:=J;have QI:=Z yr0;clear Q9 he1 Q6 hi1 ypf hlp F hrg Nv d O EP K0 RZ oT C Z0 T uB kL yr0 ypd;go_wp2_with fail;go_loopw [37] (λjv wr2=>∃j l,jv = .int .i64 (j:Nat)/\j<=ln/\uU p f l wr2/\Fr (f.has p) (f.has p) wr wr2/\l=(ls.take j).foldl (λs i=>s.xL i 0) z/\jI wr2 p f l ls N/\l.sz<=900000) (λjv _=>ln - (intOf jv).toNat)
   case atStart=>exact⟨0,z,rfl,zJ _,H.o,Fr.refl _ _,rfl,HLP.o,by have:=KM.o;omega⟩
   case round =>
    obtain⟨j,l,rfl,hj,K,E,D,hl2,EE⟩:=hrel;obtain⟨EI,Va,HL2,dw⟩:=hdd K E hl2 D;by_cases Bj:j<ln
    .obtain⟨ij,hij⟩:∃ij,ls[j]? = some ij:=⟨_,zj U6⟩;obtain⟨⟨b,c⟩,Pa⟩:∃x,N[j]? = some x:=⟨_,zj (by have:=QI.o;have:=HLP.o.1;omega)⟩;obtain⟨hla,-,-,y,hy,hy1⟩:=hl2.2 j ij (b,c) hij Pa;have S:=E.own u.o (λg hg=>(A.o g hg).2);obtain⟨g,gc,hve,-,-,QM⟩:=xY S J;cases hve;have VK:zk wr g j (Zl b c):=by
      rw[QM j J];simp[zab,Pa]
     have xex:l.code.length<=1000000:=(by unfold MkS.sz at EE;omega);have HLA:=Z (JQ p f l ij 0 b c y wr K hla hy J xex J);have HIJ:=Z hij;have k3:(j:Int)<(ln:Int):=J;have k4:decide ((j:Int)<(ln:Int))=true:=yF;clear K E hl2 D hla hy S QM hij Pa;go_wp2_with fail;refine HLA.o.mono ?_;rintro e w3 ⟨rfl,l9,PH⟩;have Dy:=Z l9;have G:=Z PH;clear l9 PH HLA;go_wp2;go_roundw
     case rel =>
      refine⟨j+1,l.xL ij 0,uN,J,Dy.o,Va.o.trans G.o,?_,HL2.o.fr G.o (l.Qz _ _),by rw[XH];exact EE⟩;rw[List.take_add_one,HIJ.o];simp[dw.o]
     case measure=>simp only[intOf];omega
    .have HE2:=Z (show l=ls.foldl (λs i=>s.xL i 0) z by rw[D,ye U6]);have k3:¬(j:Int)<(ln:Int):=(by omega);have k4:decide ((j:Int)<(ln:Int))=false:=yF;clear K E hl2 D;go_wp2;refine yU (v := .tuple #[]) ?_ rfl ?_
     .simp[yN,results141,go_sem]
     rw[<-HE2.o];exact⟨rfl,f,EI.o,⟨hq1,oL⟩,EN.o.trans Va.o⟩
def Kq(w:z8)(b n:Nat)(f:Wd->Option Nat):Prop :=
 ∃D:ib Unit,w.ownsMap prog 9 (plainElem prog 3) b n D/\Maps.size D=n/\∀m:Wd,Maps.has D (.string m)=(f m).isSome/\D.atKey (.string m) (.lit (.int .i64 0)) = .lit (.int .i64 (((f m).getD 0:Nat):Int))
def Kq.g{w:z8}{b:Nat}{f:Wd->Option Nat}(h:Kq w b n f):jG 3 w b n f:=by
 obtain⟨D,h1,-,a⟩:=h;exact⟨D,h1,h1.isMap,a⟩
def Kq.made(w:z8):Kq (w.alloc (.map #[] 0)) (w:Nat) 0 (λ_=>none):=⟨.map [],Hh w _ _ _,rfl,λm=>⟨rfl,rfl⟩⟩
def Kq.fr{w w':z8}{b:Nat}{f:Wd->Option Nat}(h:Kq w b n f)(hf:Fr F F' w w')(hb:¬F b):Kq w' b n f:=by
 have c:=h.g.lt;obtain⟨D,⟨es,a,d,rest⟩,h2⟩:=h;exact⟨D,⟨es,a,(hf.keep b c hb).trans d,rest⟩,h2⟩
def Kq.len{w:z8}{b:Nat}{f:Wd->Option Nat}(h:Kq w b n f)(ty:xM):(yfv #[139] ty #[.map (some b)]).run prog w = .ok (n:Nat) w:=by
 obtain⟨D,h1,rfl,_⟩:=h;exact h1.len underlying139 ty
def Kq.put{w:z8}{b:Nat}{f:Wd->Option Nat}(h:Kq w b n f)(m:Wd)(hm:m.length<=5000000)(k:Nat)(i:k<=1000000000)(hn:n<=1000000000)(hf:f m=none) :
  ∃w',(TJ 139 (.map (some b)) (zO m) (k:Int)).run prog w = .ok () w'/\Kq w' b (n+1) (λx=>if m=x then some k else f x)/\w.grownBy w' (some b):=by
 obtain⟨D,h1,h2,h3⟩:=h;have hi:=h1.isMap;have e:=h1.tidy (xf underlying9);obtain⟨w',d,c,g⟩:=h1.update (xf underlying9) underlying139 dS (key:=zO m) (yT (s:=⟨m.toArray⟩) underlying9 Vi)
  (bG underlying3 (q := .i64) (a:=(k:Int)) zx5)
 rw[toList_mk]at c;refine⟨w',d,⟨_,c,?_,λx=>?_⟩,g⟩
 .rw[Maps.size_put e,(h3 m).1,hf];simp[h2]
 .by_cases hx:m=x
  .exact yb2
  .exact yb5
structure YB(N p i4 pb mb:Nat)(kv:zx)(acc:List Nat)(done:List Wd)(L:XX)(w:z8):Prop where
 k0:zk w i4 0 (.int .i64 10)
 k1:zk w i4 1 (.int .i64 0)
 k2:zk w i4 2 (.int .i64 0)
 k3:zk w i4 3 kv
 k4:zk w i4 4 (.slice none 0 0)
 z:∀j,w.frozen? ⟨i4,j,none⟩=false
 pm:zk w pb 0 (.map (some mb))
 mp:Kq w mb done.length (jg done)
 row:uk w kv acc
 lo:N<=i4/\N<=pb/\N<=mb/\∀g,zM kv g->N<=g
 out:¬L.has p i4/\¬L.has p pb/\¬L.has p mb/\∀g,zM kv g->¬L.has p g
 ne:i4≠pb/\i4≠mb/\pb≠mb/\¬zM kv i4/\¬zM kv pb/\¬zM kv mb
section
variable {N p i4 pb mb:Nat} {kv:zx} {acc:List Nat} {done:List Wd} {L L':XX} {w w':z8}
def YB.lt(h:YB N p i4 pb mb kv acc done L w):i4<(w:Nat)/\pb<(w:Nat)/\mb<(w:Nat):=⟨X w _ h.k0,X w _ h.pm,h.mp.g.lt⟩
def YB.keep(h:YB N p i4 pb mb kv acc done L w)(hf:Fr F F' w w')(hF:∀g,(g=i4\/g=pb\/g=mb\/zM kv g)->¬F g)(d:∀g,(g=i4\/g=pb\/g=mb\/zM kv g)->¬L'.has p g):YB N p i4 pb mb kv acc done L' w':=by
 have a:=hF i4 (.inl rfl);have b:=hF pb (.inr (.inl rfl));have c:=hF mb (.inr (.inr (.inl rfl)));exact⟨hf.cell h.k0 a,hf.cell h.k1 a,hf.cell h.k2 a,hf.cell h.k3 a,hf.cell h.k4 a,λj=>(hf.frozen h.lt.1 a).trans (h.z j),hf.cell h.pm b,h.mp.fr hf c,hf.own h.row (λg e=>hF g (.inr (.inr (.inr e)))),h.lo,⟨d i4 (.inl rfl),d pb (.inr (.inl rfl)),d mb (.inr (.inr (.inl rfl))),λg e=>d g (.inr (.inr (.inr e)))⟩,h.ne⟩
def YB.all(h:YB N p i4 pb mb kv acc done L w):∀g,(g=i4\/g=pb\/g=mb\/zM kv g)->¬L.has p g/\g<(w:Nat)/\N<=g:=by
 rintro g (rfl|rfl|rfl|a)
 .exact⟨h.out.1,h.lt.1,h.lo.1⟩
 .exact⟨h.out.2.1,h.lt.2.1,h.lo.2.1⟩
 .exact⟨h.out.2.2.1,h.lt.2.2,h.lo.2.2.1⟩
 .exact⟨h.out.2.2.2 g a,ug h.row a,h.lo.2.2.2 g a⟩
def YB.fr(h:YB N p i4 pb mb kv acc done L w)(hf:Fr (L.has p) (L'.has p) w w'):YB N p i4 pb mb kv acc done L' w' :=
 h.keep hf (λg a=>(h.all g a).1) (λg a q=>(hf.fp g q).elim (h.all g a).1 (by have:=(h.all g a).2.1;omega))
def YB.al(h:YB N p i4 pb mb kv acc done L w)(hf:Fr F F' w w')(hF:∀g,F g->(w:Nat)<=g):YB N p i4 pb mb kv acc done L w' :=
 h.keep hf (λg hg q=>zqb) (λg hg=>(h.all g hg).1)
def YB.key(h:YB N p i4 pb mb kv acc done L w)(c:t ∉ done)(hm:Kq w' mb (done.length+1) (λx=>if t=x then some done.length else jg done x))(a:w.grownBy w' (some mb)):YB N p i4 pb mb kv acc (done++[t]) L w':=by
 have hf:Fr (λk=>k=mb) (λk=>k=mb) w w':=⟨a.os,a.tape,a.output,a.size,λk b hn=>a.block k b (λe=>hn (zL e)),λ_ q => .inl q⟩;obtain⟨n1,n2,n3,n4,f,d⟩:=h.ne;rw[FO c]at hm;exact⟨hf.cell h.k0 n2,hf.cell h.k1 n2,hf.cell h.k2 n2,hf.cell h.k3 n2,hf.cell h.k4 n2,λj=>(hf.frozen h.lt.1 n2).trans (h.z j),hf.cell h.pm n3,by simpa using hm,hf.own h.row (λg a e=>d (e▸a)),h.lo,h.out,h.ne⟩
def YB.num{d:zx}(h:YB N p i4 pb mb kv acc done L w)(hr:uk w2 d (acc++[n]))(hf:Fr (zM kv) (zM d) w w2)(o:∀g,L.has p g->g<(w:Nat))(r:N<=(w:Nat)):YB N p i4 pb mb d (acc++[n]) done L (w2.setCell (i4,3) d):=by
 obtain⟨n1,n2,n3,n4,l,m⟩:=h.ne;have k:∀g,zM d g->zM kv g\/(w:Nat)<=g:=hf.fp;have f:∀g,g<(w:Nat)->¬zM kv g->¬zM d g:=λg a b c=>(k g c).elim b J
 have c:=λ(j:Nat) (v:zx) (hc:zk w i4 j v) (q:j≠3)=>(show(w2.setCell (zQ i4 3) d).cell? (zQ i4 j)=some v by rw[zr,yv (λe=>q BP)];exact hf.cell hc n4)
 refine⟨c 0 _ h.k0 zW,c 1 _ h.k1 zW,c 2 _ h.k2 zW,xq (hf.cell h.k3 n4) _,c 4 _ h.k4 zW,λj=>by rw[zP];exact(hf.frozen h.lt.1 n4).trans (h.z j),uH (hf.cell h.pm l) _ n1,
  (h.mp.fr hf m).fr (show Fr (λg=>g=i4) (λg=>g=i4) w2 (w2.setCell (i4,3) d) from(Fr.refl _ _).set _ (.inl rfl)) (λe=>n2 e.symm),xP hr (f _ h.lt.1 n4) _,⟨h.lo.1,h.lo.2.1,h.lo.2.2.1,λg i=>(k g i).elim (h.lo.2.2.2 g) J⟩,
  ⟨h.out.1,h.out.2.1,h.out.2.2.1,λg i=>(k g i).elim (h.out.2.2.2 g) (λa b=>by have:=o g b;omega)⟩,n1,n2,n3,f _ h.lt.1 n4,f _ h.lt.2.1 l,f _ h.lt.2.2 m⟩
end
structure JF(N p idx tb b c pb mb n:Nat)(f:Wd->Option Nat)(L:XX)(w:z8):Prop where
 t:zk w tb 0 (Zl b c)
 l:jF w p idx b c
 pm:zk w pb 0 (.map (some mb))
 mp:jG 3 w mb n f
 out:¬L.has p tb/\¬L.has p b/\¬L.has p c/\¬L.has p pb/\¬L.has p mb
 lt:tb<N/\b<N/\c<N/\pb<N/\mb<N
section
variable {N p idx tb b c pb mb n:Nat} {f:Wd->Option Nat} {L L':XX} {w w':z8}
def JF.keep(h:JF N p idx tb b c pb mb n f L w)(hf:Fr F F' w w')(hF:∀g,(g=tb\/g=b\/g=c\/g=pb\/g=mb)->¬F g/\¬L'.has p g):JF N p idx tb b c pb mb n f L' w':=by
 have h1:=hF tb (.inl rfl);have h2:=hF b (.inr (.inl rfl));have a:=hF c (.inr (.inr (.inl rfl)));have d:=hF pb (.inr (.inr (.inr (.inl rfl))));have e:=hF mb (.inr (.inr (.inr (.inr rfl))));exact⟨hf.cell h.t h1.1,h.l.fr hf h2.1 a.1,hf.cell h.pm d.1,h.mp.fr hf e.1,⟨h1.2,h2.2,a.2,d.2,e.2⟩,h.lt⟩
def JF.all(h:JF N p idx tb b c pb mb n f L w):∀g,(g=tb\/g=b\/g=c\/g=pb\/g=mb)->¬L.has p g/\g<N/\g<(w:Nat):=by
 obtain⟨k,m,o,q,r⟩:=h.out;obtain⟨a,d,e,i,j⟩:=h.lt;rintro g (rfl|rfl|rfl|rfl|rfl)
 .exact⟨k,a,X w _ h.t⟩
 .exact⟨m,d,h.l.lt.1⟩
 .exact⟨o,e,h.l.lt.2⟩
 .exact⟨q,i,X w _ h.pm⟩
 .exact⟨r,j,h.mp.lt⟩
def JF.fr(h:JF N p idx tb b c pb mb n f L w)(hf:Fr (L.has p) (L'.has p) w w'):JF N p idx tb b c pb mb n f L' w' :=
 h.keep hf (λg a=>⟨(h.all g a).1,λq=>(hf.fp g q).elim (h.all g a).1 (by have:=(h.all g a).2.2;omega)⟩)
def JF.al(h:JF N p idx tb b c pb mb n f L w)(hf:Fr F F' w w')(hF:∀g,F g->N<=g):JF N p idx tb b c pb mb n f L w' :=
 h.keep hf (λg hg=>⟨λq=>zqb,(h.all g hg).1⟩)
def zc0(s:MkS)(x:uF)(key:Wd)(a:Nat)(ma:Option yI)(E mc:Nat)(hm:uU p L s w)(h:JF N p idx tb b c pb mb n f L w)(M:key.length<=17)(hx:s.code[idx]? = some x)(C:(f key).getD 0<x.tg.length)(H:x.tg.length<=1000000)(hs:s.code.length<=900000) :
  zE prog 142 #[.agg #[zO key,a,.slice ma E mc],(tb,0),(pb,0)] w (Rj p L (s.xL idx ((f key).getD 0)) w):=by
 obtain⟨A,hA⟩:=zw (w.alloc (.cells #[zO key,a,.slice ma E mc] 221));have u:Fr yH yH w A:=Iz;have d:=h.keep u (L':=L) (λg G=>⟨id,(h.all g G).1⟩);have r:=hm.fr u (λ_ q=>q.elim);have K:=zZ w #[zO key,a,.slice ma E mc] 221 (0,0) 0;obtain⟨j,k⟩:=zw ((f key).getD 0);have D:=d.mp.FN Gp key J;rw[k]at D C|-;have O:=d.t;have hp:=d.pm;have F:=Z (JQ p L s idx j b c x A r d.l hx C J H);have z:=Z u;have I:=Z hA;subst hA;clear h hm d r hx C k u;go_enter func142,ntmps142;go_wp2_with fail;refine F.o.mono ?_;rintro e w2 ⟨rfl,m,i⟩;have B:=Z m;have y:=Z i;clear F m i;go_wp2;refine yU (v := .tuple #[]) ?_ rfl ?_
 .simp[yN,results142,go_sem]
 exact⟨rfl,B.o,(z.o.wide (λ_ q=>q.elim)).trans y.o⟩
end
def pM(h:uU p L s w)(n N:Nat)(o:N<=(w:Nat)) :
  ∃W,W=(((w.alloc (.cells #[n] 3)).alloc (.cells #[.int .i64 10,.int .i64 0,.int .i64 0,.slice (w,0) 1 1,.slice none 0 0] 87)).alloc (.map #[] 0)).alloc (.cells #[.map (some ((w:Nat)+2))] 139) /\
   YB N p ((w:Nat)+1) ((w:Nat)+3) ((w:Nat)+2) (.slice (w,0) 1 1) [n] [] L W/\Fr yH yH w W:=by
 obtain⟨A,hA⟩:=zw (w.alloc (.cells #[n] 3));have b:(A:Nat)=(w:Nat)+1:=by rw[<-hA];simp
 have r:uk A (.slice (zQ (w:Nat) 0) 1 1) [n]:=by rw[<-hA];exact uk.lit w [n] zV
 have l:Fr yH yH w A:=Iz;rw[hA];clear hA;obtain⟨B,hB⟩:=zw (A.alloc (.cells #[.int .i64 10,.int .i64 0,.int .i64 0,.slice (zQ (w:Nat) 0) 1 1,.slice none 0 0] 87));have a:=λj=>zZ A #[.int .i64 10,.int .i64 0,.int .i64 0,.slice (zQ (w:Nat) 0) 1 1,.slice none 0 0] 87 (0,0) j
 have zB:∀j,B.frozen? ⟨(w:Nat)+1,j,none⟩=false:=by intro j;rw[<-hB,<-b];simp
 rw[hB,b]at a;have k:(B:Nat)=(w:Nat)+2:=by rw[<-hB];simp[b]
 have c:Fr yH yH A B:=WN;rw[hB];clear hB;obtain⟨C,hC⟩:=zw (B.alloc (.map #[] 0));have i:=Kq.made B;rw[hC,k]at i;have t:(C:Nat)=(w:Nat)+3:=by rw[<-hC];simp[k]
 have m:Fr yH yH B C:=WO;rw[hC];clear hC;have d:Fr yH yH C (C.alloc (.cells #[.map (some ((w:Nat)+2))] 139)):=(Fr.refl _ _).alloc _;have f:=m.trans d;have no:∀g,(w:Nat)<=g->¬L.has p g:=λg hg q=>by have:=h.lt q;omega
 refine⟨_,rfl,⟨f.cell (a 0) id,f.cell (a 1) id,f.cell (a 2) id,f.cell (a 3) id,f.cell (a 4) id,λj=>(f.frozen (show (w:Nat)+1<_ by omega) id).trans (zB j),?_,i.fr d id,(c.trans f).own r (λ_ _=>id),⟨J,J,J,λg hg=>by cases hg;exact o⟩,
  ⟨no _ J,no _ J,no _ J,λg hg=>no g AA⟩,⟨J,J,J,λe=>?_,λe=>?_,λe=>?_⟩⟩,l.trans (c.trans f)⟩
 .rw[<-t];exact zZ C #[.map (some ((w:Nat)+2))] _ _ _
 all_goals
  have u:(w:Nat)=_:=zL e;omega
def zc1(ks:List Wd)(k:Wd)(h:k∈ks):(jg (ks.filter (· ≠ qf)++[qf]) k).getD 0=MkS.place ks k/\MkS.place ks k<=(ks.filter (· ≠ qf)).length:=by
 unfold jg MkS.place;by_cases a:k=qf
 .subst a;rw[yK zV,yK rfl];have:qf ∉ ks.filter (· ≠ qf):=by simp
  simp[VV,this,xj9]
 .have hm:k∈ks.filter (· ≠ qf):=uv.2 ⟨h,by simp[a]⟩;rw[yK (by simp[h,a]),yv a,VV,yK hm];exact⟨rfl,Ft⟩
def Nu(b0:Nat)(n:Wd)(a:Nat)(of:Wd)(cl:Nat)(bs:Fo)(p:Nat)(L:XX)(s:MkS)(w:z8)
  (ih:∀m:Fo,zH m<zH bs->Rb lo hi w0 m) (h:uU p L s w) (he:Xi lo hi w0 L.B w)
  (D9:yY lo hi w0 [.iface 199 (b0,0)] (.br n a 0 of cl bs .nil)) (hc:(Fo.br n a 0 of cl bs .nil).YD) (IF:(Fo.br n a 0 of cl bs .nil).wf 2000000=true) (hs:s.sz+(40+bs.cw)<=900000) :
  zE prog 97 #[(p,0),(b0,0)] w (MQ p L (D7 bs (MkS.bO n bs s) (MkS.ki n bs s)) w):=by
 have Ew:=@run_makeMap prog;have HND:=Z D9;obtain⟨vt,b',ba,bc,ws,hee,qI,qX,YU,VK,XY,IK,DL,R3,Bf,Dz,_⟩:=D9;cases hee;obtain⟨IG,-,-,hL,zc2,hks,Pa,-⟩:=hc;have Bd:(decide (n.length<=4000001) && decide (0<3) && bs.xm && decide (bs.len<=2000000) && bs.wf 2000000 && Fo.nil.wf 2000000)=true:=IF;simp only[zv,decide_eq_true_eq]at Bd;obtain⟨⟨⟨-,hbn⟩,XO⟩,-⟩:=Bd;have c0:=yM he.keep YU qI qX;have c4:=yM he.keep DL qI qX;have Z0:s.cs.length<=900000/\s.code.length<=900000/\s.pos<=900000:=WI;obtain⟨HC,HH,HE,IJ,aY,HL,aU,HKS⟩:=OH (Qf p L s n w h J J) h he Bf Dz hL zc2 hks;obtain⟨HBC,HBW,HIH,HS⟩:=hdd Pa XO ih hs;obtain⟨M,hM⟩:=zw bs.len;have HM:=Z hM;rw[hM]at c4 hbn;obtain⟨k0,iA⟩:=zw (s.num n);rw[iA]at HC;have HK0:=Z iA;clear h he Bf Dz hL zc2 hks Pa XO ih hs hM YU VK XY IK DL R3 iA IF;go_enter func97,ntmps97;go_wp2_with fail;refine HC.o.mono ?_;rintro e w1 ⟨rfl,L1,Q9,⟨hq1,oL⟩,Q6⟩;clear HC;obtain⟨W,hW,oD,OW⟩:=pM Q9 k0 (w:Nat) Q6.size;have c4:=Q6.cell (a:=(zQ b0 4)) c4 (λq=>by have:=HH.o.lo _ q;have:=HE.o.hB;simp only at *;omega);have c4a:=λo1 o2 o3 o4=>yu (yu (yu (yu c4 o1) o2) o3) o4
 obtain⟨R,hR⟩:=zw (MkS.vR bs (s.const n) [k0]);have HR:=Z hR;have z1:=(xS s n).1;go_wp2_with fail;rw[<-hW];obtain⟨i4,hi4⟩:=zw ((w1:Nat)+1);obtain⟨pb,hpb⟩:=zw ((w1:Nat)+3);obtain⟨mb,hmb⟩:=zw ((w1:Nat)+2);rw[hi4,show i4+1+1=pb by omega];go_loopw [24] (λiv wr=>∃i us xs r D S acc kv done pre,iv = .int .i64 (i:Nat)/\i<=M/\yY lo hi w0 xs r/\r.xm=true/\us.length=i*3/\ws=us++xs/\i+r.len=M/\bs.keys=pre++r.keys/\done=pre.filter (· ≠ qf) /\
  uU p S D wr/\(S.q=L.q/\S.B=L.B)/\Fr (L.has p) (S.has p) w wr/\YB (w:Nat) p i4 pb mb kv acc done S wr/\MkS.vR r D acc=R/\done.length<=i/\(acc.length=done.length+1/\∀x∈acc,x<=900000)/\D.sz+r.keys.length<=899990) (λiv _=>M - (intOf iv).toNat)
 case atStart =>
  rw[hi4,hpb,hmb]at oD;exact⟨0,[],ws,bs,s.const n,L1,[k0],_,[],[],rfl,zJ _,aY.o,HL.o,rfl,rfl,by have:=HM.o;omega,rfl,rfl,Q9.fr OW (λ_ q=>q.elim),⟨hq1,oL⟩,Q6.trans (OW.wide (λ_ q=>q.elim)),oD,HR.o,Y _,⟨rfl,by have:=N5 s n;have:=HK0.o;simp;omega⟩,by have:=HS.o;have:=Fo.Xe bs;omega⟩
 case round =>
  clear hW oD OW Q9 Q6 c4 c4a hR;obtain⟨i,us,xs,r,D,S,acc,kv,done,pre,rfl,hiM,uB,D4,K0,RZ,Z9,N,G,Jz,⟨KO,DG⟩,ZL,Q,Nv,uS,⟨Ke,hax⟩,Vu⟩:=hrel;have HAX:=Z hax;have HAL:=Z Ke;have vb4:acc.length<=i+1:=J;clear hax Ke;have TI:Xi lo hi w0 S.B wr:=by rw[DG];exact HE.o.fr ZL HH.o.lo
  obtain⟨EI,HE2,Va,E,Gf,HLR,HUS,HWS⟩:=OH Jz TI ZL Q Nv D4 K0 RZ;obtain⟨QI,p6,HDN,KM⟩:=hdd Z9 N G Vu;by_cases uh:i<M
  .cases r with
   |nil=>exfalso;simp[Fo.len]at Z9;omega
   |text t r=>cases D4
   |hash r=>cases D4
   |put n a r=>cases D4
   |num n a r=>cases D4
   |br n a fo of cl bs r=>cases D4
   |xi k1 a0 m0 r0 =>
    obtain⟨R4,ma,mc,ms,rfl,Ud,lL,Ug⟩:=uB;obtain⟨g2,o2,rfl,e0,e1,e2⟩:=Gs TI.keep IJ.o K0 RZ;have DE:=Z Ug;have k3:(i:Int)<(M:Int):=J;have k4:decide ((i:Int)<(M:Int))=true:=yF;clear Jz TI ZL Nv D4 K0 RZ Ud lL Ug Z9 N G Vu;have hfA:Fr yH yH wr (wr.alloc (.cells #[zO k1,a0,.slice ma m0.len mc] 221)):=(Fr.refl _ _).alloc _;have U:=E.o.al hfA (λ_ q=>q.elim);have HSA:=Z U;have HFA:=Z (Va.o.trans (hfA.wide (λ_ q=>q.elim)));have HMA:=Z (EI.o.fr hfA (λ_ q=>q.elim));have Eo:=QI.o;simp only[Fo.len]at Eo;have aC:=KM.o;simp only[Fo.keys,zY]at aC;by_cases hko:k1=qf
    .have kq:(k1==[111,116,104,101,114])=true:=(by rw[hko];decide);have HKO:=Z hko;clear hfA U Q hko;go_wp2;go_roundw
     case rel =>
      refine⟨i+1,us++[zO k1,.int .i64 a0,.slice ma m0.len mc],R4,r0,D,S,acc,kv,done,pre++[k1],by go_num,J,DE.o,HLR.o,BL,BO,J,by rw[p6.o];simp[Fo.keys],by rw[HDN.o,zzg];simp[HKO.o],HMA.o,⟨KO,DG⟩,HFA.o,HSA.o,?_,J,⟨HAL.o,HAX.o⟩,J⟩;have:=Gf.o;rw[MkS.vR,yK HKO.o]at this;exact this
     case measure=>simp only[intOf];omega
    .have kq:(k1==[111,116,104,101,114])=false:=(by simpa[qf]using hko);have HKO:=Z hko;have hkb:k1∈bs.keys:=MS;have O:k1 ∉ done:=by
      rw[HDN.o];intro q;have h1:=aU.o;rw[p6.o]at h1;exact(List.nodup_append.1 h1).2.2 k1 (uv.1 q).1 k1 (by simp[Fo.keys]) rfl
     have vb6:=(HKS.o k1 hkb).1;obtain⟨A,hdn⟩:=zw done.length;have V:=U.mp.len;obtain⟨wp,P,hmp,j⟩:=U.mp.put k1 J done.length J J (by unfold jg;rw[yv O]);have pmA:=U.pm;have f:=Z (U.key O hmp j);have hfp:Fr (λg=>g=mb) (λg=>g=mb) (wr.alloc (.cells #[zO k1,a0,.slice ma m0.len mc] 221)) wp:=⟨j.os,j.tape,j.output,j.size,λk hk hn=>j.block k hk (λe=>hn (zL e)),λ_ q => .inl q⟩;rw[hdn]at V P uS;have I:=Z hfp;have HGP:=Z (show zk wp (wr:Nat) 0 (zO k1)from hfp.cell (zZ _ _ _ _ _) (λe=>by have:=E.o.lt.2.2;simp only at e;omega));clear hfA U Q hfp hmp j hko;have yr2:=HMA.o.fr I.o (by rintro g rfl;exact E.o.out.2.2.1);have xej:D.cs.length<=1000000:=(by unfold MkS.sz at aC;omega);have HCC:=Z (Qf p S D k1 wp.drew yr2.drew J xej);have HMP:=Z yr2;obtain⟨kn,hkn⟩:=zw (D.num k1);rw[hkn]at HCC;have oH:=Z hkn;have HHL:=Z (show Fr (L.has p) (S.has p) w wp from HFA.o.over I.o (by rintro g rfl;exact .inr E.o.lo.2.2.1));obtain⟨ac,cc,rfl⟩:=zo f.o.row;have k3c:=f.o.k3;have kec:=HGP.o;have neb:¬S.has p (wr:Nat):=λq=>by have:=EI.o.lt q;omega
     obtain⟨an,han⟩:=zw acc.length;rw[han]at k3c;have vb4:an<=i+1:=J;have Yx:=f.o.row;rw[show uk wp (.slice ac acc.length cc) acc=wp.ownsRow 0 3 1 (.slice ac acc.length cc) acc.length (bh acc)from rfl,han]at Yx;have Yy:=Z Yx;have HAN:=Z han;clear yr2 xej hkn Yx han;go_wp2_with fail;clear P V pmA;refine Dp (λW':z8=>zk W' i4 3 (.slice ac an cc)/\zk W' (wr:Nat) 0 (zO k1)) 9 [0,1,2,3,4] 5 ⟨k3c,kec⟩ ?_;refine dF 5 (λJk hJ=>?_);go_simp;refine HCC.o.mono ?_;rintro e w5 ⟨rfl,L3,TP,⟨TN,hB3⟩,C⟩;have C:=C.und;have k5:=C.cell k3c f.o.out.1;have e5:=C.cell kec neb;have K:=f.o.fr C;refine hJ.out _ _ ⟨k5,e5⟩ λ_=>?_
     clear hJ Jk;refine dF 6 (λJk hJ=>?_);go_simp;refine hJ.out _ _ ⟨yu k5 _,yu e5 _⟩ λ_=>?_
     clear hJ Jk;refine dF 7 (λJk hJ=>?_);rw[yK (by rfl)];refine jZ qw [_] 1 (C.own Yy.o (λg l=>f.o.out.2.2.2 g (by rw[HAN.o];exact l))) J ?_;intro v6 w6 G8 T;rw[HAN.o]at K;have Ks:uk w6 v6 (acc++[kn]):=by
      show yey _ _ _ _ _ (acc++[kn]).length _;rw[zy,HAN.o];simpa[bh]using G8
     have z6:=(T.frozen (a:=(i4,3)) K.lt.1 K.ne.2.2.2.1).trans (K.z 3);have HSN:=Z (K.num Ks T (λg l=>TP.lt l) (zg Va.o.size (zg zV (zg I.o.size C.size))));have HM6:=Z (TP.fr T (λg l=>K.out.2.2.2 g l));have HF6:=Z ((HHL.o.trans C).over T (λg l => .inr (K.lo.2.2.2 g l)));have k6:=T.cell k5 K.ne.2.2.2.1;have hbo:¬zM (.slice ac an cc) (wr:Nat):=λq=>by
      have h1:=E.o.row;have h2:=f.o.ne;have:=ug E.o.row (g:=(wr:Nat)) (by rw[HAN.o];exact q);omega
     have e6:=T.cell e5 hbo;obtain⟨a6,c6,rfl⟩:=zo G8;clear K Ks G8;go_simp;refine hJ.out _ _ ⟨k6,e6⟩ λ_=>?_
     clear hJ Jk;refine jM [8] 1 rfl ZW yg yg ⟨k6,e6⟩ ?_;refine ty ?_;try simp only[pl]
     refine yW ?_;refine D0 9 (λJk hJ=>?_);go_simp;refine hJ.out _ _ ?_;clear hJ Jk;refine D1 ?_ _;have fst:∀u,Fr (λg=>g=i4) (λg=>g=i4) w6 (w6.setCell (i4,3) u):=λu=>(Fr.refl _ _).set _ (.inl rfl)
     have HFS:=Z (fst (.slice a6 (an+1) c6));have HLO:=Z E.o.lo;have HOU:=Z (show ¬L3.has p i4 from HSN.o.out.1);clear C T TP k5 e5 k6 e6 fst;go_wp2;go_roundw
     case rel =>
      refine⟨i+1,us++[zO k1,.int .i64 a0,.slice ma m0.len mc],R4,r0,D.const k1,L3,acc++[kn],_,done++[k1],pre++[k1],by go_num,J,DE.o,HLR.o,BL,BO,J,MS,?_,HM6.o.fr HFS.o (by rintro g rfl;exact HOU.o),⟨TN.trans KO,hB3.trans DG⟩,HF6.o.over HFS.o (by rintro g rfl;exact .inr HLO.o.1),HSN.o,?_,yF,⟨by simp[HAL.o],?_⟩,?_⟩
      .rw[HDN.o,zzg];simp[HKO.o]
      .have:=Gf.o;rw[MkS.vR,yv HKO.o,oH.o]at this;exact this
      .intro x hx;rcases zS.1 hx with hx|hx
       .exact HAX.o x hx
       .simp at hx;have:=N5 D k1;have:=oH.o;unfold MkS.sz at aC;omega
      .have:=(xS D k1).1;omega
     case measure=>simp only[intOf];omega
  .have kL:r.keys=[]/\MkS.vR r D acc=(D,acc):=ydb;have VW:=Z (show R=(D,acc)from Nv.symm.trans kL.2);have HK1:=Z (show bs.keys=pre by rw[N,kL.1];simp);have O:qf ∉ done:=(by rw[G];simp);obtain⟨A,hdn⟩:=zw done.length;have V:=Q.mp.len;obtain⟨wp,P,hmp,j⟩:=Q.mp.put qf zW done.length J J (by unfold jg;rw[yv O]);have pmA:=Q.pm;have f:=Z (Q.key O hmp j);have hfp:Fr (λg=>g=mb) (λg=>g=mb) wr wp:=⟨j.os,j.tape,j.output,j.size,λk hk hn=>j.block k hk (λe=>hn (zL e)),λ_ q => .inl q⟩;rw[hdn]at V P uS;rw[show zO qf = .string ⟨#[111,116,104,101,114]⟩from rfl]at P;have uaf:A<=100000:=by
    have h1:done.length<=bs.keys.length:=(by rw[HK1.o,G];exact List.length_filter_le ..);have:=Fo.Xe bs;have:=HS.o;omega
   have I:=Z hfp;have k3:¬(i:Int)<(M:Int):=J;have k4:decide ((i:Int)<(M:Int))=false:=yF;have pmp:=f.o.pm;have hlp:=f.o.mp.len;rw[zy,hdn]at hlp;have uad:∀ty,(yfv #[139] ty #[.map (some mb)]).run prog wp = .ok ((A+1:Nat):Int) wp:=hlp;obtain⟨wm,hmk,hkm,lF⟩:=Qb (A+1) wp J;have xed:=Z hdn;clear Jz TI ZL Q Nv D4 K0 RZ Z9 N G Vu uB kL hmp j hfp hlp hdn;rw[show((A+1:Nat):Int)=(A:Int)+1 by omega]at hmk;have hS:=f.o.al lF (λ_ q=>q.elim);obtain⟨ac,ak,aD⟩:=zo hS.row;have q0:=hS.k0;have q1:=hS.k1;have q2:=hS.k2;have q3:=hS.k3;have q4:=hS.k4;have z4:=hS.z 4;have FP:=I.o;have nmb:∀g,S.has p g->g≠mb:=(by rintro g l rfl;exact E.o.out.2.2.1 l);have fm2:Fr (λg=>g=mb) (λg=>g=mb) wr wm:=FP.trans (lF.wide (λ_ q=>q.elim));have xeb:=EI.o.fr fm2 (by rintro g rfl l;exact nmb _ l rfl);have hSt:∀u,Fr (λg=>g=i4) (λg=>g=i4) wm (wm.setCell (i4,4) u):=λu=>(Fr.refl _ _).set _ (.inl rfl)
   obtain⟨Dy,HEE,PU,HFM,HKM⟩:=G0 (xeb.fr (hSt (.slice (zQ (wp:Nat) 0) (A+1) (A+1))) (by rintro g rfl;exact E.o.out.1)) ((HE2.o.fr fm2 (by rintro g rfl;have:=E.o.lo.2.2.1;have:=EI.o.base;have:=HH.o.base;omega)).fr (hSt (.slice (zQ (wp:Nat) 0) (A+1) (A+1))) (by rintro g rfl;have:=E.o.lo.1;have:=HH.o.base;omega)) hS lF hkm;rw[aD]at q3;clear hS FP fm2 xeb hSt lF hkm nmb;go_wp2_with fail;obtain⟨wS,hwS⟩:=zw (wm.setCell (zQ i4 4) (.slice (zQ (wp:Nat) 0) (A+1) (A+1)));rw[hwS]at Dy HEE|-;have H:acc.length=A+1:=(by rw[HAL.o,xed.o]);obtain⟨x0,xi1,zkv⟩:∃x0 xi1,acc=x0::xi1:=by
    cases acc with
    |nil=>simp at H
    |cons a b=>exact⟨a,b,rfl⟩
   have hS:=PU.o;have lwp:∀g,S.has p g->g<(wp:Nat):=λg l=>by have:=EI.o.lt l;have:=I.o.size;omega
   have lkp:∀g,zM kv g->g<(wp:Nat):=λg l=>ug f.o.row l
   have rk1:uk wS kv acc:=(by rw[<-hwS];exact xP hS.row hS.ne.2.2.2.1 _);have rt1:uk wS (.slice (wp,0) (A+1) (A+1)) (zX (A+1) 0):=by
    rw[<-hwS];exact xP HKM.o (λe=>by have:=f.o.lt.1;have e2:(wp:Nat)=i4:=zL e;omega) _
   have AJ:IE ⟨10,D.pos,0,acc,zX (A+1) 0⟩:=by
    refine⟨(by decide:10<12),zV,λx hx=>by have:=HAX.o x hx;omega,λx hx=>by have:=dQ hx;omega,by show acc.length<=_;omega,?_⟩;show okB [110,42] acc.length (zX (A+1) 0).length=true;rw[H,fL];simp[okB]
   have hxl:(xE ⟨10,D.pos,0,acc,zX (A+1) 0⟩).length<=1000000:=by
    rw[zkv,Nz];rw[zkv]at H;simp at H;omega
   have lN:=KM.o;unfold MkS.sz at lN;have HP:=Z (Zy p S D 10 0 acc (zX (A+1) 0) kv (.slice (wp,0) (A+1) (A+1)) wS Dy.o rk1 rt1 (λg l=>hS.out.2.2.2 g l) (λg l q=>by cases l;exact qV _ (lwp _ q)) (λg l q=>by cases l;exact qV _ (lkp _ q))
    (λg l=>by
     have h1:=EI.o.base;have h2:=HH.o.base;have h3:=Va.o.size;have h4:=I.o.size;rcases l with l|l
     .have:=hS.lo.2.2.2 g l;omega
     .cases l;show S.B<=(wp:Nat);exact J) AJ HEE.o.fo HEE.o.g1 J J hxl)
   have hSS:D.put 10 0 acc (zX (A+1) 0)=MkS.ki n bs s:=by
    have h1:MkS.fy n bs s=(D,acc):=(by unfold MkS.fy;rw[HK0.o,HR.o,VW.o]);unfold MkS.ki;rw[h1,H]
   have xi2:D.code.length=(MkS.fy n bs s).1.code.length:=by
    have h1:MkS.fy n bs s=(D,acc):=(by unfold MkS.fy;rw[HK0.o,HR.o,VW.o]);rw[h1]
   obtain⟨HSS,HID,HTG,Vs⟩:=hdd hSS xi2 (show ∃x,(D.put 10 0 acc (zX (A+1) 0)).code[D.code.length]? = some x/\x.tg.length=A+1 from⟨_,by simp[MkS.put];rfl,zV⟩) (show Fr (λg=>g=i4) (λg=>g=i4) wp wS by rw[<-hwS];exact(HFM.o.wide (λ_ q=>q.elim)).set _ (.inl rfl));clear rk1 rt1 AJ hxl lN hSS xi2 hS lwp lkp zkv H;rw[aD]at HP;clear hwS;go_wp2_with fail;refine HP.o.mono ?_;rintro e w5 ⟨b,c,rfl,RY,ZV,R3,L3,TP,⟨TN,hB3⟩,C,nb5,nc5⟩;have HM5:=Z TP;have wP:=Z C;have A4:=Z RY;clear HP TP C RY;go_wp2_with fail;obtain⟨wT,hwT⟩:=zw (w5.alloc (.cells #[Zl b c] 143));have hfT:Fr yH yH w5 wT:=(by rw[<-hwT];exact(Fr.refl _ _).alloc _);have hcT:=zZ w5 #[Zl b c] 143 (0,0) 0;have hsT:(wT:Nat)=(w5:Nat)+1:=(by rw[<-hwT];simp);rw[hwT]at hcT;have ne:=f.o.ne;have lo:=f.o.lo;have ou:=f.o.out;have lt:=f.o.lt;have swr:=Va.o.size;have swp:=I.o.size;have swS:=Vs.o.size;have sw5:=wP.o.size;have hP:∀g,g=pb\/g=mb->¬(S.has p g\/zM kv g\/zM (.slice (zQ (wp:Nat) 0) (A+1) (A+1)) g):=by
    rintro g (rfl|rfl) (q|q|q)
    .exact ou.2.1 q
    .exact ne.2.2.2.2.1 q
    .have:(wp:Nat)=_:=zL q;omega
    .exact ou.2.2.1 q
    .exact ne.2.2.2.2.2 q
    .have:(wp:Nat)=_:=zL q;omega
   rw[<-aD]at wP;have h3:∀g,g=pb\/g=mb->¬L3.has p g:=λg l q=>(wP.o.fp g q).elim (hP g l) (λq=>by rcases l with rfl|rfl<;>omega)
   have gS:Fr (λg=>g=i4) (λg=>g=i4) wp wS:=Vs.o;have FA:Fr (L.has p) (L3.has p) w wT:=((((Va.o.over I.o (by rintro g rfl;exact .inr lo.2.2.1)).over gS (by rintro g rfl;exact .inr lo.1)).tr wP.o (by
    rintro g (q|q|q)
    .exact Va.o.fp g q
    .exact .inr (lo.2.2.2 g q)
    .have:(wp:Nat)=g:=zL q;exact .inr J))).trans (hfT.wide (λ_ q=>q.elim))
   have HI:JF (wT:Nat) p D.code.length (w5:Nat) b c pb mb (done++[qf]).length (jg (done++[qf])) L3 wT:=by
    have l5:=A4.o.lt;refine⟨hcT,A4.o.fr hfT id id,hfT.cell (wP.o.cell (gS.cell f.o.pm ne.1.symm) (hP pb (.inl rfl))) id,((f.o.mp.g.fr gS (λe=>ne.2.1 e.symm)).fr wP.o (hP mb (.inr rfl))).fr hfT id,
     ⟨λq=>by have:=HM5.o.lt q;omega,nb5,nc5,h3 pb (.inl rfl),h3 mb (.inr rfl)⟩,⟨J,J,J,J,J⟩⟩
   obtain⟨x,hx,hxt⟩:=HTG.o;have hdd:done=bs.keys.filter (· ≠ qf):=(by rw[HK1.o];exact HDN.o);have hB9:L3.B=L.B:=hB3.trans DG;have xi3:ypg (wT:Nat) p (MkS.ki n bs s) bs.keys (MkS.bO n bs s) (.func (.func 142) #[] #[(w5,0),(pb,0)]) (λL W=>JF (wT:Nat) p D.code.length (w5:Nat) b c pb mb (done++[qf]).length (jg (done++[qf])) L W):=by
    refine⟨⟨_,_,rfl,λargs w=>by first|rfl|simp[callFunc],λL s' W key a ma mn mc hm hI hle Z0 yvv=>?_⟩,λL L' W W' h hf=>h.fr hf,λL W W' F F' h hf hF=>h.al hf hF,λk x=>MkS.N7 n bs s k x⟩;obtain⟨e1,e2⟩:=zc1 bs.keys key yvv;rw[<-hdd]at e1 e2;rw[HSS.o]at hx;obtain⟨y,hy,hyt⟩:=hle _ x hx;have QM:s'.code.length<=900000:=(by unfold MkS.sz at Z0;omega);have:=zc0 s' y key a ma mn mc hm hI (HKS.o key yvv).1 hy (by rw[e1,hyt,hxt];have:=xed.o;omega) (by rw[hyt,hxt];omega) QM;rw[e1,HID.o]at this;exact this
   have xi4:=Z (C1 b0 n a 0 of cl bs p L3 (MkS.ki n bs s) (MkS.bO n bs s) _ _ wT HIH.o (by have:=HM5.o.fr hfT (λ_ q=>q.elim);rw[HSS.o]at this;exact this) (by rw[hB9];exact HE.o.fr FA HH.o.lo) HND.o HL.o HBC.o HBW.o (by rw[HM.o];exact hbn)
    (by have:=(MkS.Ny n bs s).2;have:=Fo.Xe bs;have:=HS.o;omega) xi3 HI)
   have HFA:=Z FA;clear xi3 HI FA hx hfT hcT;rw[hwT];refine xi4.o.mono ?_;rintro e w9 ⟨rfl,L4,hm9,⟨hq9,vbq⟩,hf9⟩;have HM9:=Z hm9;have HF9:=Z hf9;clear hm9 hf9 xi4;go_wp2;refine yU (v := .tuple #[]) ?_ rfl ?_
   .simp[yN,results97,go_sem]
   exact⟨rfl,L4,HM9.o,⟨by rw[hq9,TN,KO],by rw[vbq,hB9]⟩,HFA.o.trans HF9.o⟩
def VI(S:Nat->Prop)(p:Nat)(W0:z8)(L:XX)(W:z8):Prop:=∀g,S g->g<(W0:Nat)/\¬L.has p g/\W.heap[g]? = W0.heap[g]?
section
variable {S:Nat->Prop} {p:Nat} {W0 W W':z8} {L L':XX}
def VI.lt(h:VI S p W0 L W){g:Nat}(b:S g):g<(W:Nat):=by
 obtain⟨a,_,c⟩:=h g b;rw[YR a]at c;exact(yR.1 c).1
def VI.fr(h:VI S p W0 L W)(hf:Fr (L.has p) (L'.has p) W W'):VI S p W0 L' W':=λg d=>by
 obtain⟨a,b,c⟩:=h g d;have:=h.lt d;exact⟨a,λq=>(hf.fp g q).elim b J,(hf.keep g this b).trans c⟩
def VI.al(h:VI S p W0 L W)(hf:Fr F F' W W')(hF:∀g,F g->(W0:Nat)<=g):VI S p W0 L W':=λg d=>by
 obtain⟨a,b,c⟩:=h g d;exact⟨a,b,(hf.keep g (h.lt d) (λq=>by have:=hF g q;omega)).trans c⟩
def VI.cell(h:VI S p W0 L W){a:yI}(hc:W0.cell? a=some v)(b:S a.block):W.cell? a=some v:=(yD (h _ b).2.2).trans hc
def VI.xL(h:VI S p W0 L W){b:Nat}(a:jF W0 p i b c)(hb:S b)(hc:S c):jF W p i b c:=⟨h.cell a.pb hb,h.cell a.pc hc,(ym (h b hb).2.2).trans a.tb,(ym (h c hc).2.2).trans a.tc⟩
end
def fnR:zx->Option (ib Unit×List MemPlace)
 |.func (.func k) first cap=>match first.toList,cap.toList with
  |[],[.pointer (some ⟨b,0,none⟩),.pointer (some ⟨c,0,none⟩)]=>if k=99 then some (.agg [.lit (.int .i64 (b:Nat)),.lit (.int .i64 (c:Nat))],[])else none
  |_,_=>none
 |.nilFunc=>some (.agg [],[])
 |_=>none
def zc4(b c:Nat):fnR (Zl b c)=some (.agg [.lit (.int .i64 (b:Nat)),.lit (.int .i64 (c:Nat))],[]):=by simp[fnR,Zl]
def yvk{b:Nat}{ps:List MemPlace}(h:fnR v=some (.agg [.lit (.int .i64 (b:Nat)),.lit (.int .i64 (c:Nat))],ps)):v=Zl b c:=by
 unfold fnR at h;split at h
 .next k first cap =>
  split at h
  .next b' c' h1 h2 =>
   split at h
   .next hk =>
    simp at h;obtain⟨⟨h3,h4⟩,_⟩:=h;have e1:first=#[]:=xu2.1 h1;have e2:cap=#[.pointer (some ⟨b',0,none⟩),.pointer (some ⟨c',0,none⟩)]:=xu2.1 h2;subst hk e1 e2;have h5:b'=b:=by omega
    have h6:c'=c:=by omega
    rw[h5,h6]
   .cases h
  .cases h
 .simp at h
 .cases h
def X0(w:z8)(b n:Nat)(f:Wd->Option (Nat×Nat)):Prop :=
 ∃D:ib Unit,w.ownsMap prog 9 fnR b n D/\∀m:Wd,Maps.has D (.string m)=(f m).isSome/\∀x,f m=some x->D.atKey (.string m) (.agg []) = .agg [.lit (.int .i64 (x.1:Nat)),.lit (.int .i64 (x.2:Nat))]
def X0.lt{b:Nat}{f:Wd->Option (Nat×Nat)}(h:X0 w b n f):b<(w:Nat):=iL
def X0.keep{b:Nat}{f:Wd->Option (Nat×Nat)}(h:X0 w b n f)(hb:w'.heap[b]? = w.heap[b]?):X0 w' b n f:=zx3
def X0.fr{b:Nat}{f:Wd->Option (Nat×Nat)}(h:X0 w b n f)(hf:Fr F F' w w')(hb:¬F b):X0 w' b n f:=h.keep (hf.keep b h.lt hb)
def X0.made(w:z8):X0 (w.alloc (.map #[] 0)) (w:Nat) 0 (λ_=>none):=⟨.map [],Hh w _ _ _,λm=>⟨rfl,λx hx=>K3⟩⟩
def X0.look{b:Nat}{f:Wd->Option (Nat×Nat)}(h:X0 w b n f)(m:Wd)(hm:m.length<=5000000) :
  ∃v,(Jr 279 (.map (some b)) (zO m) true).run prog w = .ok (.tuple #[v,.bool (f m).isSome]) w/\∀x,f m=some x->v=Zl x.1 x.2:=by
 obtain⟨D,h1,c⟩:=h;obtain⟨v,ps,a,hv⟩:=h1.look_ok (xf underlying9) underlying279 (z := .nilFunc) K1 (zd := .agg []) (zp:=[]) rfl
  (key:=zO m) (yT (s:=⟨m.toArray⟩) underlying9 Vi)
 rw[toList_mk]at a hv;rw[(c m).1]at a;exact⟨v,a,λx hx=>yvk (ps:=ps) (by rw[hv,(c m).2 x hx])⟩
def X0.put{b:Nat}{f:Wd->Option (Nat×Nat)}(h:X0 w b n f)(m:Wd)(hm:m.length<=5000000)(x:Nat×Nat)(hn:n<=1000000000) :
  ∃w',(TJ 279 (.map (some b)) (zO m) (Zl x.1 x.2)).run prog w = .ok () w'/\X0 w' b (n+1) (λk=>if m=k then some x else f k)/\w.grownBy w' (some b):=by
 obtain⟨D,h1,h3⟩:=h;have hi:=h1.isMap;obtain⟨w',c,a,d⟩:=h1.update (xf underlying9) underlying279 dS (key:=zO m) (yT (s:=⟨m.toArray⟩) underlying9 Vi) (zc4 x.1 x.2);rw[toList_mk]at a;refine⟨w',c,⟨_,a,λk=>?_⟩,d⟩;by_cases hx:m=k
 .subst hx;simp only[↓reduceIte];exact⟨by rw[Qi hi (show kF (.string m)from trivial)];simp,λy hy=>by cases hy;rw[Uo hi (show kF (.string m)from trivial)]⟩
 .simp only[hx,↓reduceIte];have gN:(Lit.string k) ≠ .string m:=λq=>hx (by cases q;rfl)
  exact⟨zk0,λy hy=>by rw[dc gN];exact(h3 k).2 y hy⟩
def UQ(ks:List Wd)(k:Wd):Option Nat:=if k∈ks then some 1 else none
def RX(ks:List Wd)(t:Nat)(key:Wd)(s:MkS)(c:Nat):MkS:=if YF.getD c []=key\/key=qf/\YF.getD c [] ∉ ks then s.xL t c else s
structure pN(S:Nat->Prop)(p ab am hb hm tb b c idx na nh:Nat)(ks:List Wd)(fa:Wd->Option (Nat×Nat))(w:z8):Prop where
 ca:zk w ab 0 (.map (some am))
 ma:X0 w am na fa
 ch:zk w hb 0 (.map (some hm))
 mh:jG 3 w hm nh (UQ ks)
 ct:zk w tb 0 (Zl b c)
 l:jF w p idx b c
 na:qu w
 s:S ab/\S am/\S hb/\S hm/\S tb/\S b/\S c/\S 0
section
variable {S:Nat->Prop} {p ab am hb hm tb b c idx na nh:Nat} {ks:List Wd} {fa:Wd->Option (Nat×Nat)} {W0 W:z8} {L L':XX}
def pN.at(h:pN S p ab am hb hm tb b c idx na nh ks fa W0)(a:VI S p W0 L W):pN S p ab am hb hm tb b c idx na nh ks fa W:=by
 obtain⟨e,f,g,i,k,m,n,o⟩:=h.s;exact⟨a.cell h.ca e,h.ma.keep (a _ f).2.2,a.cell h.ch g,h.mh.keep (a _ i).2.2,a.cell h.ct k,a.xL h.l m n,λj d=>a.cell (h.na j d) o,h.s⟩
def pO(s:MkS)(x:uF)(key:Wd)(a:Nat)(ma:Option yI)(T mc:Nat)(C:uU p L s W)(h:pN S p ab am hb hm tb b c idx na nh ks fa W0)(O:VI S p W0 L W)(hk:key.length<=17)(hx:s.code[idx]? = some x)(hj:x.tg.length=6)(hs:s.sz<=900000)(hf:fa key=none) :
  zE prog 144 #[.agg #[zO key,a,.slice ma T mc],(ab,0),(hb,0),(tb,0)] W (Rj p L (MkS.Rf ks idx key s) W):=by
 obtain⟨A,hA⟩:=zw (W.alloc (.cells #[zO key,a,.slice ma T mc] 221));have H:Fr yH yH W A:=Iz;have z:=O.al H (λ_ q=>q.elim);have f:=h.at z;have F:=C.fr H (λ_ q=>q.elim);have V:=zZ W #[zO key,a,.slice ma T mc] 221 (0,0) 0;obtain⟨v,m,-⟩:=f.ma.look key J;rw[hf]at m;have c1:=f.ca;have n0:=f.na 0 J;have n1:=f.na 1 J;have n2:=f.na 2 J;have n3:=f.na 3 J;have n4:=f.na 4 J;have n5:=f.na 5 J;simp only[Yd,YV,FJ]at n0 n1 n2 n3 n4 n5;have P:=λ{g:Nat} (hg:L.has p g)=>C.lt hg
 obtain⟨HI,HH,U,M,N,HX⟩:=ED O h F H z hx;obtain⟨R,hR⟩:=zw (MkS.Rf ks idx key s);rw[hR];have HR:=Z (show(xH 6).foldl (RX ks idx key) s=R from hR);subst hA;clear O h C H z f F hx hR hf;go_enter func144,ntmps144;go_wp2_with fail;go_loopw [20] (λQ wr=>∃j s',Q = .int .i64 (j:Nat)/\j<=6/\s'=(xH j).foldl (RX ks idx key) s/\uU p L s' wr/\Fr (L.has p) (L.has p) W wr/\VI S p W0 L wr/\s.le s'/\s'.sz=s.sz/\zk wr (W:Nat) 0 (zO key)) (λQ _=>6 - (intOf Q).toNat)
 case atStart=>exact⟨0,s,rfl,J,rfl,U.o,M.o.wide (λ_ q=>q.elim),N.o,s.le_refl,rfl,V⟩
 case round =>
  clear V c1 m n0 n1 n2 n3 n4 n5;obtain⟨j,s',rfl,hj6,n,w,B,r,u,G,wo⟩:=hrel;have i:=HH.o.at r;have nW:¬L.has p (W:Nat):=λq=>by have:=U.o;have h2:=P q;omega
  obtain⟨y,hy,hyt⟩:=u _ _ HX.o;obtain⟨HS',HM',HF',HI',HLE,ZX⟩:=ED n w B r u G;by_cases E:j<6
  .obtain⟨t,I⟩:=zw (YF.getD j []);have hix:∀W:z8,(Y4 107 (.agg #[.string ⟨#[122,101,114,111]⟩,.string ⟨#[111,110,101]⟩,.string ⟨#[116,119,111]⟩,.string ⟨#[102,101,119]⟩,.string ⟨#[109,97,110,121]⟩,.string ⟨#[111,116,104,101,114]⟩]) (j:Int)).run prog W = .ok (zO t) W:=by
    rw[<-I];match j,E with
    | 0,_=>exactλW=>yg
    | 1,_=>exactλW=>yg
    | 2,_=>exactλW=>yg
    | 3,_=>exactλW=>yg
    | 4,_=>exactλW=>yg
    | 5,_=>exactλW=>yg
   have htl:t.length<=5:=by
    rw[<-I];match j,E with
    | 0,_=>decide
    | 1,_=>decide
    | 2,_=>decide
    | 3,_=>decide
    | 4,_=>decide
    | 5,_=>decide
   have ch:=i.ch;have ct:=i.ct;have m:=i.mh.FN Gp t J;have k:=Z (show(xH (j+1)).foldl (RX ks idx key) s=RX ks idx key s' j by rw[List.range_succ,TF,<-n];rfl);have D:=Z (show RX ks idx key s' j=if t=key\/key=qf/\t ∉ ks then s'.xL idx j else s' by unfold RX;rw[I]);have QM:s'.code.length<=900000:=(by unfold MkS.sz at G hs;omega);have HLV:=Z (JQ p L s' idx j b c y wr w i.l hy J J J);have k3:(j:Int)<6:=J;clear w B r i u n I;by_cases d:t=key\/key=qf/\t ∉ ks
   .have HG:=Z (show(xH (j+1)).foldl (RX ks idx key) s=s'.xL idx j by rw[k.o,D.o,yK d]);rcases (show t=key\/¬t=key/\key=qf/\t ∉ ks by by_cases q:t=key;exact .inl q;exact .inr ⟨q,d.resolve_left q⟩)with ha|⟨ha,hb,hc⟩
    .have kA:(t==key)=true:=(by simp[ha]);clear ha d;exact zkb
    .have kA:(t==key)=false:=(by simp[ha]);have kB:(key==[111,116,104,101,114])=true:=(by rw[hb];decide);rw[show UQ ks t=none from yv hc]at m;clear ha hb hc d;exact zkb
   .have HG:=Z (show(xH (j+1)).foldl (RX ks idx key) s=s' by rw[k.o,D.o,yv d]);have ha:¬t=key:=λq=>d (.inl q)
    have kA:(t==key)=false:=(by simp[ha]);by_cases hb:key=qf
    .have hc:t∈ks:=yy λq=>d (.inr ⟨hb,q⟩)
     have kB:(key==[111,116,104,101,114])=true:=(by rw[hb];decide);rw[show UQ ks t=some 1 from yK hc]at m;clear ha hb hc d;exact zf5
    .have kB:(key==[111,116,104,101,114])=false:=(by simpa[qf]using hb);clear ha hb d;exact zf5
  .have K:=Z (show s'=R by rw[n,show j=6 by omega];exact HR.o);have k3:¬(j:Int)<6:=(by omega);clear w B r i u n;go_wp2;refine yU (v := .tuple #[]) ?_ rfl ?_
   .simp[yN,results144,go_sem]
   rw[<-K.o];exact⟨rfl,HM'.o,HF'.o⟩
def pP(s:MkS)(x:uF)(key:Wd)(a:Nat)(ma:Option yI)(B mc:Nat)(b1 c1 n:Nat)(l:uU p L s W)(h:pN S p ab am hb hm tb b c idx na nh ks fa W0)(C:VI S p W0 L W)(I:key.length<=17)(D:jF W0 p n b1 c1)(w:S b1)(y:S c1)(hx:s.code[n]? = some x)(H:x.tg.length=1)(hs:s.sz<=900000)(hf:fa key=some (b1,c1)) :
  zE prog 144 #[.agg #[zO key,a,.slice ma B mc],(ab,0),(hb,0),(tb,0)] W (Rj p L (s.xL n 0) W):=by
 obtain⟨A,hA⟩:=zw (W.alloc (.cells #[zO key,a,.slice ma B mc] 221));have m:Fr yH yH W A:=Iz;have d:=C.al m (λ_ q=>q.elim);have f:=h.at d;have k:=l.fr m (λ_ q=>q.elim);have G:=zZ W #[zO key,a,.slice ma B mc] 221 (0,0) 0;obtain⟨v,z,hv⟩:=f.ma.look key J;obtain rfl:=hv _ hf;rw[hf]at z;have E:=f.ca;have F:s.code.length<=900000:=by unfold MkS.sz at hs;omega
 have g:=Z (JQ p L s n 0 b1 c1 x A k (d.xL D w y) hx J J J);have t:=Z m;subst hA;clear C h l m d f k hx hf hv D;go_enter func144,ntmps144;go_wp2_with fail;refine g.o.mono ?_;rintro e w3 ⟨rfl,j,i⟩;have u:=Z j;have r:=Z i;clear j i g;go_wp2;refine yU (v := .tuple #[]) ?_ rfl ?_
 .simp[yN,results144,go_sem]
 exact⟨rfl,u.o,(t.o.wide (λ_ q=>q.elim)).trans r.o⟩
end
variable{ks:List Wd}
abbrev UK:=List (Wd×Nat×Nat×Nat)
def UK.fn(al:UK)(k:Wd):Option (Nat×Nat):=(al.lookup k).map (·.2)
def UK.ix(al:UK):List (Wd×Nat):=al.map λe=>(e.1,e.2.1)
def II:∀(al:UK) (k:Wd),al.ix.lookup k=(al.lookup k).map (·.1)
 |[],_=>rfl
 |(k1,i,a)::al,k=>by
  have:=II al k;simp only[UK.ix,vV,Qn]at this|-;split<;>simp_all
def C3:∀(al:UK) (k:Wd) (x:Nat×Nat×Nat),al.lookup k=some x->(k,x)∈al
 |[],_,_,h=>xp
 |(k1,y)::al,k,x,h=>by
  simp only[Qn]at h;split at h
  .next hk=>cases h;rw[eq_of_beq hk];exact qO
  .exact uj _ (C3 al k x h)
def RV(al:UK)(m k:Wd)(x:Nat×Nat×Nat)(h:∀e∈al,e.1≠m):(al++[(m,x)]).lookup k=if m=k then some x else al.lookup k:=by
 induction al with
 |nil =>
  simp only[xV,Qn,List.lookup_nil];by_cases b:m=k
  .simp[b]
  .rw[yv b,show(k==m)=false by simpa using λe=>b e.symm]
 |cons a al c =>
  obtain⟨k1,y⟩:=a;have h1:k1≠m:=h (k1,y) qO;have c:=c (λe he=>h e (uj _ he));simp only[xd,Qn];by_cases b:k=k1
  .subst b;rw[yv (λe=>h1 e.symm)];simp
  .rw[show(k==k1)=false by simpa using b];exact c
def aE{k:Wd}:(λx=>if k=x then some 1 else UQ ks x)=UQ (ks++[k]):=by
 funext x;unfold UQ;by_cases hx:k=x
 .simp[hx]
 .have:¬x=k:=λe=>hx e.symm
  simp[hx,this]
structure Xl(N p ab am hb hm:Nat)(pre:List Wd)(al:UK)(s:MkS)(L:XX)(w:z8):Prop where
 ca:zk w ab 0 (.map (some am))
 ma:X0 w am al.length al.fn
 ch:zk w hb 0 (.map (some hm))
 mh:jG 3 w hm pre.length (UQ pre)
 lo:N<=ab/\N<=am/\N<=hb/\N<=hm
 out:¬L.has p ab/\¬L.has p am/\¬L.has p hb/\¬L.has p hm
 ne:ab≠am/\ab≠hm/\am≠hb/\am≠hm/\hb≠hm
 lp:∀e∈al,jF w p e.2.1 e.2.2.1 e.2.2.2/\¬L.has p e.2.2.1/\¬L.has p e.2.2.2/\∃y,s.code[e.2.1]? = some y/\y.tg.length=1
 ks:∀e∈al,e.1∈pre
section
variable {N p ab am hb hm:Nat} {pre:List Wd} {al:UK} {s s':MkS} {L L':XX} {w w':z8}
def Xl.lt(h:Xl N p ab am hb hm pre al s L w):ab<(w:Nat)/\am<(w:Nat)/\hb<(w:Nat)/\hm<(w:Nat):=⟨X w _ h.ca,h.ma.lt,X w _ h.ch,h.mh.lt⟩
def Xl.fr(h:Xl N p ab am hb hm pre al s L w)(hf:Fr (L.has p) (L'.has p) w w')(hs:s.le s'):Xl N p ab am hb hm pre al s' L' w':=by
 obtain⟨f,i,j,k⟩:=h.out;obtain⟨n,o,r,t⟩:=h.lt;have no:∀g,¬L.has p g->g<(w:Nat)->¬L'.has p g:=λg a b q=>(hf.fp g q).elim a J
 refine⟨hf.cell h.ca f,h.ma.fr hf i,hf.cell h.ch j,h.mh.fr hf k,h.lo,⟨no _ f n,no _ i o,no _ j r,no _ k t⟩,h.ne,λe he=>?_,h.ks⟩;obtain⟨a,b,c,y,d,l⟩:=h.lp e he;obtain⟨u,d2,m⟩:=hs _ y d;exact⟨a.fr hf b c,no _ b a.lt.1,no _ c a.lt.2,u,d2,m.trans l⟩
def Xl.al'(h:Xl N p ab am hb hm pre al s L w)(hf:Fr F F' w w')(hF:∀g,F g->(w:Nat)<=g):Xl N p ab am hb hm pre al s L w':=by
 obtain⟨f,i,j,k⟩:=h.lt;have nf:∀g,g<(w:Nat)->¬F g:=λg a q=>by have:=hF g q;omega
 refine⟨hf.cell h.ca (nf _ f),h.ma.fr hf (nf _ i),hf.cell h.ch (nf _ j),h.mh.fr hf (nf _ k),h.lo,h.out,h.ne,λe he=>?_,h.ks⟩;obtain⟨a,b,c,d⟩:=h.lp e he;exact⟨a.fr hf (nf _ a.lt.1) (nf _ a.lt.2),b,c,d⟩
def Xl.uD(h:Xl N p ab am hb hm pre al s L w)(f:w.grownBy w' (some m))(hm:gz w m=none):∀e∈al,jF w' p e.2.1 e.2.2.1 e.2.2.2/\¬L.has p e.2.2.1/\¬L.has p e.2.2.2/\∃y,s.code[e.2.1]? = some y/\y.tg.length=1:=λe he=>by
 obtain⟨a,b,c,d⟩:=h.lp e he;have hf:Fr (λk=>k=m) (λk=>k=m) w w':=⟨f.os,f.tape,f.output,f.size,λk g hn=>f.block k g (λe=>hn (zL e)),λ_ q => .inl q⟩;exact⟨a.fr hf (λe=>by have:=a.tb;rw[e,hm]at this;cases this) (λe=>by have:=a.tc;rw[e,hm]at this;cases this),b,c,d⟩
def zc5{w:z8}{b:Nat}{f:Wd->Option (Nat×Nat)}(h:X0 w b n f):gz w b=none:=by
 obtain⟨D,⟨es,a,c,_⟩,_⟩:=h;simp[gz,c]
def Xl.key{k:Wd}(h:Xl N p ab am hb hm pre al s L w)(b:jG 3 w' hm (pre.length+1) (λx=>if k=x then some 1 else UQ pre x))(a:w.grownBy w' (some hm)):Xl N p ab am hb hm (pre++[k]) al s L w':=by
 have hf:Fr (λk=>k=hm) (λk=>k=hm) w w':=⟨a.os,a.tape,a.output,a.size,λk c hn=>a.block k c (λe=>hn (zL e)),λ_ q => .inl q⟩;obtain⟨n1,n2,n3,n4,d⟩:=h.ne;rw[aE]at b;exact⟨hf.cell h.ca n2,h.ma.fr hf n4,hf.cell h.ch d,by simpa using b,h.lo,h.out,h.ne,h.uD a (Xc h.mh),λe he=>yex _ (h.ks e he)⟩
def Xl.ask{k:Wd}{b:Nat}{y:uF}(h:Xl N p ab am hb hm pre al s L w)(g:k∈pre)(hn:∀e∈al,e.1≠k)(f:X0 w' am (al.length+1) (λx=>if k=x then some (b,c)else al.fn x))(d:w.grownBy w' (some am))
  (j:jF w p i b c) (m:¬L.has p b) (n:¬L.has p c) (hy:s.code[i]? = some y) (h1:y.tg.length=1):Xl N p ab am hb hm pre (al++[(k,i,b,c)]) s L w':=by
 have hf:Fr (λk=>k=am) (λk=>k=am) w w':=⟨d.os,d.tape,d.output,d.size,λk g hn=>d.block k g (λe=>hn (zL e)),λ_ q => .inl q⟩;obtain⟨n1,n2,n3,n4,o⟩:=h.ne;have a:=zc5 h.ma;have l:(λx=>if k=x then some (b,c)else al.fn x)=UK.fn (al++[(k,i,b,c)]):=by
  funext x;unfold UK.fn;rw[RV al k x _ hn];split<;>rfl
 rw[l]at f;refine⟨hf.cell h.ca n1,by simpa using f,hf.cell h.ch n3.symm,h.mh.fr hf (λe=>n4 e.symm),h.lo,h.out,h.ne,λe he=>?_,λe he=>?_⟩
 .rcases zS.1 he with he|he
  .exact h.uD d a e he
  .simp at he;subst he;exact⟨j.fr hf (λe=>by have:=j.tb;rw[e,a]at this;cases this) (λe=>by have:=j.tc;rw[e,a]at this;cases this),m,n,y,hy,h1⟩
 .rcases zS.1 he with he|he
  .exact h.ks e he
  .simp at he;subst he;exact g
end
def plG(ks:List Wd)(ix:List (Wd×Nat))(t:Nat)(k:Wd)(x:MkS):MkS :=
 match ix.lookup k with
 |some i=>x.xL i 0
 |none=>MkS.Rf ks t k x
def aH(ab am hb hm tb b c:Nat)(al:UK)(g:Nat):Prop:=g=ab\/g=am\/g=hb\/g=hm\/g=tb\/g=b\/g=c\/g=0\/∃e∈al,g=e.2.2.1\/g=e.2.2.2
def yvj{N p ab am hb hm idx b:Nat}{pre:List Wd}{al:UK}{s:MkS}{L:XX}{w i:z8}{x:uF}(h:Xl N p ab am hb hm pre al s L w)(K:jF w p idx b c)(ob:¬L.has p b)(oc:¬L.has p c)(D:qu w)(hB:0<L.B)(n:uU p L s w)
  (hx:s.code[idx]? = some x) (E:x.tg.length=6) (R:∀k∈pre,k.length<=17) (A:w.alloc (.cells #[Zl b c] 143)=i) :
  ypg (i:Nat) p s pre (plG pre al.ix idx) (.func (.func 144) #[] #[(ab,0),(hb,0),(w,0)]) (λL W=>VI (aH ab am hb hm (w:Nat) b c al) p i L W)/\VI (aH ab am hb hm (w:Nat) b c al) p i L i:=by
 have m:Fr yH yH w i:=by rw[<-A];exact(Fr.refl _ _).alloc _
 have r:=zZ w #[Zl b c] 143 (0,0) 0;rw[A]at r;have S:(i:Nat)=(w:Nat)+1:=by rw[<-A];simp
 have hp:=h.al' m (λ_ q=>q.elim);obtain⟨l1,l2,l3,l4⟩:=h.lt;obtain⟨U,V,o3,o4⟩:=h.out;have ll:=K.lt;have O:=n.base;refine⟨⟨⟨_,_,rfl,λargs w=>by first|rfl|simp[callFunc],λL' s' W key a ma M mc v H u z t=>?_⟩,λL L' W W' h hf=>h.fr hf,λL W W' F F' h hf hF=>h.al hf hF,λk x=>?_⟩,λg P=>?_⟩
 .have I:pN (aH ab am hb hm (w:Nat) b c al) p ab am hb hm (w:Nat) b c idx al.length pre.length pre al.fn i :=
   ⟨hp.ca,hp.ma,hp.ch,hp.mh,r,K.fr m id id,λj Q=>m.cell (D j Q) id,.inl rfl,.inr (.inl rfl),.inr (.inr (.inl rfl)),.inr (.inr (.inr (.inl rfl))),.inr (.inr (.inr (.inr (.inl rfl)))),.inr (.inr (.inr (.inr (.inr (.inl rfl))))),.inr (.inr (.inr (.inr (.inr (.inr (.inl rfl)))))),.inr (.inr (.inr (.inr (.inr (.inr (.inr (.inl rfl))))))) ⟩
  have f:=R key t;unfold plG;rw[II];cases l:al.lookup key with
  |none =>
   obtain⟨y,hy,o⟩:=u _ x hx;exact pO s' y key a ma M mc v I H f hy (o.trans E) z (by unfold UK.fn;rw[l];rfl)
  |some e =>
   obtain⟨T,b1,c1⟩:=e;have d:=C3 al key _ l;obtain⟨q1,q2,G,y0,q4,q5⟩:=hp.lp _ d;obtain⟨y,hy,o⟩:=u _ y0 q4;exact pP s' y key a ma M mc b1 c1 T v I H f q1 (.inr (.inr (.inr (.inr (.inr (.inr (.inr (.inr ⟨_,d,.inl rfl⟩)))))))) (.inr (.inr (.inr (.inr (.inr (.inr (.inr (.inr ⟨_,d,.inr rfl⟩)))))))) hy (o.trans q5) z (by unfold UK.fn;rw[l];rfl)
 .unfold plG;exact zuq
 .have C:∀k,L.has p k->L.B<=k:=n.lo;rcases P with rfl|rfl|rfl|rfl|rfl|rfl|rfl|rfl|⟨e,he,rfl|rfl⟩
  .exact⟨J,U,rfl⟩
  .exact⟨J,V,rfl⟩
  .exact⟨J,o3,rfl⟩
  .exact⟨J,o4,rfl⟩
  .exact⟨J,λq=>by have:=n.lt q;omega,rfl⟩
  .exact⟨J,ob,rfl⟩
  .exact⟨J,oc,rfl⟩
  .exact⟨J,λq=>by have:=C _ q;omega,rfl⟩
  .obtain⟨q1,q2,G,-⟩:=h.lp e he;exact⟨by have:=q1.lt;omega,q2,rfl⟩
  .obtain⟨q1,q2,G,-⟩:=h.lp e he;exact⟨by have:=q1.lt;omega,G,rfl⟩
end Go.Proofs.YtpggmjffejgakaaGreatDoor
