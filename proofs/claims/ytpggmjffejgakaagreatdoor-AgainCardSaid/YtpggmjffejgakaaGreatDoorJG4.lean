import Derived.Test.YtpggmjffejgakaaGreatDoorJG3
import Derived.Maps.RangeWalk
import Derived.Laws.RangeAny
import Derived.Laws.BitsAll
import Derived.Laws.IdiomStrings
import Derived.Recover
import Derived.WalkSmall
set_option linter.defProp false
set_option maxHeartbeats 64000000
open Go renaming Addr->yI,Calls->zE,DataW->ib,Ending->xX,Oper->je,Program->Gz,TypeId->xM,Value->zx,World->z8,bodyPost_ret->yU,bytes->Z4,grownCap->wV,heap_alloc_new->ur,maxLen->vp,results->yN,run_underlying->kJ,seen->xC
open Go.Addr.mk renaming injEq->YS
open Go.AllReadyH renaming cons->ub,nil->XV
open And renaming intro->zf
open Array renaming getElem?_eq_some_iff->yR,replicate->vQ,toList_append->zzd,toList_inj->xu2
open Go.RowKit renaming Below->yE
open Go.RowKit.Below renaming heap_alloc->xQ,heap_setCell->yX,refl->zu,setCell->ZE
open BitVec renaming ofInt->yeg
open Bool renaming and_eq_false_iff->iV,and_eq_true->zv,and_true->zzj,eq_iff_iff->xA,false_and->oK,false_eq_true->OG,or_eq_false_iff->zr5,or_eq_true->vW,true_and->jd
open Go.Builtin renaming len_->yfv
open ByteArray renaming mk->vD
open Classical renaming byContradiction->yy
open Go.Conv renaming runesFrom->Vf
open Go.DataW.lit renaming injEq->EW
open Go.WideElems renaming rd_key->vq7,rg_of->vq8
open Go.Instr renaming field->vq6,index->Y4,lookup->Jr,makeFunc->qA,mapUpdate->TJ,next->I0,slice->VX,sliceBound->yfx,sliceBounds->yzk
open Go.IntKind renaming i64->vG
open Go.Lib renaming Utf8Tabs->Yv,decodeN->kE,hid->Z,strCells->xu7
open List renaming all_append->uJ,all_cons->u7,all_eq_true->zm,append_assoc->yk,append_eq_nil_iff->xvj,append_nil->qt,cons_append->xd,drop_eq_getElem_cons->yd,drop_eq_nil_of_le->bp,drop_left->Jw,drop_left'->yfd,drop_of_length_le->yL,drop_zero->qW,eq_nil_of_length_eq_zero->zN,flatMap_append->yh,flatMap_cons->zh,foldl_append->TF,foldl_cons->vP,foldl_map->yek,foldl_nil->dm,getElem?_append_left->zi,getElem?_append_right->yp,getElem?_cons_succ->qe,getElem?_cons_zero->qc,getElem?_eq_getElem->zj,getElem?_eq_some_iff->zD,getElem?_map->Ql,getElem?_modify->yez,getElem?_toArray->gQ,getElem_idxOf->Gy,getElem_mem->yf,idxOf_append->VV,idxOf_eq_length->zr3,idxOf_le_length->Ft,idxOf_lt_length_of_mem->qP,isPrefixOf_iff_prefix->gM,length->xJ,length_append->zy,length_cons->zY,length_drop->yr,length_map->vU,length_nil->yG,length_pos_iff->zt,length_replicate->fL,length_singleton->kX,length_tail->Us,length_take->u4,lookup_cons->Qn,map_cons->vV,map_nil->De,map_toArray->Jp,mem_append->zS,mem_append_left->yex,mem_append_right->zy0,mem_cons->yV,mem_cons_of_mem->uj,mem_cons_self->qO,mem_filter->uv,mem_iff_getElem->ja,mem_map->uy,mem_of_getElem?->ze,mem_of_mem_drop->jz,mem_of_mem_tail->xh,mem_replicate->zzb,mem_singleton->zG,nil_append->xV,nodup_cons->Yu,nodup_nil->bo,prefix_append->DU,prefix_refl->xZ,range->xH,replicate->zX,setIfInBounds_toArray->Qm,tail_cons->TU,take_append_drop->fY,take_left->Jo,take_left'->yff,take_length->YP,take_of_length_le->ye,take_succ_eq_append_getElem->yj,take_zero->yej
open List.cons renaming inj->ZZ
open Go.Lit.string renaming injEq->vz7
open Go.Maps renaming atKey_put_other->dc,atKey_put_same->Uo,has_put_other->OU,has_put_same->Qi,string_keyed->xf
open Nat renaming add_assoc->uR,add_mul->kh,add_sub_cancel->Z3,add_zero->EK,le_add_right->kY,le_of_lt->vZ,le_refl->Y,le_succ->dJ,le_trans->zg,lt_irrefl->qV,lt_of_lt_of_le->zC,lt_succ_self->dK,mod_lt->xu3,mul_assoc->Up,mul_comm->dU,mul_le_mul->Ut,mul_le_mul_right->uM,pow_succ->fC,zero_add->uE,zero_le->zJ
open Go.Oper renaming wp->j6
open Option renaming bind_some->yzj,map_some->Y8
open Option.some renaming inj->zL,injEq->vr
open Go.Result renaming andThen->yt,andThen_ok->XU
open Go.Sem renaming run_bind->kp,run_pure->wQ
open UInt8 renaming ofNat->uZ,toNat_inj->Xf,toNat_ofNat'->Xg
open Go.Utf8 renaming decode->jl
open Go.Value renaming bool->gL,int->yZ,ownBlock->yA,slice->ux
open Go.Value.slice renaming injEq->gX
open Go.WideAt renaming IsKeyLit->kF
open Go.WideMaps renaming keyOf_string_mk->yT
open Go.World renaming block_lt_of_cell?->X,cell?_alloc_lt->zc,cell?_alloc_some->bJ,cell?_of_block->yD,cell?_setCell_other->yO,cell?_setCell_same->qY,frozen?_of_block->zU,frozen?_setCell->zP,iterPos_iter->wG,ownsMap_made->Hh,ownsRow_nil->xz,setCell->xu
open Go.World.ownsRow renaming drew->FG
open Go.Proofs.Tryz
namespace Go.Proofs.YtpggmjffejgakaaGreatDoor
open Go Go.RowKit
set_option maxRecDepth 10000
def Cd(c o:zx)(ra rb:Bool)(mi po gr:Int)(fi ne:Nat)(dg:ByteArray)(Qc Qo:z8->zx->Prop)(w:z8)(hd:dg.size<=1000000)(hfi:fi<=255)(gN:ne<=255)
  (hc:ql w c ra Qc) (ho:ql w o rb Qo) (R:(∃a n k,c = .slice a n k)/\∃a n k,o = .slice a n k) (hT:Yv 3 4 w) :
  zE Tryz.prog 26 #[Hb c o mi po gr fi ne dg] w (Rl ra rb mi po gr fi ne dg.data.toList Qc Qo w):=by
 obtain⟨⟨ca,cn,s,rfl⟩,y,on,ok,rfl⟩:=R;have xly:∀W:z8,(Y4 133 (.agg #[.int .i32 mi,.int .i32 po,.int .i32 gr]) (.int .i64 0)).run Tryz.prog W = .ok (.int .i32 mi) W:=λW=>yg
 have xlx:∀W:z8,(Y4 133 (.agg #[.int .i32 mi,.int .i32 po,.int .i32 gr]) (.int .i64 1)).run Tryz.prog W = .ok (.int .i32 po) W:=λW=>yg
 have xlv:∀W:z8,(Y4 133 (.agg #[.int .i32 mi,.int .i32 po,.int .i32 gr]) (.int .i64 2)).run Tryz.prog W = .ok (.int .i32 gr) W:=λW=>yg
 obtain⟨L,O⟩:=zw dg.data.toList;rw[O];have HL:=Z O;clear O;have HC:=Z hc;have HO:=Z ho;clear hc ho;go_enter func26,ntmps26;go_wp2_with fail;refine yw ?_;intro W hW;have hR:RW (w:Nat) (.slice ca cn s) (.slice y on ok) (.slice none 0 0) (.slice none 0 0) mi po gr fi ne ne dg W:=by
  rw[hW];refine⟨?_,?_⟩
  .rw[xQ _ _ _ zV];show(w.heap.push _)[(w:Nat)]? = _;simp
  .show((w.heap.push _).push _)[(w:Nat)+1]? = _;exact re _ _ _
 have x:zR w W:=MY;have H:(w:Nat)+2<=(W:Nat):=by rw[hW];simp
 clear hW;have HZW:=Z H;refine(HC.o W x).mono ?_;rintro e N ⟨⟨a1,n1,k1,rfl,E⟩,l⟩;have t:=hR.below l J;have G:zR w N:=x.trans (l.mono J);have hz1:(w:Nat)+2<=(N:Nat):=by have:=l.size;omega
 clear hR x H l;obtain⟨g0,g1,g2,g3,g4,g5,g6⟩:=t.b;obtain⟨a0,a1',a2,a3,a4,a5,a6,a7,a8⟩:=t.a;have HQ1:=Z E;clear E;go_wp2_with fail;refine yw ?_;intro z j;have Q:RW (w:Nat) (.slice ca cn s) (.slice y on ok) (.slice a1 n1 k1) (.slice none 0 0) mi po gr fi ne ne dg z:=by rw[j];exact t.VE _
 have m:zR w z:=by rw[j];exact G.setCell (p:=(zQ ((w:Nat)+1) 0)) zV _
 have Wh:yE w N z:=by rw[j];exact(zu _ _).setCell (p:=(zQ ((w:Nat)+1) 0)) zV _
 have EE:(w:Nat)+2<=(z:Nat):=by rw[j];simpa using hz1
 have s12:Vx (w:Nat) N z:=by rw[j];exact(Vx.refl _ _).set _ _ (.inr rfl)
 clear j;refine(HO.o z m).mono ?_;rintro e W3 ⟨⟨C,M,I,rfl,F⟩,dE⟩;have u:=Q.below dE J;have q:zR w W3:=m.trans (dE.mono J);have Th:(w:Nat)+2<=(W3:Nat):=by have:=dE.size;omega
 have s13:=s12.trans (Vx.below (b:=(w:Nat)) dE);clear a0 a1' a2 a3 a4 a5 a6 a7 a8 g0 g1 g2 g3 g4 g5 g6;obtain⟨g0,g1,g2,g3,g4,g5,g6⟩:=u.b;obtain⟨a0,a1',a2,a3,a4,a5,a6,a7,a8⟩:=u.a;have HQ3:=Z F;clear F;by_cases g:ra=true/\rb=true/\max (fi:Int) (ne:Int)<=9/\¬mi=0/\¬po=0
 .obtain⟨r1,r2,r3,r4,r5⟩:=g;have hmi:(mi==0)=false:=by simpa using r4
  have hpo:(po==0)=false:=by simpa using r5
  go_wp2_with fail;refine Gu ?_;intro A f;have d:RW (w:Nat) (.slice ca cn s) (.slice y on ok) (.slice a1 n1 k1) (.slice C M I) mi po gr fi ne ne dg A:=by rw[f];exact u.Mw _
  have Ea:zR w A:=by rw[f];exact q.setCell (p:=(zQ ((w:Nat)+1) 1)) zV _
  have uex:yE ((w:Nat)+1) W3 A:=by rw[f];exact(zu _ _).setCell (p:=(zQ ((w:Nat)+1) 1)) zV _
  have hz4:(w:Nat)+2<=(A:Nat):=by rw[f];simpa using Th
  have s34:Vx (w:Nat) W3 A:=by rw[f];exact(Vx.refl _ _).set _ _ (.inr rfl)
  have HW4:=Z f;clear f;clear a0 a1' a2 a3 a4 a5 a6 a7 a8 g0 g1 g2 g3 g4 g5 g6;go_loopw [71] (λi wr=>∃k:Nat,k<=3/\i = .int .i64 k/\wr=A/\(0<k->dM mi=true)/\(1<k->dM po=true)/\(2<k->dM gr=true)) (λi _=>3 - (intOf i).toNat)
  case atStart=>exact⟨0,J,rfl,rfl,λh=>J,λh=>J,λh=>J⟩
  case round =>
   obtain⟨k,hk,rfl,EP,p1,p2,p3⟩:=hrel;subst EP;have KL:k=0\/k=1\/k=2\/k=3:=J;rcases KL with S|T|U|V
   .subst S;go_wp2_with fail;refine(Tryz.utf8_ValidRune mi _).mono ?_;rintro e w' ⟨rfl,rfl⟩;rw[Kd];cases hp:dM mi
    .have HF:=Z (F7 (ra:=ra) (rb:=rb) (fi:=fi) (ne:=ne) (dg:=L) (mi:=mi) (po:=po) (gr:=gr) (.inl hp));exact WG
    .have B:=Z hp;clear hp;go_wp2;go_roundw
     case rel=>exact⟨1,J,uN,by first|rfl|trivial,λ_=>B.o,λh=>J,λh=>J⟩
     case measure=>simp[intOf]
   .subst T;go_wp2_with fail;refine(Tryz.utf8_ValidRune po _).mono ?_;rintro e w' ⟨rfl,rfl⟩;rw[Kd];cases hp:dM po
    .have HF:=Z (F7 (ra:=ra) (rb:=rb) (fi:=fi) (ne:=ne) (dg:=L) (mi:=mi) (po:=po) (gr:=gr) (.inr (.inl hp)));exact WG
    .have B:=Z hp;clear hp;go_wp2;go_roundw
     case rel=>exact⟨2,J,uN,by first|rfl|trivial,λ_=>p1 J,λ_=>B.o,λh=>J⟩
     case measure=>simp[intOf]
   .subst U;go_wp2_with fail;refine(Tryz.utf8_ValidRune gr _).mono ?_;rintro e w' ⟨rfl,rfl⟩;rw[Kd];cases hp:dM gr
    .have HF:=Z (F7 (ra:=ra) (rb:=rb) (fi:=fi) (ne:=ne) (dg:=L) (mi:=mi) (po:=po) (gr:=gr) (.inr (.inr hp)));exact WG
    .have B:=Z hp;clear hp;go_wp2;go_roundw
     case rel=>exact⟨3,J,uN,by first|rfl|trivial,λ_=>p1 J,λ_=>p2 J,λ_=>B.o⟩
     case measure=>simp[intOf]
   .subst V;by_cases n0:ne=0
    .have n0':((ne:Int)==0)=true:=(by simp[n0]);by_cases d0:L=[]
     .have d0':dg.toList.isEmpty=true:=(by rw[toList_eq,HL.o,d0];rfl);obtain⟨g0,g1,g2,g3,g4,g5,g6⟩:=d.b;obtain⟨a0,a1',a2,a3,a4,a5,a6,a7,a8⟩:=d.a;go_wp2_with fail;refine yw ?_;intro W6 EA;obtain⟨D,hD⟩:∃D:ByteArray,D=⟨#[48,49,50,51,52,53,54,55,56,57]⟩:=⟨_,rfl⟩;obtain⟨nx,HNX,hnx⟩:∃nx:Nat,Hid (nx=if ne=0 then fi else ne)/\nx=fi:=⟨_,Z (by rw[yK n0]),rfl⟩;have hR6:RW (w:Nat) (.slice ca cn s) (.slice y on ok) (.slice a1 n1 k1) (.slice C M I) mi po gr fi ne (nx:Int) D W6:=(by rw[EA,hD,hnx];exact((d.xl9 _).xlz _));have zy6:yE w wr W6:=iD;have s46:Vx (w:Nat) wr W6:=(by rw[EA];exact(((Vx.refl _ _).set _ _ (.inr rfl)).set _ _ (.inl rfl)));exact zj0
     .have d0':dg.toList.isEmpty=false:=(by rw[toList_eq,HL.o];simpa using d0);obtain⟨g0,g1,g2,g3,g4,g5,g6⟩:=d.b;obtain⟨a0,a1',a2,a3,a4,a5,a6,a7,a8⟩:=d.a;go_wp2_with fail;refine yw ?_;intro W6 EA;obtain⟨D,hD⟩:∃D:ByteArray,D=dg:=⟨_,rfl⟩;obtain⟨nx,HNX,hnx⟩:∃nx:Nat,Hid (nx=if ne=0 then fi else ne)/\nx=fi:=⟨_,Z (by rw[yK n0]),rfl⟩;have hR6:RW (w:Nat) (.slice ca cn s) (.slice y on ok) (.slice a1 n1 k1) (.slice C M I) mi po gr fi ne (nx:Int) D W6:=(by rw[EA,hD,hnx];exact(d.xl9 _));have zy6:yE w wr W6:=iD;have s46:Vx (w:Nat) wr W6:=(by rw[EA];exact((Vx.refl _ _).set _ _ (.inr rfl)));exact zj1
    .have n0':((ne:Int)==0)=false:=(by simpa using n0);by_cases d0:L=[]
     .have d0':dg.toList.isEmpty=true:=(by rw[toList_eq,HL.o,d0];rfl);obtain⟨g0,g1,g2,g3,g4,g5,g6⟩:=d.b;obtain⟨a0,a1',a2,a3,a4,a5,a6,a7,a8⟩:=d.a;go_wp2_with fail;refine yw ?_;intro W6 EA;obtain⟨D,hD⟩:∃D:ByteArray,D=⟨#[48,49,50,51,52,53,54,55,56,57]⟩:=⟨_,rfl⟩;obtain⟨nx,HNX,hnx⟩:∃nx:Nat,Hid (nx=if ne=0 then fi else ne)/\nx=ne:=⟨_,Z (by rw[yv n0]),rfl⟩;have hR6:RW (w:Nat) (.slice ca cn s) (.slice y on ok) (.slice a1 n1 k1) (.slice C M I) mi po gr fi ne (nx:Int) D W6:=(by rw[EA,hD,hnx];exact(d.xlz _));have zy6:yE w wr W6:=iD;have s46:Vx (w:Nat) wr W6:=(by rw[EA];exact((Vx.refl _ _).set _ _ (.inl rfl)));exact zj0
     .have d0':dg.toList.isEmpty=false:=(by rw[toList_eq,HL.o];simpa using d0);obtain⟨g0,g1,g2,g3,g4,g5,g6⟩:=d.b;obtain⟨a0,a1',a2,a3,a4,a5,a6,a7,a8⟩:=d.a;go_wp2_with fail;refine yw ?_;intro W6 EA;obtain⟨D,hD⟩:∃D:ByteArray,D=dg:=⟨_,rfl⟩;obtain⟨nx,HNX,hnx⟩:∃nx:Nat,Hid (nx=if ne=0 then fi else ne)/\nx=ne:=⟨_,Z (by rw[yv n0]),rfl⟩;have hR6:RW (w:Nat) (.slice ca cn s) (.slice y on ok) (.slice a1 n1 k1) (.slice C M I) mi po gr fi ne (nx:Int) D W6:=(by rw[EA,hD,hnx];exact d);have zy6:yE w wr W6:=iD;have s46:Vx (w:Nat) wr W6:=(by rw[EA];exact(Vx.refl _ _));exact zj1
 .have HF:=Z (zix (gr:=gr) (dg:=L) g);go_wp2;all_goals first
   |(exfalso;refine g ⟨by assumption,by assumption,by assumption,by assumption,?_⟩;rename_i hh;simp_all;done)
   |(refine yU (v := .pointer none) ?_ rfl ?_
     focus(simp[yN,results26,go_sem, *])
     refine⟨q.trans ((zu _ _).setCell (p:=((w:Nat)+1,1)) zV _),?_⟩;first
      |rw[HF.o]
      |(have hf:=HF.o;rw[‹ra=true›,‹rb=true›]at hf;rw[hf])
     exact rfl)
def yq6(l:List UInt8):(bk l).1<=1114111:=by
 have hb:=(l.getD 0 0).toNat_lt;unfold bk kE;repeat' split
 all_goals (simp only[];omega)
def Kb:∀(n:Nat) (l:List UInt8),l.length<=n->∀x∈xk l,I32 x
 | 0,l,h,x,hx=>by
  have:l=[]:=zN J;subst this;rw[jO]at hx;cases hx
 |n+1,l,h,x,hx=>by
  by_cases a:l=[]\/xK l=0
  .rw[xk,dif_pos a]at hx;cases hx
  .simp only[not_or]at a;rw[jP a.1 a.2]at hx;have hp:=zt.2 a.1;rcases yV.1 hx with rfl|hx
   .have:=yq6 l;exact⟨J,J⟩
   .exact Kb n _ yF x hx
def rp(c:UInt8)(h:yC c=true):48<=c.toNat/\c.toNat<=57:=by
 have:=(vy c).1 h;omega
variable{ra rb:Bool}{gr mi po:Int}{dg l:List UInt8}{xs:List zx}{fi n size:Nat}{e:xM}{v:zx}{w w' w1:z8}
def ql.later{c:zx}{r:Bool}{Q:z8->zx->Prop}(h:ql w c r Q)(hb:zR w w1):ql w1 c r Q:=by
 intro W i;refine(h W (hb.trans (i.mono hb.size))).mono ?_;rintro e m ⟨⟨a,n,k,he,g⟩,b⟩;exact⟨⟨a,n,k,he,λf d=>g f ⟨d.1,λj l=>d.2 j (l.imp (λq=>zC q hb.size) id)⟩⟩,b⟩
def wrX(l:List UInt8)(mi po gr:Int)(fi ne:Nat)(dg:List UInt8):List UInt8:=Vm (Xo l) (xB (vE l++uX l)) (uX l).length mi po gr fi (if ne=0 then fi else ne) (xk (Jy dg))
def QT(kn:Bool)(l:List UInt8)(mi po gr:Int)(fi ne:Nat)(dg:List UInt8):List UInt8 :=
 if kn && ui l then wrX l mi po gr fi ne dg else []
def QW(kn:Bool)(l:List UInt8):Int:=if kn then if ui l then 0 else 10 else 8
def mN{base:Nat}(h:w.ownsRow base e size v n xs)(hn:0<n) :
  ∃g cap,v = .slice (some ⟨g,0,none⟩) n cap/\base<=g/\g<(w:Nat)/\n<=cap/\∀j,j<n*size->w.cell? ⟨g,j,none⟩=xs[j]? := by
 have a:=h.lt;rcases h.2 with⟨_,h0⟩|⟨g,cap,b,hv,c,f,h1,_,_,i⟩
 .omega
 .subst hv;exact⟨g,cap,rfl,c,(a g rfl).2,h1,λj d=>h.cellAt j d⟩
def ziv(l:List UInt8)(h:l.all yC=true):∀x∈xB l,0<=x/\x<=9:=by
 intro x hx;obtain⟨c,hc,rfl⟩:=uy.1 hx;have:=rp c (zm.1 h c hc);omega
def F8(h:ui l=true):(vE l).all yC=true/\(uX l).all yC=true/\0<(vE l).length/\(vE l).length+(uX l).length<=30:=zkg
def Rm{ne:Nat}(h:xl ra rb mi po gr fi ne dg=true) :
  dM mi=true/\dM po=true/\dM gr=true/\(dg=[]\/(qQ dg).1.length=10)/\fi<=9/\ne<=9:=by
 simp only[xl,zv,vW,decide_eq_true_eq]at h;refine⟨h.2.2.1,h.2.2.2.1,h.2.2.2.2.1,?_,J,J⟩;rcases h.2.2.2.2.2.2.2.2.1 with h1|h1
 .exact .inl (zN J)
 .refine .inr ?_;simp at h1;omega
def cV{r:Int}(h:dM r=true):I32 r:=by
 have h1:(0<=r/\r<=1114111)/\(r<55296\/57343<r):=by unfold dM at h;simp at h;omega
 exact⟨J,J⟩
def cK(g:Nat)(v:zx)(l:List UInt8)(mi po gr:Int)(fi ne:Nat)(dg:List UInt8)(w:z8)(B:Nat)(ra rb:Bool)
  (o:xl ra rb mi po gr fi ne dg=true) (hn:ui l=true) (k:Hd w g mi po gr fi ((if ne=0 then fi else ne:Nat):Int) (xk (Jy dg))) (m:g<(w:Nat))
  (p:w.ownsRow B 5 1 v ((vE l).length+(uX l).length) (vu (vE l++uX l))) :
  zE Tryz.prog 36 #[(g,0),.agg #[.bool (Xo l),v,((uX l).length:Int)]] w λe w' =>
   e = .returned (zO (wrX l mi po gr fi ne dg))/\zR w w':=by
 obtain⟨p1,p2,q,hd,f1,f2⟩:=Rm o;obtain⟨d1,d2,hw,i⟩:=F8 hn;obtain⟨gd,cap,rfl,_,d,b,hc⟩:=mN p J;unfold wrX;have a:(vE l++uX l).all yC=true:=by rw[uJ,d1,d2];rfl
 refine Io g gd 0 cap (uX l).length _ (Xo l) (xB (vE l++uX l)) mi po gr fi (if ne=0 then fi else ne) (xk (Jy dg)) w k m ?_ d GM J b J
  (ziv _ a) ⟨cV p1,cV p2,cV q,λx hx=>Kb _ _ (Y _) x hx⟩ J (by intro h;split<;>omega) (by split<;>omega)
 intro j f;refine⟨_,rfl,?_⟩;have c:j<(vE l++uX l).length:=by simpa[xB]using f
 rw[ve,hc j (by simp at c;omega)];have n:j<(xB (vE l++uX l)).length:=f;simp only[vu,xB,Ql,List.getElem_map];rw[zj c];rfl
def Cb(t:List UInt8)(v:zx)(w:z8)(e:xX)(w':z8):Prop:=e = .returned (.tuple #[zO t,v])/\zR w w'
structure cJ(w:z8):Prop where
 rr:Yv 3 4 w
 err:JM w
def cJ.below(h:cJ w)(hb:zR w w'):cJ w':=⟨Dr h.rr hb,h.err.below hb⟩
def Rn(s:ByteArray)(c o:zx)(ra rb:Bool)(mi po gr:Int)(fi ne:Nat)(dg:ByteArray)(K L:z8->zx->Prop)(w:z8)(hs:s.size<=1000000)(hd:dg.size<=1000000)(H:fi<=255)(I:ne<=255)
  (hc:ql w c ra K) (P:ql w o rb L) (B:(∃a n k,c = .slice a n k)/\∃a n k,o = .slice a n k) (N:cJ w) :
  zE Tryz.prog 21 #[.string s,Hb c o mi po gr fi ne dg] w
   (Cb (QT (xl ra rb mi po gr fi ne dg.data.toList) s.data.toList mi po gr fi ne dg.data.toList) (cX (QW (xl ra rb mi po gr fi ne dg.data.toList) s.data.toList)) w):=by
 obtain⟨Q,S,E,T⟩:=hdd hc P B N;clear hc P B N;go_enter func21,ntmps21;go_wp2_with fail;refine yw ?_;intro W hW;have hb:zR w W:=QB;clear hW;refine(Cd c o ra rb mi po gr fi ne dg K L W hd H I (Q.o.later hb) (S.o.later hb) E.o (T.o.below hb).rr).mono ?_;rintro e w1 ⟨q,d⟩;have m:zR w w1:=hb.trans (q.mono hb.size);cases y:xl ra rb mi po gr fi ne dg.data.toList
 .rw[y,yv zV]at d;subst d;have u:QT (xl ra rb mi po gr fi ne dg.data.toList) s.data.toList mi po gr fi ne dg.data.toList=[]:=by rw[y];rfl
  have i:QW (xl ra rb mi po gr fi ne dg.data.toList) s.data.toList=8:=by rw[y];rfl
  have l:=Z u;have j:=Z i;clear u i y hb q;go_wp2;go_ret2
  refine⟨?_,m⟩;rw[l.o,j.o];rfl
 .rw[y,yK rfl]at d;obtain⟨g,cv,ov,rfl,V,C,O,-⟩:=d;have U:=Z O;have z:=Z y;clear O y;go_wp2_with fail;refine(X3 s _ hs).mono ?_;rintro e w2 ⟨b,v,k,rfl,⟨va,vn,vk,rfl⟩,p,d⟩;have f:=m.trans (p.mono m.size);have x:=U.o.below p C;have D:g<(w2:Nat):=zC C p.size;cases hn:ui s.data.toList
  .have u:QT (xl ra rb mi po gr fi ne dg.data.toList) s.data.toList mi po gr fi ne dg.data.toList=[]:=(by unfold QT;rw[z.o,hn];rfl);have i:QW (xl ra rb mi po gr fi ne dg.data.toList) s.data.toList=10:=(by unfold QW;rw[z.o,hn];rfl);have l:=Z u;have j:=Z i;clear u i hn d p hb q x;go_wp2;go_ret2
   refine⟨?_,f.alloc (f.size) _⟩;rw[l.o,j.o];rfl
  .have u:QT (xl ra rb mi po gr fi ne dg.data.toList) s.data.toList mi po gr fi ne dg.data.toList=wrX s.data.toList mi po gr fi ne dg.data.toList:=(by unfold QT;rw[z.o,hn];rfl);have i:QW (xl ra rb mi po gr fi ne dg.data.toList) s.data.toList=0:=(by unfold QW;rw[z.o,hn];rfl);have l:=Z u;have j:=Z i;obtain⟨rfl,rfl,t⟩:=d hn;have R:=Z hn;have F:=Z t;have G:=Z x;clear u i hn d hb q x t;go_wp2_with fail;refine yw ?_;intro M Yl;have h:zR w2 M:=Dw;clear Yl;refine(cK g (.slice va vn vk) s.data.toList mi po gr fi ne dg.data.toList M _ ra rb z.o R.o (G.o.below h D) (zC D h.size) (dn F.o h)).mono ?_;rintro e w4 ⟨rfl,r⟩;have A:=(f.trans (h.mono f.size)).trans (r.mono (zg f.size h.size));clear h r f p;go_wp2;go_ret2
   refine⟨?_,A⟩;rw[l.o,j.o];rfl
def Ro(s:ByteArray)(c o:zx)(ra rb:Bool)(mi po gr:Int)(fi ne:Nat)(dg:ByteArray)(q r:z8->zx->Prop)(w:z8)(hs:s.size<=1000000)(hd:dg.size<=1000000)(l:fi<=255)(m:ne<=255)
  (hc:ql w c ra q) (u:ql w o rb r) (g:(∃a n k,c = .slice a n k)/\∃a n k,o = .slice a n k) (t:cJ w) :
  zE Tryz.prog 11 #[.string s,Hb c o mi po gr fi ne dg] w
   (Cb (QT (xl ra rb mi po gr fi ne dg.data.toList) s.data.toList mi po gr fi ne dg.data.toList) (.int .i64 (QW (xl ra rb mi po gr fi ne dg.data.toList) s.data.toList)) w):=by
 have d:=λW h1 h2 A=>Rn s c o ra rb mi po gr fi ne dg q r W hs hd l m h1 h2 g A
 generalize QT (xl ra rb mi po gr fi ne dg.data.toList) s.data.toList mi po gr fi ne dg.data.toList=B at *;generalize QW (xl ra rb mi po gr fi ne dg.data.toList) s.data.toList=z at *;have f:=Z d;clear d;obtain⟨v,y,x,p⟩:=hdd hc u g t;clear hc u g t;go_enter func11,ntmps11;go_wp2_with fail;refine yw ?_;intro W hW;have hb:zR w W:=QB;clear hW;refine(f.o W (v.o.later hb) (y.o.later hb) (p.o.below hb)).mono ?_;rintro e w1 ⟨rfl,i⟩;have b:zR w w1:=hb.trans (i.mono hb.size);clear hb i;go_wp2_with fail;refine(Cg z _ (p.o.below b).err).mono ?_;rintro e w2 ⟨rfl,j⟩;have h:=b.trans (j.mono b.size);clear j b;go_wp2;go_ret2
 exact⟨rfl,h⟩
variable{B:Nat}{gv:zx}{t:Wd}
def mO{wh fr:Wd}(b:Bool)(ho:w.ownsRow B 5 1 v (wh.length+fr.length) (vu (wh++fr)))(h1:wh.all yC=true)(h2:fr.all yC=true)(c:0<wh.length)(d:wh.length+fr.length<=30) :
  fe (λk=>k<B) w (.agg #[.bool b,v,fr.length]) (b,(wh,fr)):=by
 obtain⟨g,cap,rfl,f,-,-⟩:=xY ho J;have a:wh.length+fr.length<=cap/\cap<=vp:=zjj;exact⟨g,0,cap,rfl,a.1,a.2,J,⟨_,Xp ho (m:=0) yF zV⟩,j7 ho zV,⟨h1,h2,λe=>by have:=congrArg xJ e;simp at this;simp[this]at c,by show wh.length<=100;omega,by show fr.length<=100;omega⟩⟩
section
variable {τ:Type}
def Ir{E:jY τ}{n:Wd}{num:Bool}{s s':τ}(h:VO E n s = .ok ((t,num),s')):bZ t num=true:=by
 unfold VO at h;split at h
 .cases h
 .cases h
 .split at h
  .cases h;assumption
  .cases h
def xlu(S:τ->Nat->Prop)(w:z8)(n:uL)(s':τ)(w':z8)(e:xX):Prop:=∃v,e = .returned v/\fe (λk=>k<(w:Nat)\/S s' k) w' v n/\n.2.1.length+n.2.2.length<=30
def WdP(t:Wd)(_:τ)(_:z8)(e:xX):Prop:=t.length<=1000000/\e = .returned (zO t)
def ziu{E:jY τ}{F S:τ->Nat->Prop}{Inv:τ->z8->Prop}(h:NJ gv E F S Inv)(b q j:Nat)(n:Wd)(s:τ)(w:z8)(c2:zk w b 2 gv)(hc:Hj b q j n w)(hi:Inv s w)(hn:n.length<=5000000) :
  zE Tryz.prog 153 #[(b,0),j] w (Qs F S Inv s w WdP (TS E n s)):=by
 have d:=Z (NF h b q j n s w c2 hc hi hn);obtain⟨r,hr⟩:=zw (VO E n s);rw[hr]at d;have f:=Z hr;have HG:=Z h;clear h c2 hc hi hr;go_enter func153,ntmps153;go_wp2_with fail;refine d.o.mono ?_;intro e w1 i;cases r with
 |error l =>
  obtain⟨m,s'⟩:=l;obtain⟨⟨a,rfl,hold⟩,c⟩:=i;have HQ:=Z (show Qs F S Inv s w WdP (TS E n s) (.panicked ({ v:=kQ m,recovered:=false }::a)) w1 by
   unfold TS;rw[f.o];exact⟨⟨a,rfl,hold⟩,c⟩)
  clear hold c d;exact M4
 |ok p =>
  obtain⟨⟨t,num⟩,s'⟩:=p;obtain⟨⟨u,rfl⟩,c⟩:=i;have HI:=Z c;have k:=Z u;clear c d;cases num
  .have g:=Z (show TS E n s = .ok (t,s')by unfold TS;rw[f.o];rfl);go_wp2;go_ret;rw[g.o];exact⟨⟨k.o,rfl⟩,Qs.more HG.o HI.o ((Fr.refl yH _).alloc _) (λ_ q=>q.elim)⟩
  .have g:=Z (show TS E n s = .error (13,s')by unfold TS;rw[f.o];rfl);go_wp2;refine⟨rfl,?_⟩;rw[g.o];exact zx2
def Rp{E:jY τ}{F S:τ->Nat->Prop}{Inv:τ->z8->Prop}(hg:NJ gv E F S Inv)(b q j:Nat)(n:Wd)(s:τ)(w:z8)(c2:zk w b 2 gv)(hc:Hj b q j n w)(hi:Inv s w)(hn:n.length<=5000000) :
  zE Tryz.prog 108 #[(b,0),j] w (Qs F S Inv s w (xlu S w) (QJ E n s)):=by
 obtain⟨W,hW⟩:=zw (w.alloc (.cells #[.bool false,.slice none 0 0,.int .i64 0] 99));have i:Fr yH yH w W:=by rw[<-hW];exact(Fr.refl _ _).alloc _
 obtain⟨A,hA⟩:=zw (w:Nat);have hR:bP W A:=by rw[<-hW,<-hA];exact⟨zZ _ _ _ _ _,zZ _ _ _ _ _,zZ _ _ _ _ _,zV,zV,zV,zV⟩
 have hsW:(W:Nat)=A+1:=by rw[<-hW];simp[hA]
 have B:∀k,S s k->k<A:=λk x=>by rw[<-hA];exact hg.NG s w k hi x
 have hiW:=hg.fr hi i (λ_ q=>q.elim);have y:=Z (NF hg b q j n s W (i.cell c2 id) (hc.fr i (λ_ q=>q)) hiW hn);obtain⟨r,hr⟩:=zw (VO E n s);rw[hr]at y;obtain⟨z,HG,Vs,N,O,M⟩:=ED hr hg i B hsW hR;clear hg c2 hc hi hr i B hiW hsW hR;go_enter func108,ntmps108;go_wp2_with fail;refine y.o.mono ?_;intro e w1 hq;have conv:∀{s':τ},(Inv s' w1/\Fr (F s) (F s') W w1/\∀k,S s' k->S s k\/(W:Nat)<=k)->(Inv s' w1/\Fr (F s) (F s') w w1/\∀k,S s' k->S s k\/(w:Nat)<=k):=λh=>⟨h.1,(Vs.o.wide (G:=F s) (λ_ q=>q.elim)).trans h.2.1,λk x=>(h.2.2 k x).imp id (λq=>M9)⟩
 cases r with
 |error er =>
  obtain⟨m,s'⟩:=er;obtain⟨⟨u,rfl,hold⟩,H⟩:=hq;have HQ:=Z (show Qs F S Inv s w (xlu S w) (QJ E n s) (.panicked ({ v:=kQ m,recovered:=false }::u)) w1 by
   unfold QJ;rw[z.o];exact⟨⟨u,rfl,hold⟩,conv H⟩)
  clear hold H y conv;exact M4
 |ok p =>
  obtain⟨⟨t,num⟩,s'⟩:=p;obtain⟨⟨ht,rfl⟩,H⟩:=hq;have HI:=Z (conv H);have K:¬F s A:=λq=>by have:=N.o A (HG.o.sub _ _ q);omega
  have U:¬S s' A:=λq=>(H.2.2 A q).elim (λq=>by have:=N.o A q;omega) (λq=>by have:=O.o;omega)
  have g:=H.2.1;have lA:A<(W:Nat):=by have:=O.o;omega
  have T:bP w1 A:=⟨g.cell M.o.c0 K,g.cell M.o.c1 K,g.cell M.o.c2 K,(g.frozen (a:=(A,0)) lA K).trans M.o.z0,(g.frozen (a:=(A,1)) lA K).trans M.o.z1,(g.frozen (a:=(A,2)) lA K).trans M.o.z2,zC lA g.size⟩;have c:=Z T;have HSA:=Z U;have HT:=Z ht;clear H y conv g T U K lA;cases num
  .have HW:=Z (show QJ E n s = .error (13,s')by unfold QJ;rw[z.o];rfl);go_wp2;refine⟨rfl,?_⟩;rw[HW.o];exact zx2
  .have HW:=Z (show QJ E n s = .ok (numOf t,s')by unfold QJ;rw[z.o];rfl);have C:ui t=true:=(by have:=Ir z.o;exact this);have HN:=Z C;have Z0:(⟨t.toArray⟩:ByteArray).size=t.length:=size_mk _;have HP:=λW=>Z (X3 ⟨t.toArray⟩ W (by rw[Z0];exact ht))
   clear C;go_wp2_with fail;refine(HP _).out.mono ?_;rintro e w2 ⟨bb,v,k,rfl,⟨va,vn,vk,rfl⟩,V,D⟩;obtain⟨rfl,rfl,l⟩:=D HN.o;have d:Fr yH yH w1 w2:=((Fr.refl _ _).alloc _).trans (Fr.of V);have f:bP w2 A:=⟨d.cell c.o.c0 id,d.cell c.o.c1 id,d.cell c.o.c2 id,(d.frozen (a:=(A,0)) c.o.lt id).trans c.o.z0,(d.frozen (a:=(A,1)) c.o.lt id).trans c.o.z1,(d.frozen (a:=(A,2)) c.o.lt id).trans c.o.z2,zC c.o.lt d.size⟩;have r0:=f.c0;have r1:=f.c1;have r2:=f.c2;have y0:=f.z0;have y1:=f.z1;have y2:=f.z2;have hAw:A<(w2:Nat):=f.lt;have hw1:A<(w1:Nat):=c.o.lt;have R:(w1.alloc (.cells #[zO t,.bool true] 65)).heap.size=(w1:Nat)+1:=zV;rw[R]at l;have HO:=Z l;have HFZ:=Z d;clear l D V d f R HP;go_wp2;obtain⟨P,I⟩:=zw (((w2.setCell (zQ A 0) (.bool (Xo t))).setCell (zQ A 1) (.slice va vn vk)).setCell (zQ A 2) ((uX t).length:Nat));have x0:zk P A 0 (.bool (Xo t)):=by
    rw[<-I,zr,yv zV,zr,yv zV];exact xq r0 _
   have x1:zk P A 1 (.slice va vn vk):=by
    rw[<-I,zr,yv zV];refine xq (v := .slice none 0 0) ?_ _;rw[zr,yv zV];exact r1
   have x2:zk P A 2 ((uX t).length:Nat):=by
    rw[<-I];refine xq (v := .int .i64 0) ?_ _;rw[zr,yv zV,zr,yv zV];exact r2
   have Yx:P.ownsRow ((w1:Nat)+1) 5 1 (.slice va vn vk) ((vE t).length+(uX t).length) (vu (vE t++uX t)):=by
    rw[<-I];exact vz (vz (vz HO.o (p:=(zQ A 0)) (λe=>by have:=(HO.o.lt A e.symm).1;omega) _) (p:=(zQ A 1)) (λe=>by have:=(HO.o.lt A e.symm).1;omega) _) (p:=(zQ A 2)) (λe=>by have:=(HO.o.lt A e.symm).1;omega) _
   have hfX:Fr (λk=>k=A) (λk=>k=A) w1 P:=by
    rw[<-I];exact(((HFZ.o.wide (G:=λk=>k=A) (λ_ q=>q.elim)).set (a:=(zQ A 0)) _ (.inl rfl)).set (a:=(zQ A 1)) _ (.inl rfl)).set (a:=(zQ A 2)) _ (.inl rfl)
   rw[I];have f0:=λL=>yu x0 L
   have f1:=λL=>yu x1 L
   have f2:=λL=>yu x2 L
   clear I;refine yU (v := .agg #[.bool (Xo t),.slice va vn vk,((uX t).length:Nat)]) ?_ rfl ?_
   .simp[yN,results108,go_sem,f0,f1,f2]
   .rw[HW.o];obtain⟨d1,d2,hw,Q⟩:=F8 HN.o;have hn:=λL=>mO (Xo t) (Yx.alloc L) d1 d2 hw Q
    refine⟨⟨_,rfl,?_,Q⟩,Qs.more HG.o HI.o (hfX.alloc _) (λk x=>by subst x;exact⟨HSA.o,J⟩)⟩;refine(hn _).fr (Fr.refl yH _) (λ_ q=>q.elim) (λk x => .inl ?_);rcases x with x|x
    .show k<(w1:Nat)+1;omega
    .have:=HG.o.NG s' w1 k HI.o.1 x;show k<(w1:Nat)+1;omega
end
def CZ(o:Option Nat):Int:=match o with|some k=>((k:Nat):Int)|none=>-1
def F9(q mb n p:Nat)(f:Nat->Option Nat)(w:z8)(q2:zk w q 2 (.map (some mb)))(hm:jS w mb n f)(hp:p<=4000000000) :
  zE Tryz.prog 102 #[(q,0),p] w λe w'=>e = .returned (.int .i64 (CZ (f p)))/\w=w':=by
 have a:=hm.look p hp;obtain⟨o,b⟩:=zw (f p);rw[b]at a|-;clear b hm;cases o with
 |none =>
  go_enter func102,ntmps102;exact B0
 |some k =>
  go_enter func102,ntmps102;exact B0
section
variable {b:Nat} {x0 x2 st v:zx} {l:Wd} {w:z8}
def rh{g:Nat}{I:zx}{n:uL}(h:qG b x0 (g,0) x2 st v l w)(hn:fe (λ_=>False) w I n)(hw:∀W,zR w W->zE Tryz.prog 36 #[(g,0),I] W λe w'=>e = .returned (zO t)/\zR W w')(r:l.length+t.length<=1000000000) :
  zE Tryz.prog 107 #[(b,0),I] w λe w'=>e = .returned (.tuple #[])/\Cj b x0 (g,0) x2 st v (l++t) w w':=by
 obtain⟨gd,o,cap,rfl,-⟩:=hn;obtain⟨L,K⟩:=zw (n.2.1.length+n.2.2.length);obtain⟨k,M⟩:=zw n.2.2.length;rw[K,M]at hw|-;obtain⟨A,hA⟩:=zw (w:Nat);obtain⟨W,hW⟩:=zw (w.alloc (.cells #[.bool n.1,.slice (zQ gd o) L cap,k] 99));have hb:zR w W:=WZ;have f:Fr yH yH w W:=Fr.of hb;have hc:∀j,W.cell? ⟨A,j,none⟩=(#[gL n.1,.slice (zQ gd o) L cap,k]:Array zx)[j]? := λj=>WE
 have y:=hc 0;have F:=hc 1;have H:=hc 2;simp only[gQ,qc,qe]at y F H;have d:=h.fr f id (λ_ _ q=>q);have b1:=d.cell.2.1;have c:=Z (hw W.drew (hb.trans ⟨rfl,rfl,rfl,Y _,λ_ _=>rfl⟩));have C:=Z d;have B:=Z f;obtain⟨N,s⟩:=zw n.1;rw[s]at y hW c|-;clear h hw hb hc d f K M s;go_enter func107,ntmps107;go_wp2_with fail;try rw[hW]
 clear hW hA;refine Dp (λW':z8=>zk W' b 1 (zQ g 0)/\zk W' A 0 (.bool N)/\zk W' A 1 (.slice (zQ gd o) L cap)/\zk W' A 2 k) 9 (xH 8) 2 ⟨b1,y,F,H⟩ ?_;refine dF 8 (λE m=>?_);go_simp;refine c.o.mono ?_;rintro e w1 ⟨rfl,p⟩;have a:Fr yH yH W w1:=(Fr.of p).und;refine m.out _ _ ⟨a.cell b1 id,a.cell y id,a.cell F id,a.cell H id⟩ λ_=>?_
 clear m E;have i:=Z (F6 t (C.o.fr a id (λ_ _ q=>q)) r);have z:=Z a;clear a p c;refine D0 9 (λE m=>?_);go_simp;refine i.o.mono ?_;rintro e w2 ⟨⟨u,rfl⟩,x⟩;refine m.out _ _ ?_;clear m E;refine D1 ?_ _;have D:=Z x;clear x i;go_wp2;go_end0
 obtain⟨v',h1,h2⟩:=D.o;exact⟨rfl,v',h1,((B.o.trans z.o).wide (G:=Kj b v) (λ_ q=>q.elim)).trans h2⟩
end
variable{cs:List zx}{c k' m:Nat}{F' M:Nat->Prop}{tp:uL×uL}
def dP(M:Nat->Prop)(w:z8):List (uL×uL)->List zx->Prop
 |[],cs=>cs=[]
 |(n,z)::r,cs=>∃nb g o m c k zb g' o' m' c' k' t,cs=(QG nb g o m c k++QG zb g' o' m' c' k')++t/\fe M w (RR nb g o m c k) n/\fe M w (RR zb g' o' m' c' k') z/\dP M w r t
def dP.len:∀{r:List (uL×uL)} {cs:List zx},dP M w r cs->cs.length=r.length*6
 |[],cs,h=>by rw[show cs=[]from h];rfl
 |p::r,cs,h=>by
  obtain⟨b,g,o,m,c,k,e,g',d,m',c',k',t,rfl,_,_,a⟩:=h;have:=dP.len a;simp[QG,this];omega
def dP.fr{M' F:Nat->Prop}(hf:Fr F F' w w')(hF:∀k,F k->M k)(a:∀k,M' k->M k\/(w:Nat)<=k):∀{r:List (uL×uL)} {cs:List zx},dP M w r cs->dP M' w' r cs
 |[],cs,h=>h
 |p::r,cs,h=>by
  obtain⟨d,g,o,m,c,k,f,g',e,m',c',k',t,rfl,h1,h2,b⟩:=h;exact⟨d,g,o,m,c,k,f,g',e,m',c',k',t,rfl,h1.fr hf hF a,h2.fr hf hF a,dP.fr hf hF a b⟩
def dP.snoc{n z:uL}{a e:Bool}{g o k g' d m' c':Nat}(h1:fe M w (RR a g o m c k) n)(h2:fe M w (RR e g' d m' c' k') z):∀{r:List (uL×uL)} {cs:List zx},dP M w r cs->dP M w (r++[(n,z)]) (cs++(QG a g o m c k++QG e g' d m' c' k'))
 |[],cs,h=>by rw[show cs=[]from h];exact⟨a,g,o,m,c,k,e,g',d,m',c',k',[],zV,h1,h2,rfl⟩
 |p::r,cs,h=>by
  obtain⟨b,g1,q,j,c1,k1,f,g2,s,l,c2,k2,t,rfl,a1,a2,i⟩:=h;exact⟨b,g1,q,j,c1,k1,f,g2,s,l,c2,k2,_,by rw[yk],a1,a2,dP.snoc h1 h2 i⟩
def dP.last{n z:uL}:∀{r:List (uL×uL)} {cs:List zx},dP M w (r++[(n,z)]) cs->∃a b g o m c k e g' d m' c' k',cs=a++(QG b g o m c k++QG e g' d m' c' k')/\dP M w r a/\fe M w (RR b g o m c k) n/\fe M w (RR e g' d m' c' k') z
 |[],cs,h=>by
  obtain⟨b,g,o,m,c,k,e,g',d,m',c',k',t,rfl,h1,h2,f⟩:=h;rw[show t=[]from f];exact⟨[],b,g,o,m,c,k,e,g',d,m',c',k',zV,rfl,h1,h2⟩
 |p::r,cs,h=>by
  obtain⟨b,g,o,m,c,k,e,g',d,m',c',k',t,rfl,h1,h2,f⟩:=h;obtain⟨a,i,g1,s,l,c1,k1,j,g2,u,q,c2,k2,rfl,a0,a1,a2⟩:=dP.last f;exact⟨_,i,g1,s,l,c1,k1,j,g2,u,q,c2,k2,by simp only[yk],⟨b,g,o,m,c,k,e,g',d,m',c',k',a,rfl,h1,h2,a0⟩,a1,a2⟩
abbrev CY(b:Nat)(v st:zx)(Sx:Nat->Prop)(k:Nat):Prop:=k=b\/zM v k\/zM st k\/Sx k
section
variable {τ:Type}
def u9(b A0 q g:Nat)(gv:zx)(G:Nat->Prop)(F S:τ->Nat->Prop)(Inv:τ->z8->Prop)(r:ZJ τ)(w:z8):Prop :=
 ∃v st cs,qG b (q,0) (g,0) gv st v r.out w/\w.ownsRow 0 253 6 st r.stk.length cs/\dP (CY b v st (S r.gs)) w r.stk cs/\Inv r.gs w /\
  st.ownBlock≠some b/\(∀k,zM v k->¬zM st k)/\(∀k,S r.gs k->(k+2<b\/b<k)/\¬zM v k/\¬zM st k)/\(∀k,zM v k\/zM st k->A0<=k)/\∀k,F r.gs k->G k
structure Zu(w0:z8)(A0 b:Nat)(G:Nat->Prop)(q mb g:Nat)(s:MkS)(vC vI:zx)(rs:List (zx×zx))(gv:zx)(E:jY τ)(F S:τ->Nat->Prop)(Inv:τ->z8->Prop):Prop where
 prog:∀W,Fr G G w0 W->uf q s vC vI rs mb W
 wr:∀W nv n,Fr G G w0 W->fe (λ_=>False) W nv n->zE Tryz.prog 36 #[(g,0),nv] W λe w'=>e = .returned (zO (E.wr n))/\zR W w'
 wrl:∀n:uL,Ng n.2->(E.wr n).length<=5000
 set:∃cv ov,(∀W,Fr G G w0 W->zk W g 0 cv/\zk W g 1 ov) /\
  (∀W nv d,Fr G G w0 W->q9 W nv d->zE Tryz.prog 38 #[cv,nv] W λe w'=>e = .returned (.int .i64 (E.sort false d))/\zR W w') /\
  ∀W nv d,Fr G G w0 W->q9 W nv d->zE Tryz.prog 38 #[ov,nv] W λe w'=>e = .returned (.int .i64 (E.sort true d))/\zR W w'
 srt:∀b d,E.sort b d<6
 get:NJ gv E F S Inv
 n1:s.code.length<=1000000
 n2:s.cs.length<=1000000
 n3:∀t∈s.cs,t.length<=5000
 n4:∀x∈s.code,x.v<=1000000000/\∀y∈x.tg,y<=4000000000
 gA:∀k,A0<=k->G k
 gb:A0<=b
def VmQ(b A0 q g:Nat)(gv:zx)(G:Nat->Prop)(F S:τ->Nat->Prop)(Inv:τ->z8->Prop)(r0:ZJ τ)(_:Nat)(r:ZJ τ)(w:z8):Prop:=u9 b A0 q g gv G F S Inv r w/\r.out.length<=r0.out.length+5000/\r.stk.length<=r0.stk.length+1
def NC(Inv:τ->z8->Prop)(S:τ->Nat->Prop)(b:Nat)(r:ZJ τ)(w:z8):Prop:=Inv r.gs w/\∀k,S r.gs k->k+2<b\/b<k
section
variable {w0 W:z8} {A0 b q mb g k:Nat} {G:Nat->Prop} {s:MkS} {vC vI gv:zx} {rs:List (zx×zx)} {E:jY τ} {F S:τ->Nat->Prop} {Inv:τ->z8->Prop} {r:ZJ τ} {x:uF}
def u9.quiet(f:Zu w0 A0 b G q mb g s vC vI rs gv E F S Inv)(h:u9 b A0 q g gv G F S Inv r w)(hf:Fr yH yH w w'):u9 b A0 q g gv G F S Inv r w':=by
 obtain⟨v,st,cs,i,d,a,hi,c,e,hS,hA,hF⟩:=h;exact⟨v,st,cs,i.fr hf id (λ_ _ q=>q),hf.own d (λ_ _ q=>q),dP.fr hf (λ_ q=>q.elim) (λ_ q => .inl q) a,f.get.fr hi hf (λ_ q=>q.elim),c,e,hS,hA,hF⟩
def u9.asked(hE:Zu w0 A0 b G q mb g s vC vI rs gv E F S Inv)(h:u9 b A0 q g gv G F S Inv r w){s':τ}(i:Inv s' w'/\Fr (F r.gs) (F s') w w'/\∀k,S s' k->S r.gs k\/(w:Nat)<=k) :
  u9 b A0 q g gv G F S Inv { r with gs:=s' } w'/\Fr G G w w'/\∀k,CY b (.slice none 0 0) (.slice none 0 0) (S s') k->k=b\/S r.gs k\/(w:Nat)<=k:=by
 obtain⟨v,st,cs,hO,ZR,a,hi,c,d,hS,hA,hF⟩:=h;obtain⟨hi',hf,hs'⟩:=i;have f:=hO.lt;have j:¬F r.gs b:=λq=>by have:=(hS b (hE.get.sub _ _ q)).1;omega
 have l:∀k,zM v k->¬F r.gs k:=λk hk q=>(hS k (hE.get.sub _ _ q)).2.1 hk
 have e:∀k,zM st k->¬F r.gs k:=λk hk q=>(hS k (hE.get.sub _ _ q)).2.2 hk
 refine⟨⟨v,st,cs,hO.fr hf j l,hf.own ZR e,dP.fr hf (λk hk => .inr (.inr (.inr (hE.get.sub _ _ hk)))) (λk hk=>?_) a,hi',c,d,λk hk=>?_,hA,λk hk=>?_⟩,?_,λk hk=>?_⟩
 .exact yb8
 .exact zjx
 .exact zu2
 .exact zuy
 .rcases hk with h|h|h|h
  .exact .inl h
  .cases h
  .cases h
  .exact .inr (hs' k h)
def u9.wrote(d:Zu w0 A0 b G q mb g s vC vI rs gv E F S Inv){st:zx}(j:w.ownsRow 0 253 6 st r.stk.length cs)(m:dP (CY b v st (S r.gs)) w r.stk cs)(hi:Inv r.gs w)(i:st.ownBlock≠some b)(l:∀k,zM v k->¬zM st k)
  (hS:∀k,S r.gs k->(k+2<b\/b<k)/\¬zM v k/\¬zM st k) (hA:∀k,zM v k\/zM st k->A0<=k) (hF:∀k,F r.gs k->G k) (o:b<(w:Nat)) (p:Cj b (q,0) (g,0) gv st v (r.out++t) w w') :
  u9 b A0 q g gv G F S Inv { r with out:=r.out++t } w'/\Fr G G w w':=by
 obtain⟨v',f,hf⟩:=p;have n:∀k,zM st k->¬Kj b v k:=λk a q=>q.elim (λe=>i (by rw[<-e];exact a)) (λe=>l k e a)
 have c:∀k,zM v' k->zM v k\/(w:Nat)<=k:=λk a=>(hf.fp k (.inr a)).elim (λq=>q.elim (λe=>absurd (show v'.ownBlock=some b by rw[<-e];exact a) (by obtain⟨_,_,_,_,h,_⟩:=f;exact h)) .inl) .inr
 refine⟨⟨v',st,cs,f,hf.own j n,dP.fr hf (λk a=>a.elim .inl (λh => .inr (.inl h))) (λk a=>?_) m,d.get.fr hi hf (λk a q=>a.elim (λe=>by have:=(hS k q).1;omega) (λe=>(hS k q).2.1 e)),i,λk a=>?_,λk a=>?_,λk a=>?_,hF⟩,?_⟩
 .rcases a with h|h|h|h
  .exact .inl (.inl h)
  .exact(c k h).imp (λq => .inr (.inl q)) id
  .exact .inl (.inr (.inr (.inl h)))
  .exact .inl (.inr (.inr (.inr h)))
 .rcases c k a with h|h
  .exact l k h
  .exact λq=>by have:=ug j q;omega
 .refine⟨(hS k a).1,λq=>?_,(hS k a).2.2⟩;rcases c k q with h|h
  .exact(hS k a).2.1 h
  .have:=d.get.NG r.gs w k hi a;omega
 .rcases a with h|h
  .rcases c k h with h|h
   .exact hA k (.inl h)
   .have:=d.gb;omega
  .exact hA k (.inr h)
 .exact(hf.tg (F'':=Kj b v) (λk a => .inl a)).wide (λk a=>d.gA k (a.elim (λe=>by rw[e];exact d.gb) (λe=>hA k (.inl e))))
def u9.mP(e:Zu w0 A0 b G q mb g s vC vI rs gv E F S Inv){st:zx}{stk:List (uL×uL)}(u:w.ownsRow 0 253 6 st n cs){c:List zx}(l:dP (CY b v st (S r.gs)) w stk c)(hi:Inv r.gs w)
  (hS:∀k,S r.gs k->(k+2<b\/b<k)/\¬zM v k/\¬zM st k) (hA:∀k,zM v k\/zM st k->A0<=k) (hF:∀k,F r.gs k->G k) (p:b<(w:Nat)) (t:RS b (q,0) (g,0) gv st v r.out stk.length c w w') :
  u9 b A0 q g gv G F S Inv { r with stk:=stk } w'/\Fr G G w w':=by
 obtain⟨i,a1,a2,a3,a4,d⟩:=t;have hm:∀j,CY b v i (S r.gs) j->CY b v st (S r.gs) j\/(w:Nat)<=j:=by
  intro j a;rcases a with h|h|h|h
  .exact .inl (.inl h)
  .exact .inl (.inr (.inl h))
  .rcases d.fp j (.inr h) with(h|h)|h
   .exact .inl (.inl h)
   .exact .inl (.inr (.inr (.inl h)))
   .exact .inr h
  .exact .inl (.inr (.inr (.inr h)))
 have f:∀j,stF b st j->CY b v st (S r.gs) j:=λj a=>a.elim .inl (λh => .inr (.inr (.inl h)))
 have o:=e.get.NG r.gs w;refine⟨⟨v,i,c,a1,a2,dP.fr d f hm l,e.get.fr hi d (λj a=>?_),a3,a4,λj a=>⟨(hS j a).1,(hS j a).2.1,λh=>?_⟩,λj a=>?_,hF⟩,?_⟩
 .rcases a with rfl|h
  .exact λq=>by have:=(hS _ q).1;omega
  .exact λq=>(hS _ q).2.2 h
 .rcases d.fp j (.inr h) with(h|h)|h
  .have:=(hS j a).1;omega
  .exact(hS j a).2.2 h
  .have:=o j hi a;omega
 .rcases a with h|h
  .exact hA j (.inl h)
  .rcases d.fp j (.inr h) with(h|h)|h
   .rw[h];exact e.gb
   .exact hA j (.inr h)
   .have:=e.gb;omega
 .exact(d.tg (F'':=stF b st) (λk m => .inl m)).wide (λj a=>e.gA j (a.elim (λh=>by rw[h];exact e.gb) (λh=>hA j (.inr h))))
def cG(m:Zu w0 A0 b G q mb g s vC vI rs gv E F S Inv)(hf:Fr G G w0 W)(hR:u9 b A0 q g gv G F S Inv r W)(A:s.code[k]? = some x)(h:x.op=5){stk:List (uL×uL)}(hs:r.stk=stk++[tp])(j:r.stk.length<=1000000) :
  zE Tryz.prog 65 #[(b,0),k] W λe w'=>e = .returned ((k+1:Nat):Int)/\VmQ b A0 q g gv G F S Inv r (k+1) { r with stk:=stk } w'/\Fr G G W w':=by
 have hp:=m.prog W hf;obtain⟨I,Q,kv,tv,q1,lt,O,-⟩:=hp.ins A;rw[h]at O;obtain⟨v,st,cs,p,d,f,hi,i,l,hS,hA,hF⟩:=hR;obtain⟨tn,P⟩:=tp;rw[hs]at f d;obtain⟨K,U,g1,V,R,c1,k1,zb,g2,o2,T,c2,k2,rfl,a,-,-⟩:=f.last;have c:(stk++[(tn,P)]).length=stk.length+1:=zV;rw[c]at d;have hn:stk.length<=1000000:=by rw[hs,c]at j;omega
 have y:=Z (yug p d a.len i l hn);have b0:=p.cell.1;obtain⟨n,t⟩:=zw s.code.length;rw[t]at q1 lt;have w:=m.n1;rw[t]at w;have k3:(k:Int)<(n:Int):=J;have D:=Z (zf d (zf a (zf hi (zf hS (zf hA hF)))));have C:=Z m;have z:=Z (zf hs p.lt);clear m hf hp A h p d f hi i l hS hA hF hs c a t j;go_enter func65,ntmps65;go_wp2_with fail;refine y.o.mono ?_;rintro e w1 ⟨rfl,B⟩;have H:=Z B;clear B y;go_wp2;go_ret;obtain⟨h0,h1,h2,L,M,N⟩:=D.o;obtain⟨hr,u⟩:=u9.mP C.o h0 h1 h2 L M N z.o.2 H.o;exact⟨B6,⟨hr,kY _ _,by rw[z.o.1];simp;omega⟩,u⟩
end
end
def KZ(a0 a3:Bool)(p:yI)(n c:Nat)(k:Int)(b:yI)(a c':Nat)(k':Int)(w:z8):(vq6 253 (.agg #[.bool a0,.slice (some p) n c,k,.bool a3,.slice (some b) a c',k']) 1).run Tryz.prog w = .ok (.agg #[.bool a3,.slice (some b) a c',k']) w:=yg
def Rr(a0 a3:Bool)(p:yI)(n c:Nat)(k:Int)(b:yI)(a c':Nat)(k':Int)(w:z8):(vq6 253 (.agg #[.bool a0,.slice (some p) n c,k,.bool a3,.slice (some b) a c',k']) 0).run Tryz.prog w = .ok (.agg #[.bool a0,.slice (some p) n c,k]) w:=yg
def fe.any{n:uL}(h:fe M w v n):fe (λ_=>False) w v n:=h.fr (Fr.refl yH _) (λ_ q=>q.elim) (λ_ q=>q.elim)
def fe.ok{n:uL}(h:fe M w v n):Ng n.2:=by
 obtain⟨_,_,_,_,_,_,_,_,_,h⟩:=h;exact h
section
variable {τ:Type} {w0 W:z8} {A0 b q mb g k:Nat} {G:Nat->Prop} {s:MkS} {vC vI gv:zx} {rs:List (zx×zx)} {E:jY τ} {F S:τ->Nat->Prop} {Inv:τ->z8->Prop} {r:ZJ τ} {x:uF}
def CX(c:Zu w0 A0 b G q mb g s vC vI rs gv E F S Inv)(hf:Fr G G w0 W)(hR:u9 b A0 q g gv G F S Inv r W){j:zx}{n:uL}(hn:fe M W j n)(l:r.out.length<=900000000) :
  zE Tryz.prog 107 #[(b,0),j] W λe w'=>e = .returned (.tuple #[])/\u9 b A0 q g gv G F S Inv { r with out:=r.out++E.wr n } w'/\Fr G G W w':=by
 obtain⟨v,st,cs,k,h,d,hi,f,i,hS,hA,hF⟩:=hR;have o:=c.wrl n hn.ok;refine(rh k hn.any (λW' a=>c.wr W' j n (hf.trans ((Fr.of a).wide (F:=yH) (λ_ q=>q.elim))) (hn.any.fr (Fr.of (F:=yH) a) (λ_ q=>q.elim) (λ_ q=>q.elim))) J).mono ?_;rintro e w' ⟨he,m⟩;exact⟨he,u9.wrote c h d hi f i hS hA hF k.lt m⟩
def s6(h:Zu w0 A0 b G q mb g s vC vI rs gv E F S Inv)(hf:Fr G G w0 W)(hR:u9 b A0 q g gv G F S Inv r W)(L:s.code[k]? = some x)(u:x.op=6){stk:List (uL×uL)}(hs:r.stk=stk++[tp])(l:r.stk.length<=1000000)(f:r.out.length<=900000000) :
  zE Tryz.prog 65 #[(b,0),k] W λe w'=>e = .returned ((k+1:Nat):Int)/\VmQ b A0 q g gv G F S Inv r (k+1) { r with out:=r.out++E.wr tp.2 } w'/\Fr G G W w':=by
 obtain⟨I,ic,kv,tv,q1,lt,T,-⟩:=(h.prog W hf).ins L;rw[u]at T;have p:=hR;obtain⟨v,st,cs,y,c,j,hi,A,B,hS,hA,hF⟩:=hR;obtain⟨tn,N⟩:=tp;have a:(stk++[(tn,N)]).length=stk.length+1:=zV;rw[hs]at j c l;rw[a]at c l;obtain⟨Q,nb,g1,o1,U,c1,k1,zb,g2,o2,V,c2,k2,rfl,d,-,M⟩:=j.last;have D:=Z (DR y nb zb g1 o1 U c1 k1 g2 o2 V c2 k2 c d.len J);have b0:=y.cell.1;have z:=h.n1;obtain⟨n,K⟩:=zw s.code.length;rw[K]at q1 lt z;have k3:(k:Int)<(n:Int):=J;have R:=KZ;have w:=λ(W':z8) (hb:zR W W')=>CX h (hf.trans ((Fr.of hb).wide (F:=yH) (λ_ q=>q.elim))) (p.quiet h (Fr.of hb)) (M.any.fr (Fr.of (F:=yH) hb) (λ_ q=>q.elim) (M':=λ_=>False) (λ_ q=>q.elim)) f
 have m:=Z w;have HE:=Z h;have P:=Z (h.wrl N M.ok);clear h hf L u y c j hi A B hS hA hF hs d K p w l f a;go_enter func65,ntmps65;go_wp2_with fail;refine D.o.mono ?_;rintro e w1 ⟨rfl,i⟩;have H:=Z (m.o w1 i);have O:=Z i;clear D i m;go_wp2_with fail;refine H.o.mono ?_;rintro e w2 ⟨rfl,hr,t⟩;have C:=Z (zf hr t);clear hr t H;go_wp2;go_ret;refine⟨by first|rfl|simp,⟨C.o.1,by have:=P.o;simp;omega,zV⟩,((Fr.of O.o).wide (F:=yH) (λ_ q=>q.elim)).trans C.o.2⟩
end
section
variable {τ:Type} {w0 W:z8} {A0 b q mb g k:Nat} {G:Nat->Prop} {s:MkS} {vC vI gv:zx} {rs:List (zx×zx)} {E:jY τ} {F S:τ->Nat->Prop} {Inv:τ->z8->Prop} {r:ZJ τ} {x:uF}
def u9.err(a:Zu w0 A0 b G q mb g s vC vI rs gv E F S Inv)(h:u9 b A0 q g gv G F S Inv r w){s':τ}(e:Inv s' w'/\Fr (F r.gs) (F s') w w'/\∀k,S s' k->S r.gs k\/(w:Nat)<=k) :
  NC Inv S b { r with gs:=s' } w'/\Fr G G w w':=by
 obtain⟨h1,h2,l⟩:=u9.asked a h e;obtain⟨v,st,cs,m,i,c,hi,f,j,hS,hA,hF⟩:=h1;exact⟨⟨hi,λk d=>(hS k d).1⟩,h2⟩
def Zo{n:Wd}(h:X2 s x=some n):∃j,x.k[0]? = some j/\s.cs[j]? = some n:=by
 unfold X2 at h;cases hx:x.k[0]? with
 |none=>rw[hx]at h;cases h
 |some j=>rw[hx]at h;exact⟨j,rfl,h⟩
def ziq(a:Zu w0 A0 b G q mb g s vC vI rs gv E F S Inv)(hf:Fr G G w0 W)(hR:u9 b A0 q g gv G F S Inv r W)(u:s.code[k]? = some x)(f:x.op=1)(hc:X2 s x=some t)(n:r.out.length<=900000000) :
  zE Tryz.prog 65 #[(b,0),k] W λe w'=>e = .returned ((k+1:Nat):Int)/\VmQ b A0 q g gv G F S Inv r (k+1) { r with out:=r.out++t } w'/\Fr G G W w':=by
 obtain⟨j,p,o⟩:=Zo hc;obtain⟨v,st,cs,m,i,c,hi,h,l,hS,hA,hF⟩:=hR;have y:=a.n3 t (ze o);refine(rR m (a.prog W hf) u f p o a.n1 a.n2 J).mono ?_;rintro e w' ⟨rfl,w⟩;obtain⟨hr,d⟩:=u9.wrote a i c hi h l hS hA hF m.lt w;exact⟨rfl,⟨hr,yF,dJ _⟩,d⟩
def cD(b A0 q g:Nat)(gv:zx)(G:Nat->Prop)(F S:τ->Nat->Prop)(Inv:τ->z8->Prop)(r:ZJ τ)(k:Nat){α:Type}(fn:α->τ->ZJ τ)(res:Except (Nat×τ) (α×τ))(W:z8)(e:xX)(w':z8):Prop :=
 (match res with
  |.ok (a,s')=>e = .returned ((k+1:Nat):Int)/\VmQ b A0 q g gv G F S Inv r (k+1) (fn a s') w'
  |.error (n,s')=>yrb n e/\NC Inv S b { r with gs:=s' } w')/\Fr G G W w'
def Rs(i:Zu w0 A0 b G q mb g s vC vI rs gv E F S Inv)(hf:Fr G G w0 W)(hR:u9 b A0 q g gv G F S Inv r W)(hk:s.code[k]? = some x)(H:x.op=3)(hc:X2 s x=some t)(f:r.out.length<=900000000) :
  zE Tryz.prog 65 #[(b,0),k] W (cD b A0 q g gv G F S Inv r k (λv s'=>{ r with out:=r.out++E.wr v,gs:=s' }) (QJ E t r.gs) W):=by
 obtain⟨j,hj,ht⟩:=Zo hc;have hp:=i.prog W hf;obtain⟨I,ic,kv,tv,q1,lt,i0,-,i3,-,kr,-⟩:=hp.ins hk;obtain⟨C,cc,q0,cj,B⟩:=hp.con ht;obtain⟨K,kc,rfl,kj,Q⟩:=kr.at_ hj;have h3:=i.n3 t (ze ht);have R:=i.n1;have D:=i.n2;obtain⟨n,hN⟩:=zw s.code.length;obtain⟨m,hM⟩:=zw s.cs.length;obtain⟨z,hZ⟩:=zw x.k.length;rw[hN]at q1 lt R;rw[hM]at q0 B D;rw[hZ]at i3 Q;rw[H]at i0;have y:=hR;obtain⟨v,st,cs,O,U,P,hi,T,V,hS,hA,hF⟩:=hR;have b0:=O.cell.1;have d:Hj b q j t W:=⟨b0,C,m,cc,q0,cj,B,D⟩;have ly:=Z (Rp i.get b q j t r.gs W O.cell.2.2.1 d hi J);have k1:(k:Int)<(n:Int):=J;have k3:(0:Int)<(z:Int):=J;obtain⟨res,h⟩:=zw (QJ E t r.gs);rw[h]at ly|-;obtain⟨L,HR,HF,HL⟩:=hdd i y hf f;clear i hf hp hk H O U P hi T V hS hA hF hN hM hZ kr hj ht hc y d h f;go_enter func65,ntmps65;go_wp2_with fail;refine ly.o.mono ?_;intro e w1 hq;cases res with
 |error er =>
  obtain⟨c,s'⟩:=er;obtain⟨⟨a,rfl,hold⟩,hI⟩:=hq;obtain⟨h1,h2⟩:=u9.err L.o HR.o hI;have HQ:=Z (show cD b A0 q g gv G F S Inv r k (λv s'=>{ r with out:=r.out++E.wr v,gs:=s' }) (.error (c,s'):Except (Nat×τ) (uL×τ)) W (.panicked ({ v:=kQ c,recovered:=false }::a)) w1 from⟨⟨⟨a,rfl,hold⟩,h1⟩,h2⟩);exact Ab
 |ok p =>
  obtain⟨nn,s'⟩:=p;obtain⟨⟨nv,rfl,l,Z0⟩,hI⟩:=hq;obtain⟨h1,h2,-⟩:=u9.asked L.o HR.o hI;have w:=Z (CX L.o (HF.o.trans h2) h1 l HL.o);have M:=Z h2;have N:=Z (L.o.wrl nn l.ok);obtain⟨gd,o,cap,rfl,-⟩:=l;clear hI ly h1 h2;go_wp2_with fail;refine w.o.mono ?_;rintro e w2 ⟨rfl,hr,A⟩;have u:=Z (zf hr A);clear hr A w;go_wp2;go_ret;exact⟨⟨B6,u.o.1,by have:=N.o;simp;omega,dJ _⟩,M.o.trans u.o.2⟩
end
section
variable {τ:Type} {w0 W:z8} {A0 b q mb g k:Nat} {G:Nat->Prop} {s:MkS} {vC vI gv:zx} {rs:List (zx×zx)} {E:jY τ} {F S:τ->Nat->Prop} {Inv:τ->z8->Prop} {r:ZJ τ} {x:uF}
def zik(hE:Zu w0 A0 b G q mb g s vC vI rs gv E F S Inv)(hf:Fr G G w0 W)(hR:u9 b A0 q g gv G F S Inv r W)(hk:s.code[k]? = some x)(dL:x.op=2)(hc:X2 s x=some t)(M:r.out.length<=900000000) :
  zE Tryz.prog 65 #[(b,0),k] W (cD b A0 q g gv G F S Inv r k (λ(p:Wd×Bool) s'=>{ r with out:=r.out++zcj E p.1 p.2,gs:=s' }) (VO E t r.gs) W):=by
 obtain⟨j,hj,ht⟩:=Zo hc;have hp:=hE.prog W hf;obtain⟨I,ic,kv,tv,q1,lt,i0,-,i3,-,kr,-⟩:=hp.ins hk;obtain⟨C,cc,q0,cj,lD⟩:=hp.con ht;obtain⟨K,kc,rfl,kj,lh⟩:=kr.at_ hj;have h3:=hE.n3 t (ze ht);have DI:=hE.n1;have DD:=hE.n2;obtain⟨n,hN⟩:=zw s.code.length;obtain⟨m,hM⟩:=zw s.cs.length;obtain⟨z,hZ⟩:=zw x.k.length;rw[hN]at q1 lt DI;rw[hM]at q0 lD DD;rw[hZ]at i3 lh;rw[dL]at i0;have hR':=hR;obtain⟨v,st,cs,hO,ZR,hen,hi,hsb,rP,hS,hA,hF⟩:=hR;have b0:=hO.cell.1;have D:Hj b q j t W:=⟨b0,C,m,cc,q0,cj,lD,DD⟩;have ly:=Z (NF hE.get b q j t r.gs W hO.cell.2.2.1 D hi J);have k1:(k:Int)<(n:Int):=J;have k3:(0:Int)<(z:Int):=J;obtain⟨res,d⟩:=zw (VO E t r.gs);rw[d]at ly|-;obtain⟨HRS,T,HR,HF,HL⟩:=G0 d hE hR' hf M;clear hE hf hp hk dL hO ZR hen hi hsb rP hS hA hF hN hM hZ kr hj ht hc hR' D d M;go_enter func65,ntmps65;go_wp2_with fail;refine ly.o.mono ?_;intro e w1 hq;cases res with
 |error er =>
  obtain⟨c,s'⟩:=er;obtain⟨⟨y,rfl,hold⟩,hI⟩:=hq;obtain⟨h1,h2⟩:=u9.err T.o HR.o hI;have HQ:=Z (show cD b A0 q g gv G F S Inv r k (λ(p:Wd×Bool) s'=>{ r with out:=r.out++zcj E p.1 p.2,gs:=s' }) (.error (c,s'):Except (Nat×τ) ((Wd×Bool)×τ)) W (.panicked ({ v:=kQ c,recovered:=false }::y)) w1 from⟨⟨⟨y,rfl,hold⟩,h1⟩,h2⟩);exact Ab
 |ok p =>
  obtain⟨⟨u,num⟩,s'⟩:=p;obtain⟨⟨hu,rfl⟩,hI⟩:=hq;obtain⟨h1,h2,-⟩:=u9.asked T.o HR.o hI;have hv:=Ir HRS.o;have Z0:(⟨u.toArray⟩:ByteArray).size=u.length:=size_mk _;have HP:=λW=>Z (X3 ⟨u.toArray⟩ W (by rw[Z0];exact hu))
  have OR:=Z h1;have Ei:=Z h2;have HV:=Z hv;clear hI ly h1 h2 hv;cases num
  .go_wp2_with fail;refine(HP _).out.mono ?_;rintro e w2 ⟨bb,pv,pk,rfl,⟨va,vn,vk,rfl⟩,f,-⟩;have i:Fr yH yH w1 w2:=((Fr.refl _ _).alloc _).trans (Fr.of f);have e0:zk w2 (w1:Nat) 0 (zO u):=(f.cell zV).trans (zZ _ _ _ _ 0);have e1:zk w2 (w1:Nat) 1 (.bool false):=(f.cell zV).trans (zZ _ _ _ _ 1);obtain⟨V,hVe⟩:=zw (w1:Nat);rw[hVe]at e0 e1;obtain⟨A,a⟩:=zw (w2.alloc (.cells #[.bool bb,.slice va vn vk,pk] 99));have h:Fr yH yH w1 A:=(by rw[<-a];exact i.alloc _);have d0:zk A V 0 (zO u):=(by rw[<-a];exact yu e0 _);have d1:zk A V 1 (.bool false):=(by rw[<-a];exact yu e1 _);have h60:u.length<=60:=(by have:=HV.o;simpa[bZ]using this);have B:=OR.o.quiet T.o h;have U:=Z h;obtain⟨v',st',cs',hO',Q,H,hi',P,R,hS',hA',hF'⟩:=B;have AQ:=Z (F6 (w:=A.drew) u hO' (by have:=HL.o;simp only;omega));have VW:=Z (λw' hq=>u9.wrote (t:=u) (w':=w') T.o Q H hi' P R hS' hA' hF' hO'.lt hq);clear f i e0 e1 hO' Q H hi' P R hS' hA' hF' h HP;cases ui u;all_goals
    go_wp2_with fail;try rw[a]
    refine Dp (λW':z8=>zk W' V 0 (zO u)) 5 (xH 5) 1 d0 ?_;refine D0 5 (λJk hJ=>?_);go_simp;refine AQ.o.mono ?_;rintro e w4 ⟨⟨uu,rfl⟩,hq4⟩;refine hJ.out _ _ ?_;clear hJ Jk;refine D1 ?_ _;obtain⟨l,L⟩:=VW.o w4 (by obtain⟨v4,a1,a2⟩:=hq4;exact⟨v4,a1,a2.und⟩);have H4:=Z (zf l L);clear hq4 l L a;go_wp2;go_ret;exact⟨⟨B6,H4.o.1,by simp[zcj];omega,dJ _⟩,(Ei.o.trans (U.o.wide (λ_ q=>q.elim))).trans H4.o.2⟩
  .have N:ui u=true:=(by have:=HV.o;exact this);have HN:=Z N;clear N;go_wp2_with fail;refine(HP _).out.mono ?_;rintro e w2 ⟨bb,pv,pk,rfl,⟨va,vn,vk,rfl⟩,f,d⟩;obtain⟨rfl,rfl,O⟩:=d HN.o;obtain⟨d1',d2',hw',h30⟩:=F8 HN.o;have i:Fr yH yH w1 w2:=((Fr.refl _ _).alloc _).trans (Fr.of f);have e0:zk w2 (w1:Nat) 0 (zO u):=(f.cell zV).trans (zZ _ _ _ _ 0);have e1:zk w2 (w1:Nat) 1 (.bool true):=(f.cell zV).trans (zZ _ _ _ _ 1);obtain⟨V,hVe⟩:=zw (w1:Nat);rw[hVe]at e0 e1;obtain⟨A,a⟩:=zw (w2.alloc (.cells #[.bool (Xo u),.slice va vn vk,((uX u).length:Nat)] 99));have h:Fr yH yH w1 A:=(by rw[<-a];exact i.alloc _);have d1:zk A V 1 (.bool true):=(by rw[<-a];exact yu e1 _);have uB:=mO (Xo u) (w:=A) (by rw[<-a];exact O.alloc _) d1' d2' hw' h30;have B:=OR.o.quiet T.o h;have HTL:=Z (CX T.o ((HF.o.trans Ei.o).trans (h.wide (λ_ q=>q.elim))) B uB HL.o);have HWL:=Z (T.o.wrl _ uB.ok);have U:=Z h;have n0:∀j,A.cell? ⟨(w2:Nat),j,none⟩=(#[gL (Xo u),.slice va vn vk,((uX u).length:Nat)]:Array zx)[j]? := λj=>by rw[<-a];exact zZ _ _ _ _ _
   have m0:=n0 0;have m1:=n0 1;have m2:=n0 2;simp only[gQ,qc,qe]at m0 m1 m2;clear f i e0 e1 uB B h HP d O n0;rw[HN.o];go_wp2_with fail;refine HTL.o.mono ?_;rintro e w4 ⟨rfl,l,Gt⟩;have H4:=Z (zf l Gt);clear l Gt HTL;go_wp2;go_ret;exact⟨⟨B6,H4.o.1,by have:=HWL.o;simp[zcj,numOf];omega,dJ _⟩,(Ei.o.trans (U.o.wide (λ_ q=>q.elim))).trans H4.o.2⟩
end
section
variable {τ:Type} {w0 W:z8} {A0 b q mb g k:Nat} {G:Nat->Prop} {s:MkS} {vC vI gv:zx} {rs:List (zx×zx)} {E:jY τ} {F S:τ->Nat->Prop} {Inv:τ->z8->Prop} {r:ZJ τ} {x:uF}
structure NH(b A0 q g:Nat)(gv:zx)(G:Nat->Prop)(F S:τ->Nat->Prop)(Inv:τ->z8->Prop)(r:ZJ τ)(v st:zx)(cs:List zx)(w:z8):Prop where
 o:qG b (q,0) (g,0) gv st v r.out w
 row:w.ownsRow 0 253 6 st r.stk.length cs
 en:dP (CY b v st (S r.gs)) w r.stk cs
 inv:Inv r.gs w
 sb:st.ownBlock≠some b
 sv:∀k,zM v k->¬zM st k
 ds:∀k,S r.gs k->(k+2<b\/b<k)/\¬zM v k/\¬zM st k
 da:∀k,zM v k\/zM st k->A0<=k
 df:∀k,F r.gs k->G k
def NH.asked(hE:Zu w0 A0 b G q mb g s vC vI rs gv E F S Inv){st:zx}(h:NH b A0 q g gv G F S Inv r v st cs w){s':τ}(i:Inv s' w'/\Fr (F r.gs) (F s') w w'/\∀k,S s' k->S r.gs k\/(w:Nat)<=k) :
  NH b A0 q g gv G F S Inv { r with gs:=s' } v st cs w'/\Fr G G w w':=by
 obtain⟨hO,ZR,a,hi,c,d,hS,hA,hF⟩:=h;obtain⟨hi',hf,hs'⟩:=i;have f:=hO.lt;have j:¬F r.gs b:=λq=>by have:=(hS b (hE.get.sub _ _ q)).1;omega
 have l:∀k,zM v k->¬F r.gs k:=λk hk q=>(hS k (hE.get.sub _ _ q)).2.1 hk
 have e:∀k,zM st k->¬F r.gs k:=λk hk q=>(hS k (hE.get.sub _ _ q)).2.2 hk
 refine⟨⟨hO.fr hf j l,hf.own ZR e,dP.fr hf (λk hk => .inr (.inr (.inr (hE.get.sub _ _ hk)))) (λk hk=>?_) a,hi',c,d,λk hk=>?_,hA,λk hk=>?_⟩,?_⟩
 .exact yb8
 .exact zjx
 .exact zu2
 .exact zuy
def NH.quiet(a:Zu w0 A0 b G q mb g s vC vI rs gv E F S Inv){st:zx}(h:NH b A0 q g gv G F S Inv r v st cs w)(hf:Fr yH yH w w'):NH b A0 q g gv G F S Inv r v st cs w' :=
 ⟨h.o.fr hf id (λ_ _ q=>q),hf.own h.row (λ_ _ q=>q),dP.fr hf (λ_ q=>q.elim) (λ_ q => .inl q) h.en,a.get.fr h.inv hf (λ_ q=>q.elim),h.sb,h.sv,h.ds,h.da,h.df⟩
def cE(R:Zu w0 A0 b G q mb g s vC vI rs gv E F S Inv)(hf:Fr G G w0 W)(hR:u9 b A0 q g gv G F S Inv r W)(f:s.code[k]? = some x)(dL:x.op=4)(hc:X2 s x=some t)(Mt:r.stk.length<=900000) :
  zE Tryz.prog 65 #[(b,0),k] W (cD b A0 q g gv G F S Inv r k (λv s'=>{ r with stk:=r.stk++[(v,C8 v x.v)],gs:=s' }) (QJ E t r.gs) W):=by
 obtain⟨j,hj,ht⟩:=Zo hc;have hp:=R.prog W hf;obtain⟨I,ic,kv,tv,q1,lt,i0,i2,i3,-,kr,-⟩:=hp.ins f;obtain⟨C,cc,q0,cj,lD⟩:=hp.con ht;obtain⟨K,kc,rfl,kj,lh⟩:=kr.at_ hj;have h3:=R.n3 t (ze ht);have hv9:=(R.n4 x (ze f)).1;have DI:=R.n1;have DD:=R.n2;obtain⟨n,hN⟩:=zw s.code.length;obtain⟨m,hM⟩:=zw s.cs.length;obtain⟨z,hZ⟩:=zw x.k.length;obtain⟨xv,hXV⟩:=zw x.v;rw[hN]at q1 lt DI;rw[hM]at q0 lD DD;rw[hZ]at i3 lh;rw[hXV]at i2 hv9|-;rw[dL]at i0;obtain⟨v,st,cs,hO,ZR,A,hi,hsb,rP,hS,hA,hF⟩:=hR;have hRC:NH b A0 q g gv G F S Inv r v st cs W:=⟨hO,ZR,A,hi,hsb,rP,hS,hA,hF⟩;have b0:=hO.cell.1;have hlb:=hO.lt;have T:Hj b q j t W:=⟨b0,C,m,cc,q0,cj,lD,DD⟩;have ly:=Z (Rp R.get b q j t r.gs W hO.cell.2.2.1 T hi J);have k1:(k:Int)<(n:Int):=J;have k3:(0:Int)<(z:Int):=J;obtain⟨res,Dx⟩:=zw (QJ E t r.gs);rw[Dx]at ly|-;obtain⟨HVI,HK,HXV,l,HE,aq,HF,HSL⟩:=OH (zL (hp.q1.symm.trans (show zk W q 1 (.slice (zQ I 0) s.code.length ic)by rw[hN];exact q1))) f hXV (zf hlb (zf (λk (f:zM v k)=>ug hO.row f) (λk (f:zM st k)=>ug ZR f))) R hRC hf Mt;clear R hf hp f dL hO ZR A hi hsb rP hS hA hF hN hM hZ kr hj ht hc T Dx hlb hRC hXV Mt;go_enter func65,ntmps65;go_wp2_with fail;refine ly.o.mono ?_;intro e w1 hq;cases res with
 |error er =>
  obtain⟨c,s'⟩:=er;obtain⟨⟨D,rfl,hold⟩,hI⟩:=hq;obtain⟨h1,h2⟩:=aq.o.asked HE.o hI;have HQ:=Z (show cD b A0 q g gv G F S Inv r k (λv s'=>{ r with stk:=r.stk++[(v,C8 v xv)],gs:=s' }) (.error (c,s'):Except (Nat×τ) (uL×τ)) W (.panicked ({ v:=kQ c,recovered:=false }::D)) w1 from⟨⟨⟨D,rfl,hold⟩,h1.inv,λk f=>(h1.ds k f).1⟩,h2⟩);exact Ab
 |ok p =>
  obtain⟨O,s'⟩:=p;obtain⟨⟨nv,rfl,hnn,Z0⟩,hI⟩:=hq;obtain⟨h1,h2⟩:=aq.o.asked HE.o hI;have B:fe (CY b v st (S s')) w1 nv O:=hnn.fr (Fr.refl yH _) (λ_ q=>q.elim) (λk f => .inl (by
   rcases f with rfl|h|h|h
   .exact .inl l.o.1
   .exact .inl (l.o.2.1 k h)
   .exact .inl (l.o.2.2 k h)
   .exact .inr h))
  have pH:=HE.o.prog w1 (HF.o.trans h2);obtain⟨Ei,u,HNN,ZX⟩:=hdd h2 h1 B Z0;obtain⟨gd,o,cap,xlg,-⟩:=hnn;obtain⟨nb,iJ⟩:=zw O.1;obtain⟨LL,hLL⟩:=zw (O.2.1.length+O.2.2.length);obtain⟨sc,hsc⟩:=zw O.2.2.length;rw[iJ,hLL,hsc]at xlg;subst xlg;obtain⟨I2,ic2,kv2,tv2,q1',-,-,i2',-⟩:=pH.ins HK.o;have L:=zL (pH.q1.symm.trans q1');rw[HVI.o]at L;simp only[gX,vr,YS,and_true,true_and]at L;rw[<-L.1,HXV.o]at i2';obtain⟨B9,hB9⟩:=zw (w1:Nat);obtain⟨W2,y⟩:=zw (w1.alloc (.cells #[.bool nb,.slice (zQ gd o) LL cap,sc] 99));have M:Fr yH yH w1 W2:=by rw[<-y];exact(Fr.refl _ _).alloc _
  have n0:∀j,W2.cell? ⟨B9,j,none⟩=(#[gL nb,.slice (zQ gd o) LL cap,sc]:Array zx)[j]? := λj=>by rw[<-y,<-hB9];exact zZ _ _ _ _ _
  have m0:=n0 0;have m1:=n0 1;have m2:=n0 2;simp only[gQ,qc,qe]at m0 m1 m2;have i2W:=M.cell i2' id;have V:=rH _ O xv W2.drew ((B.any.fr M (λ_ q=>q.elim) (M':=λ_=>False) (λ_ q=>q.elim)).fr (w':=W2.drew) (F:=yH) (F':=yH) ((Fr.refl _ _).drew) (λ_ q=>q.elim) (M':=λ_=>False) (λ_ q=>q.elim)) hv9 J;have P:=Z V;have H:=Z M;clear h1 h2 hI ly B pH V M n0 L q1' i2' b0 q0 q1 i0 i2 i3 cj kj Z0;go_wp2_with fail;try rw[y]
  clear y hB9 iJ hLL hsc;refine Dp (λW':z8=>zk W' B9 0 (.bool nb)/\zk W' B9 1 (.slice (zQ gd o) LL cap)/\zk W' B9 2 sc/\zk W' I (k*5+2) xv) 11 (xH 9) 3 ⟨m0,m1,m2,i2W⟩ ?_;refine dF 9 (λJk hJ=>?_);go_simp;refine P.o.mono ?_;rintro e w3 ⟨⟨v3,rfl,N⟩,dE⟩;have a:Fr yH yH W2 w3:=(Fr.of dE).und;have HZ:=Z N;have HOK:=Z N.ok;obtain⟨zz,oE⟩:=zw (C8 O xv);rw[oE]at N HZ;obtain⟨g3,o3,Q,hv3,-⟩:=N;obtain⟨zb,hzb⟩:=zw zz.1;obtain⟨L3,hL3⟩:=zw (zz.2.1.length+zz.2.2.length);obtain⟨sc3,xlf⟩:=zw zz.2.2.length;rw[hzb,hL3,xlf]at hv3;subst hv3;have i:=u.o.quiet HE.o (H.o.trans a);have pj:=u.o.o.lt;have h1:fe (CY b v st (S s')) w3 (RR nb gd o LL cap sc) O:=HNN.o.fr (H.o.trans a) (λ_ q=>q.elim) (λ_ q => .inl q);have h2:fe (CY b v st (S s')) w3 (RR zb g3 o3 L3 Q sc3) zz:=HZ.o.fr (Fr.refl yH _) (λ_ q=>q.elim) (λk f => .inl (by
   have y:=H.o.size;have H9:=Ei.o.size;show k<(W2:Nat);rcases f with rfl|h|h|h
   .omega
   .have:=l.o.2.1 k h;omega
   .have:=l.o.2.2 k h;omega
   .have:=HE.o.get.NG s' w1 k u.o.inv h;omega))
  have A:=dP.snoc h1 h2 i.en;have HPU:=Z (zey i.o i.row i.sb i.sv (by have:=HSL.o;simp only;omega) nb zb gd o LL cap sc g3 o3 L3 Q sc3);have Vk:=Z (λw' hq=>u9.mP (r:={ r with gs:=s' }) (w:=w3) (w':=w') (stk:=r.stk++[(O,zz)]) HE.o i.row A i.inv i.ds i.da i.df i.o.lt (by rw[zy];exact hq));have c0:=a.cell m0 id;have c1:=a.cell m1 id;have c2:=a.cell m2 id;have c3:=a.cell i2W id;have oe:=Z a;have HZZ:=Z oE;clear a i h1 h2 A dE P hzb hL3 xlf pj oE m0 m1 m2 i2W;refine hJ.out _ _ ⟨c0,c1,c2,c3⟩ λ_=>?_
  clear hJ Jk;refine jM [10] 1 rfl ZW yg yg ⟨c0,c1,c2,c3⟩ ?_;refine ty ?_;try simp only[pl]
  refine yW ?_;refine D0 11 (λJk hJ=>?_);go_simp;refine HPU.o.mono ?_;rintro e w4 ⟨rfl,hq4⟩;refine hJ.out _ _ ?_;clear hJ Jk;refine D1 ?_ _;obtain⟨Eh,U⟩:=Vk.o w4 hq4;have H4:=Z (zf Eh U);clear hq4 Eh U HPU Vk;go_wp2;go_ret;have TL:=H4.o.1;rw[<-HZZ.o]at TL;exact⟨⟨by first|rfl|simp,TL,kY _ _,zV⟩,(Ei.o.trans ((H.o.trans oe.o).wide (λ_ q=>q.elim))).trans H4.o.2⟩
end
variable{p:Nat}
def Dj(s:MkS)(p:Nat):Int:=CZ (qp s.code s.code.length p)
section
variable {τ:Type} {w0 W:z8} {A0 b q mb g k:Nat} {G:Nat->Prop} {s:MkS} {vC vI gv:zx} {rs:List (zx×zx)} {E:jY τ} {F S:τ->Nat->Prop} {Inv:τ->z8->Prop} {r:ZJ τ} {x:uF}
def step_goto(h:Zu w0 A0 b G q mb g s vC vI rs gv E F S Inv)(hf:Fr G G w0 W)(hR:u9 b A0 q g gv G F S Inv r W)(i:s.code[k]? = some x)(f:x.op=11)(c:x.tg[0]? = some p) :
  zE Tryz.prog 65 #[(b,0),k] W λe w'=>e = .returned (.int .i64 (Dj s p))/\Fr yH yH W w':=by
 have hp:=h.prog W hf;obtain⟨I,K,kv,tv,q1,lt,C,-,-,i4,-,tr⟩:=hp.ins i;obtain⟨T,tc,rfl,t,m⟩:=tr.at_ c;have l:=(h.n4 x (ze i)).2 p (ze c);have d:=Z (F9 q mb s.code.length p _ W.drew hp.q2 (hp.mp.keep rfl) l);have j:=h.n1;obtain⟨D,a⟩:=zw (Dj s p);have H:=Z a;rw[show CZ (qp s.code s.code.length p)=D from a]at d;rw[a];obtain⟨n,w⟩:=zw s.code.length;obtain⟨z,A⟩:=zw x.tg.length;rw[w]at q1 lt j;rw[A]at i4 m;rw[f]at C;obtain⟨v,st,cs,y,-⟩:=hR;have b0:=y.cell.1;have k1:(k:Int)<(n:Int):=J;have k3:(0:Int)<(z:Int):=J;clear h hf hp i f y w A tr c a;go_enter func65,ntmps65;go_wp2_with fail;refine Vy (λW':z8=>zk W' b 0 (zQ q 0)/\zk W' I (k*5+4) (.slice (zQ T 0) z tc)/\zk W' T 0 p) (xH 10) 2 ⟨b0,i4,t⟩ ?_;refine gU 10 (λB u=>?_);go_simp;refine d.o.mono ?_;rintro e w1 ⟨rfl,rfl⟩;refine u.out _ _ ⟨b0,i4,t⟩ λ_=>?_
 clear u B;refine Tt [11] 0 ⟨b0,i4,t⟩ ?_;refine ty ?_;try simp only[pl]
 refine yW ?_;refine Y5 ?_ _;go_wp2;go_ret;exact⟨rfl,(Fr.refl _ _).drew⟩
def cH(hE:Zu w0 A0 b G q mb g s vC vI rs gv E F S Inv)(hf:Fr G G w0 W)(hR:u9 b A0 q g gv G F S Inv r W)(hk:s.code[k]? = some x)(dL:x.op=7)(H:x.tg[0]? = some p){stk:List (uL×uL)}(hs:r.stk=stk++[tp])(D:r.stk.length<=1000000) :
  zE Tryz.prog 65 #[(b,0),k] W λe w'=>e = .returned (.int .i64 (if UF tp.1 x.v then Dj s p else ((k+1:Nat):Int)))/\Fr yH yH W w':=by
 have hp:=hE.prog W hf;obtain⟨I,ic,kv,tv,q1,lt,i0,i2,-,i4,-,tr⟩:=hp.ins hk;obtain⟨T,tc,rfl,tj,htl⟩:=tr.at_ H;obtain⟨hv9,C⟩:=hE.n4 x (ze hk);have C:=C p (ze H);have d:=Z (λ(w:z8) (hq:zk w q 2 (.map (some mb))) (hm:jS w mb s.code.length (qp s.code s.code.length))=>F9 q mb s.code.length p (qp s.code s.code.length) w hq hm C);have f:=Z (zf hp.q2 hp.mp);have DI:=hE.n1;obtain⟨jv,B⟩:=zw (Dj s p);rw[show CZ (qp s.code s.code.length p)=jv from B]at d;rw[B];obtain⟨n,hN⟩:=zw s.code.length;obtain⟨z,hZ⟩:=zw x.tg.length;obtain⟨xv,R⟩:=zw x.v;rw[hN]at q1 lt DI f d;rw[hZ]at i4 htl;rw[R]at i2 hv9|-;rw[dL]at i0;obtain⟨v,st,cs,hO,j,A,-⟩:=hR;obtain⟨tn,tz⟩:=tp;obtain⟨JJ,y⟩:=zw ((if UF tn xv=true then jv else ((k+1:Nat):Int)));have O:=Z y;rw[show(if UF (tn,tz).1 xv=true then jv else ((k+1:Nat):Int))=JJ from y];clear y;have c:(stk++[(tn,tz)]).length=stk.length+1:=zV;rw[hs]at A j D;rw[c]at j D;obtain⟨cs',nb,g1,o1,m1,c1,k1',zb,g2,o2,m2,c2,k2,rfl,m,hn,-⟩:=A.last;have HT:=Z (DR (w:=W.drew) hO nb zb g1 o1 m1 c1 k1' g2 o2 m2 c2 k2 j m.len J);have b0:=hO.cell.1;have k1:(k:Int)<(n:Int):=J;have k3:(0:Int)<(z:Int):=J;have hfd:=Rr;have P:=Z (λ(w:z8) (hb:Fr yH yH W w)=>ze9 _ tn xv w (hn.any.fr hb (λ_ q=>q.elim) (M':=λ_=>False) (λ_ q=>q.elim)) hv9);clear hE hf hp hk dL hO hN hZ tr H B j A m hs D c R hn;go_enter func65,ntmps65;go_wp2_with fail;refine Vy (λW':z8=>zk W' I (k*5+2) xv) [0,1,2,5,6,7,8] 4 i2 ?_;refine gU 3 (λQ l=>?_);go_simp;refine HT.o.mono ?_;rintro e w1 ⟨rfl,U⟩;have h:Fr yH yH W w1:=(Fr.of U).und;have K:=h.cell i2 id;refine l.out _ _ K λ_=>?_
 clear l Q;refine Tt [4] 2 K ?_;refine ty ?_;try simp only[pl]
 refine yW ?_;refine gU 9 (λQ l=>?_);go_simp;refine(P.o w1 h).mono ?_;rintro e w2 ⟨rfl,V⟩;have a:Fr yH yH W w2:=h.trans (Fr.of V);have i2b:=a.cell i2 id;have u:=a.cell b0 id;have L:=a.cell i4 id;have M:=a.cell tj id;have q2b:=a.cell f.o.1 id;have HMB:=Z (f.o.2.keep (a.keep mb f.o.2.lt id));refine l.out _ _ i2b λ_=>?_
 clear l Q;refine Tt [10] 0 i2b ?_;refine ty ?_;try simp only[pl]
 refine yW ?_;refine Y5 ?_ _;have N:=Z a;clear h U a V K HT P hfd b0 i4 tj i2;cases i:UF tn xv
 .have t:=Z (show((k+1:Nat):Int)=JJ by rw[<-O.o,i];rfl);clear i;go_wp2;go_ret;exact⟨by rw[<-t.o];first|rfl|simp,N.o⟩
 .have t:=Z (show jv=JJ by rw[<-O.o,i];rfl);have HA2:=Z (d.o w2.drew q2b (HMB.o.keep rfl));clear i d;go_wp2_with fail;refine Vy (λW':z8=>zk W' b 0 (zQ q 0)/\zk W' I (k*5+4) (.slice (zQ T 0) z tc)/\zk W' T 0 p) (xH 10) 2 ⟨u,L,M⟩ ?_;refine gU 10 (λQ l=>?_);go_simp;refine HA2.o.mono ?_;rintro e w3 ⟨rfl,rfl⟩;refine l.out _ _ ⟨u,L,M⟩ λ_=>?_
  clear l Q;refine Tt [11] 0 ⟨u,L,M⟩ ?_;refine ty ?_;try simp only[pl]
  refine yW ?_;refine Y5 ?_ _;go_wp2;go_ret;exact⟨by rw[<-t.o];rfl,N.o.drew⟩
end
section
variable {τ:Type} {w0 W:z8} {A0 b q mb g k:Nat} {G:Nat->Prop} {s:MkS} {vC vI gv:zx} {rs:List (zx×zx)} {E:jY τ} {F S:τ->Nat->Prop} {Inv:τ->z8->Prop} {r:ZJ τ} {x:uF}
def s7(C:Zu w0 A0 b G q mb g s vC vI rs gv E F S Inv)(hf:Fr G G w0 W)(hR:u9 b A0 q g gv G F S Inv r W)(hk:s.code[k]? = some x)(M:x.op=8){stk:List (uL×uL)}(hs:r.stk=stk++[tp])(A:x.tg[E.sort false tp.2.2]? = some p)(y:r.stk.length<=1000000) :
  zE Tryz.prog 65 #[(b,0),k] W λe w'=>e = .returned (.int .i64 (Dj s p))/\Fr yH yH W w':=by
 have hp:=C.prog W hf;obtain⟨I,ic,kv,tv,q1,lt,i0,i2,-,i4,-,tr⟩:=hp.ins hk;obtain⟨T,tc,rfl,P,N⟩:=tr.at_ A;have Rt:=(C.n4 x (ze hk)).2 p (ze A);have h:=Z (λ(w:z8) (hq:zk w q 2 (.map (some mb))) (hm:jS w mb s.code.length (qp s.code s.code.length))=>F9 q mb s.code.length p (qp s.code s.code.length) w hq hm Rt);have d:=Z (zf hp.q2 hp.mp);have DI:=C.n1;obtain⟨jv,u⟩:=zw (Dj s p);rw[show CZ (qp s.code s.code.length p)=jv from u]at h;rw[u];obtain⟨n,hN⟩:=zw s.code.length;obtain⟨z,hZ⟩:=zw x.tg.length;rw[hN]at q1 lt DI d h;rw[hZ]at i4 N;rw[M]at i0;obtain⟨v,st,cs,Q,i,t,-⟩:=hR;obtain⟨tn,tz⟩:=tp;have f:(stk++[(tn,tz)]).length=stk.length+1:=zV;rw[hs]at t i y;rw[f]at i y;obtain⟨cs',nb,g1,o1,m1,c1,k1',zb,g2,o2,m2,c2,k2,rfl,l,-,hz⟩:=t.last;have HT:=Z (DR (w:=W.drew) Q nb zb g1 o1 m1 c1 k1' g2 o2 m2 c2 k2 i l.len J);obtain⟨cv,ov,hcv,K,XY⟩:=C.set;have g0:=(hcv W hf).1;obtain⟨ix,L⟩:=zw (E.sort false tz.2);have m:=Z (λ(w:z8) (hb:Fr yH yH W w)=>K w _ tz.2 (hf.trans (hb.wide (G:=G) (λ_ q=>q.elim))) ((hz.any.fr hb (λ_ q=>q.elim) (M':=λ_=>False) (λ_ q=>q.elim))).num);simp only[L]at m P N;have b0:=Q.cell.1;have b1:=Q.cell.2.1;have k1:(k:Int)<(n:Int):=J;have k3:(ix:Int)<(z:Int):=J;have hfd:=KZ;clear C hf hp hk M Q hN hZ tr A u i t l hs y f hz hcv K XY L;go_enter func65,ntmps65;go_wp2_with fail;refine Vy (λW':z8=>zk W' b 0 (zQ q 0)/\zk W' b 1 (zQ g 0)/\zk W' g 0 cv/\zk W' I (k*5+4) (.slice (zQ T 0) z tc)/\zk W' T ix p) (xH 18) 7 ⟨b0,b1,g0,i4,P⟩ ?_;refine gU 18 (λB j=>?_);go_simp;refine HT.o.mono ?_;rintro e w1 ⟨rfl,D⟩;have c:Fr yH yH W w1:=(Fr.of D).und;have a1:=c.cell b0 id;have a2:=c.cell b1 id;have a3:=c.cell g0 id;have a4:=c.cell i4 id;have V:=c.cell P id;refine j.out _ _ ⟨a1,a2,a3,a4,V⟩ λ_=>?_
 clear j B;refine Tt [19] 5 ⟨a1,a2,a3,a4,V⟩ ?_;refine ty ?_;try simp only[pl]
 refine yW ?_;refine gU 20 (λB j=>?_);go_simp;refine(m.o w1 c).mono ?_;rintro e w2 ⟨rfl,H⟩;have a:Fr yH yH W w2:=c.trans (Fr.of H);have d1:=a.cell b0 id;have d2:=a.cell b1 id;have d3:=a.cell g0 id;have d4:=a.cell i4 id;have d5:=a.cell P id;have O:=a.cell d.o.1 id;have R:=Z (h.o w2 O (d.o.2.keep (a.keep mb d.o.2.lt id)));have U:=Z a;clear a1 a2 a3 a4 V c D a H b0 b1 g0 i4 P HT m h d O;refine j.out _ _ ⟨d1,d2,d3,d4,d5⟩ λ_=>?_
 clear j B;refine Ve [21,22] 2 ⟨d1,d2,d3,d4,d5⟩ ?_;refine gU 23 (λB j=>?_);go_simp;refine R.o.mono ?_;rintro e w3 ⟨rfl,rfl⟩;refine j.out _ _ ⟨d1,d2,d3,d4,d5⟩ λ_=>?_
 clear j B;refine Tt [24] 0 ⟨d1,d2,d3,d4,d5⟩ ?_;refine ty ?_;try simp only[pl]
 refine yW ?_;refine Y5 ?_ _;go_wp2;go_ret;exact⟨rfl,U.o⟩
def s8(C:Zu w0 A0 b G q mb g s vC vI rs gv E F S Inv)(hf:Fr G G w0 W)(hR:u9 b A0 q g gv G F S Inv r W)(hk:s.code[k]? = some x)(M:x.op=9){stk:List (uL×uL)}(hs:r.stk=stk++[tp])(A:x.tg[E.sort true tp.2.2]? = some p)(y:r.stk.length<=1000000) :
  zE Tryz.prog 65 #[(b,0),k] W λe w'=>e = .returned (.int .i64 (Dj s p))/\Fr yH yH W w':=by
 have hp:=C.prog W hf;obtain⟨I,ic,kv,tv,q1,lt,i0,i2,-,i4,-,tr⟩:=hp.ins hk;obtain⟨T,tc,rfl,P,N⟩:=tr.at_ A;have Rt:=(C.n4 x (ze hk)).2 p (ze A);have h:=Z (λ(w:z8) (hq:zk w q 2 (.map (some mb))) (hm:jS w mb s.code.length (qp s.code s.code.length))=>F9 q mb s.code.length p (qp s.code s.code.length) w hq hm Rt);have d:=Z (zf hp.q2 hp.mp);have DI:=C.n1;obtain⟨jv,u⟩:=zw (Dj s p);rw[show CZ (qp s.code s.code.length p)=jv from u]at h;rw[u];obtain⟨n,hN⟩:=zw s.code.length;obtain⟨z,hZ⟩:=zw x.tg.length;rw[hN]at q1 lt DI d h;rw[hZ]at i4 N;rw[M]at i0;obtain⟨v,st,cs,Q,i,t,-⟩:=hR;obtain⟨tn,tz⟩:=tp;have f:(stk++[(tn,tz)]).length=stk.length+1:=zV;rw[hs]at t i y;rw[f]at i y;obtain⟨cs',nb,g1,o1,m1,c1,k1',zb,g2,o2,m2,c2,k2,rfl,l,-,hz⟩:=t.last;have HT:=Z (DR (w:=W.drew) Q nb zb g1 o1 m1 c1 k1' g2 o2 m2 c2 k2 i l.len J);obtain⟨cv,ov,hcv,VK,K⟩:=C.set;have g0:=(hcv W hf).2;obtain⟨ix,L⟩:=zw (E.sort true tz.2);have m:=Z (λ(w:z8) (hb:Fr yH yH W w)=>K w _ tz.2 (hf.trans (hb.wide (G:=G) (λ_ q=>q.elim))) ((hz.any.fr hb (λ_ q=>q.elim) (M':=λ_=>False) (λ_ q=>q.elim))).num);simp only[L]at m P N;have b0:=Q.cell.1;have b1:=Q.cell.2.1;have k1:(k:Int)<(n:Int):=J;have k3:(ix:Int)<(z:Int):=J;have hfd:=KZ;clear C hf hp hk M Q hN hZ tr A u i t l hs y f hz hcv VK K L;go_enter func65,ntmps65;go_wp2_with fail;refine Vy (λW':z8=>zk W' b 0 (zQ q 0)/\zk W' b 1 (zQ g 0)/\zk W' g 1 ov/\zk W' I (k*5+4) (.slice (zQ T 0) z tc)/\zk W' T ix p) (xH 18) 7 ⟨b0,b1,g0,i4,P⟩ ?_;refine gU 18 (λB j=>?_);go_simp;refine HT.o.mono ?_;rintro e w1 ⟨rfl,D⟩;have c:Fr yH yH W w1:=(Fr.of D).und;have a1:=c.cell b0 id;have a2:=c.cell b1 id;have a3:=c.cell g0 id;have a4:=c.cell i4 id;have V:=c.cell P id;refine j.out _ _ ⟨a1,a2,a3,a4,V⟩ λ_=>?_
 clear j B;refine Tt [19] 5 ⟨a1,a2,a3,a4,V⟩ ?_;refine ty ?_;try simp only[pl]
 refine yW ?_;refine gU 20 (λB j=>?_);go_simp;refine(m.o w1 c).mono ?_;rintro e w2 ⟨rfl,H⟩;have a:Fr yH yH W w2:=c.trans (Fr.of H);have d1:=a.cell b0 id;have d2:=a.cell b1 id;have d3:=a.cell g0 id;have d4:=a.cell i4 id;have d5:=a.cell P id;have O:=a.cell d.o.1 id;have R:=Z (h.o w2 O (d.o.2.keep (a.keep mb d.o.2.lt id)));have U:=Z a;clear a1 a2 a3 a4 V c D a H b0 b1 g0 i4 P HT m h d O;refine j.out _ _ ⟨d1,d2,d3,d4,d5⟩ λ_=>?_
 clear j B;refine Ve [21,22] 2 ⟨d1,d2,d3,d4,d5⟩ ?_;refine gU 23 (λB j=>?_);go_simp;refine R.o.mono ?_;rintro e w3 ⟨rfl,rfl⟩;refine j.out _ _ ⟨d1,d2,d3,d4,d5⟩ λ_=>?_
 clear j B;refine Tt [24] 0 ⟨d1,d2,d3,d4,d5⟩ ?_;refine ty ?_;try simp only[pl]
 refine yW ?_;refine Y5 ?_ _;go_wp2;go_ret;exact⟨rfl,U.o⟩
end
variable{I i:Nat}{α:Type}
section
variable {τ:Type} {w0 W:z8} {A0 b q mb g k:Nat} {G:Nat->Prop} {s:MkS} {vC vI gv:zx} {rs:List (zx×zx)} {E:jY τ} {F S:τ->Nat->Prop} {Inv:τ->z8->Prop} {r:ZJ τ} {x:uF}
def zij(s:MkS)(x:uF)(u:Wd)(_:τ)(_:z8)(e:xX):Prop:=e = .returned ((K5 s x u:Nat):Int)
def zig[BEq α][LawfulBEq α]{l:List α}{a:α}(hi:i<l.length)(h:a ∉ l.take i)(he:l[i]=a):l.idxOf a=i:=by
 have h1:l=l.take i++l[i]::l.drop (i+1):=by rw[<-yd hi,fY]
 rw[h1,VV,yv h,he,List.idxOf_cons_self,u4];omega
def zif{l:List α}{a:α}(hi:i<l.length)(h:a ∉ l.take i)(he:l[i]≠a):a ∉ l.take (i+1):=by
 rw[yj hi,zS,zG];exactλq=>q.elim h (λe=>he e.symm)
def cL(hE:Zu w0 A0 b G q mb g s vC vI rs gv E F S Inv)(hf:Fr G G w0 W)(hR:u9 b A0 q g gv G F S Inv r W)(hk:s.code[k]? = some x)(hc:X2 s x=some t){ic:Nat}(hvI:vI = .slice (I,0) s.code.length ic)(P:x.k.tail.all (λj=>decide (j<s.cs.length))=true)(lh:x.k.length<=1000000) :
  zE Tryz.prog 114 #[(b,0),(I,k*5)] W (Qs F S Inv r.gs W (zij s x) (TS E t r.gs)):=by
 obtain⟨j,hj,ht⟩:=Zo hc;have hp:=hE.prog W hf;obtain⟨I1,ic1,kv,tv,q1,lt,i0,-,i3,-,kr,-⟩:=hp.ins hk;have d:=zL (hp.q1.symm.trans q1);rw[hvI]at d;simp only[gX,vr,YS,and_true,true_and]at d;rw[<-d.1]at i3;obtain⟨C,cc,q0,cj,w⟩:=hp.con ht;obtain⟨K,kc,rfl,kj,vcf⟩:=kr.at_ hj;have h3:=hE.n3 t (ze ht);obtain⟨v,st,cs,hO,ZR,hen,hi,hsb,rP,hS,hA,hF⟩:=hR;have hRC:NH b A0 q g gv G F S Inv r v st cs W:=⟨hO,ZR,hen,hi,hsb,rP,hS,hA,hF⟩;have Q:Hj b q j t W:=⟨hO.cell.1,C,s.cs.length,cc,q0,cj,w,hE.n2⟩;have H:=Z (ziu hE.get b q j t r.gs W hO.cell.2.2.1 Q hi J);obtain⟨z,hZ⟩:=zw x.k.length;rw[hZ]at i3 vcf lh;obtain⟨res,R⟩:=zw (TS E t r.gs);rw[R]at H|-;have k3:(0:Int)<(z:Int):=J;obtain⟨HE,HF,aq,HK,HVI,HAL,U⟩:=EB hE hf hRC hk hvI P hZ;clear hE hf hRC hk hvI P hp hO ZR hen hi hsb rP hS hA hF kr hj ht hc Q R q1 i0 q0 cj lt w d hZ;go_enter func114,ntmps114;go_wp2_with fail;refine H.o.mono ?_;intro e w1 hq;cases res with
 |error er =>
  obtain⟨c,s'⟩:=er;obtain⟨⟨D,rfl,hold⟩,hI⟩:=hq;have HQ:=Z (show Qs F S Inv r.gs W (zij s x) (.error (c,s'):Except (Nat×τ) (Wd×τ)) (.panicked ({ v:=kQ c,recovered:=false }::D)) w1 from⟨⟨D,rfl,hold⟩,hI⟩);clear hold hI H;exact M4
 |ok p =>
  obtain⟨u,s'⟩:=p;obtain⟨⟨hu,rfl⟩,hI⟩:=hq;obtain⟨h1,h2⟩:=aq.o.asked HE.o hI;have hp:=HE.o.prog w1 (HF.o.trans h2);obtain⟨I1,ic1,kv,tv,q1,lt,i0,-,N,-,kr,-⟩:=hp.ins HK.o;have d:=zL (hp.q1.symm.trans q1);rw[HVI.o]at d;simp only[gX,vr,YS,and_true,true_and]at d;rw[<-d.1]at N;obtain⟨K2,B,aD,vcd,vcb,hK2⟩:=xY kr (by rw[U.o];omega);have wo:x.k.length<=B:=by
   rcases kr.2 with⟨hv,hn⟩|⟨g2,GJ,cur,hv,_,_,hh,_⟩
   .rw[U.o]at hn;omega
   .rw[aD]at hv;cases hv;exact hh
  rw[aD,U.o]at N;rw[U.o]at wo;have b0:=h1.o.cell.1;have HI:=Z hI;have HP:=Z hp;have HK2:=Z hK2;obtain⟨y,rfl⟩:∃y,z=y+1:=⟨z - 1,J⟩;have l4:1<=B:=J;have l5:((y:Int)+1) - 1=(y:Int):=J;obtain⟨L,O⟩:=zw (x.k.tail.map (λj=>s.cs[j]?));have l:L.length=y:=by rw[<-O,vU,Us,U.o];omega
  have m:K5 s x u=L.idxOf (some u):=by unfold K5;rw[O]
  have HL:=Z (zf O (zf l m));have Z0:(⟨u.toArray⟩:ByteArray).size=u.length:=size_mk _;clear h1 h2 hI H hp q1 lt i0 kr d aD hK2 vcd vcb kj i3 O l m;by_cases hk1:B=1
  .obtain rfl:y=0:=(by omega);subst hk1;have HQ:=Z (show K5 s x u=0 by
    obtain⟨a,b,c⟩:=HL.o;rw[c,zN b];rfl)
   go_wp2_with fail;go_loopw [20] (λiv wr=>iv = .int .i64 0/\wr=w1) (λ_ _=>0)
   case atStart=>exact⟨rfl,rfl⟩
   case round =>
    obtain⟨rfl,rfl⟩:=hrel;go_wp2;go_ret;exact⟨by unfold zij;rw[HQ.o];rfl,HI.o⟩
  .go_wp2_with fail;go_loopw [20] (λiv wr=>∃i:Nat,iv = .int .i64 i/\i<=y/\some u ∉ L.take i/\Fr yH yH w1 wr) (λiv _=>y - (intOf iv).toNat)
   case atStart=>exact⟨0,rfl,zJ _,zV,Fr.refl _ _⟩
   case round =>
    obtain⟨i,rfl,hiy,A,f⟩:=hrel;have T:=Z f;have HN:=Z A;by_cases uh:i<y
    .obtain⟨O,l,m⟩:=HL.o;have n:i<L.length:=(by omega);have hkt:i<x.k.tail.length:=(by rw[Us,U.o];omega);have OE:x.k.tail[i]<s.cs.length:=of_decide_eq_true (zm.1 HAL.o _ (yf hkt));have hki:x.k[i+1]? = some x.k.tail[i]:=(by rw[List.getElem_tail,zj]);obtain⟨jj,hjj⟩:=zw (x.k.tail[i]);rw[hjj]at OE hki;obtain⟨c,V⟩:∃c,s.cs[jj]? = some c:=⟨_,zj OE⟩;have M:L[i]=some c:=by
      have:L[i]? = some (some c):=(by rw[<-O,Ql,zj hkt,hjj,Y8,V]);rw[zj n]at this;exact zL this
     obtain⟨C2,cc2,q0,cj,w⟩:=HP.o.con V;have q0':=f.cell q0 id;have cj':=f.cell cj id;have b0':=f.cell b0 id;have i3b:=f.cell N id;have kj':zk wr K2 (i+1) jj:=f.cell (by rw[HK2.o _ (by rw[U.o];omega)];simp[bh,hki]) id;obtain⟨mm,Ew⟩:=zw s.cs.length;rw[Ew]at q0' w;have f1:(i:Int)<(y:Int):=J;have f2:(1:Int)+(i:Int)<(y:Int)+1:=J;have f3:(0:Int)<=1+(i:Int):=J;have f4:vG.wrap (1+(i:Int))=1+(i:Int):=Yq;have f5:(1+(i:Int)).toNat=i+1:=J;have f6:(jj:Int)<(mm:Int):=J;have ued:(⟨c.toArray⟩:ByteArray).size=c.length:=size_mk _;clear f A q0 cj w V hjj hki OE hkt O l m Ew;by_cases hcu:c=u
     .subst hcu;have HS:=Z (show K5 s x c=i by rw[HL.o.2.2];exact zig n HN.o M);clear M n;go_wp2_with fail;refine Vy (λW':z8=>zk W' b 0 (.pointer (some ⟨q,0,none⟩))/\zk W' q 0 (.slice (zQ C2 0) mm cc2)/\zk W' I (k*5+3) (.slice (zQ K2 0) (y+1) B)/\zk W' K2 (i+1) jj/\zk W' C2 jj (zO c)) (xH 19) 0 ⟨b0',q0',i3b,kj',cj'⟩ ?_;refine Y5 ?_ _;go_wp2;go_ret;exact⟨by unfold zij;rw[HS.o];rfl,Qs.more HE.o.get HI.o (T.o.drew) (λ_ q=>q.elim)⟩
     .have HN2:=Z (zif n HN.o (by rw[M];exactλe=>hcu (zL e)));have ueb:(c==u)=false:=(by simpa using hcu);clear M n;go_wp2_with fail;refine Vy (λW':z8=>zk W' b 0 (zQ q 0)/\zk W' q 0 (.slice (zQ C2 0) mm cc2)/\zk W' I (k*5+3) (.slice (zQ K2 0) (y+1) B)/\zk W' K2 (i+1) jj/\zk W' C2 jj (zO c)) (xH 19) 0 ⟨b0',q0',i3b,kj',cj'⟩ ?_;refine Y5 ?_ _;go_wp2;exact⟨⟨i+1,congrArg (yZ .i64) J,J,HN2.o,T.o.drew⟩,by simp only[intOf];omega⟩
    .obtain rfl:i=y:=(by omega);have HS:=Z (show K5 s x u=i by
      obtain⟨O,l,m⟩:=HL.o;rw[m];have h:=HN.o;rw[ye J]at h;rw[zr3 h,l])
     have i3b:=f.cell N id;have f1:¬((i:Int)<(i:Int)):=J;clear f A;go_wp2;go_ret;exact⟨by unfold zij;rw[HS.o];first|rfl|simp,Qs.more HE.o.get HI.o T.o (λ_ q=>q.elim)⟩
end
def uf.dN{q mb k:Nat}{s:MkS}{vC vI:zx}{rs:List (zx×zx)}{x:uF}(h:uf q s vC vI rs mb w)(hk:s.code[k]? = some x):∃I b kv tv,rs[k]? = some (kv,tv)/\vI = .slice (some ⟨I,0,none⟩) s.code.length b/\zeq q k x I s.code.length b kv tv w:=by
 have d:=(zD.1 hk).1;obtain⟨⟨kv,tv⟩,hr⟩:∃r,rs[k]? = some r:=⟨_,zj GI⟩;obtain⟨h1,h2⟩:=h.rows.k k x _ hk hr;obtain⟨I,b,a,-,e,yn6⟩:=xY h.cI J;have c:∀j,j<5->w.cell? ⟨I,k*5+j,none⟩=(JU x (kv,tv))[j]? := λj hj=>AE
 exact⟨I,b,kv,tv,hr,a,⟨by rw[h.q1,a],d,c 0 J,c 2 J,c 3 J,c 4 J,h1,h2⟩⟩
section
variable {τ:Type} {w0 W:z8} {A0 b q mb g k:Nat} {G:Nat->Prop} {s:MkS} {vC vI gv:zx} {rs:List (zx×zx)} {E:jY τ} {F S:τ->Nat->Prop} {Inv:τ->z8->Prop} {r:ZJ τ} {x:uF}
def xld(b A0 q g:Nat)(gv:zx)(G:Nat->Prop)(F S:τ->Nat->Prop)(Inv:τ->z8->Prop)(s:MkS)(x:uF)(r:ZJ τ)(res:Except (Nat×τ) (Wd×τ))(W:z8)(e:xX)(w':z8):Prop :=
 (match res with
  |.ok (u,s')=>(∀p,x.tg[K5 s x u]? = some p->e = .returned (.int .i64 (Dj s p)))/\u9 b A0 q g gv G F S Inv { r with gs:=s' } w'
  |.error (n,s')=>yrb n e/\NC Inv S b { r with gs:=s' } w')/\Fr G G W w'
def Rh(Q:Zu w0 A0 b G q mb g s vC vI rs gv E F S Inv)(hf:Fr G G w0 W)(hR:u9 b A0 q g gv G F S Inv r W)(hk:s.code[k]? = some x)(dL:x.op=10)(hc:X2 s x=some t)(M:x.k.tail.all (λj=>decide (j<s.cs.length))=true)(lh:x.k.length<=1000000)(l:∀u,∃p,x.tg[K5 s x u]? = some p) :
  zE Tryz.prog 65 #[(b,0),k] W (xld b A0 q g gv G F S Inv s x r (TS E t r.gs) W):=by
 have hp:=Q.prog W hf;obtain⟨I,ic,kv,tv,QD,hvI,q1,lt,i0,-,-,i4,-,tr⟩:=hp.dN hk;obtain⟨p0,hp0⟩:=l [];obtain⟨T,tc,htv,-,ve5⟩:=tr.at_ hp0;obtain⟨v,st,cs,hO,ZR,hen,hi,hsb,rP,hS,hA,hF⟩:=hR;have a:NH b A0 q g gv G F S Inv r v st cs W.drew:=⟨hO,ZR,dP.fr ((Fr.refl yH W).drew) (λ_ q=>q.elim) (λ_ q => .inl q) hen,Q.get.fr hi ((Fr.refl yH W).drew) (λ_ q=>q.elim),hsb,rP,hS,hA,hF⟩;have hRA:u9 b A0 q g gv G F S Inv r W.drew:=⟨v,st,cs,a.o,a.row,a.en,a.inv,a.sb,a.sv,a.ds,a.da,a.df⟩;have U:Fr G G w0 W.drew:=hf.drew;have C:=Z (cL Q U hRA hk hc hvI M lh);have b0:=hO.cell.1;have DI:=Q.n1;obtain⟨n,hN⟩:=zw s.code.length;obtain⟨z,hZ⟩:=zw x.tg.length;obtain⟨res,N⟩:=zw (TS E t r.gs);rw[N]at C|-;have D:=Z (λ(w:z8) (h:uf q s vC vI rs mb w)=>show zk w I (k*5+4) (.slice (zQ T 0) z tc)/\∀j y,x.tg[j]? = some y->zk w T j (.int .i64 (y:Nat))by
  obtain⟨I',ic',kv',tv',O,m,q1',-,-,-,-,i4',-,tr'⟩:=h.dN hk;rw[hvI]at m;simp only[gX,vr,YS,and_true,true_and]at m;rw[QD]at O;cases O;rw[<-m.1]at i4';refine⟨by rw[i4',htv,hZ],λj y hj=>?_⟩;obtain⟨T',tc',P,hc',-⟩:=tr'.at_ hj;rw[htv]at P;cases P;exact hc')
 have i4W:=(D.o W hp).1;have tjW:=(D.o W hp).2;rw[hN]at q1 lt DI;rw[dL]at i0;have k1:(k:Int)<(n:Int):=J;obtain⟨HE,HF,aq,HTB,HX4⟩:=G0 Q U a l (λp hp=>(Q.n4 x (ze hk)).2 p hp);obtain⟨TG,R⟩:=zw x.tg;rw[R]at tjW hZ D;have HZ:=Z hZ;have HTG:=Z R;clear Q hf a hRA hk dL hc M hp hO ZR hen hi hsb rP hS hA hF hN hZ tr QD hvI i4 ve5 l N hp0 U R htv;go_enter func65,ntmps65;go_wp2_with fail;refine Vy (λW':z8=>zk W' b 0 (zQ q 0)/\zk W' I (k*5+4) (.slice (zQ T 0) z tc)/\∀j y,TG[j]? = some y->zk W' T j (.int .i64 (y:Nat))) (xH 10) 5 ⟨b0,i4W,tjW⟩ ?_;refine gU 10 (λJk hJ=>?_);go_simp;refine C.o.mono ?_;intro e w1 hq;cases res with
 |error er =>
  obtain⟨c,s'⟩:=er;obtain⟨⟨A,rfl,hold⟩,hI⟩:=hq;obtain⟨h1,h2⟩:=aq.o.asked HE.o hI;have HQ:=Z (show xld b A0 q g gv G F S Inv s x r (.error (c,s'):Except (Nat×τ) (Wd×τ)) W (.panicked ({ v:=kQ c,recovered:=false }::A)) w1 from⟨⟨⟨A,rfl,hold⟩,h1.inv,λk hk=>(h1.ds k hk).1⟩,h2.und⟩);clear hold hI C h1 h2;exact⟨rfl,HQ.o⟩
 |ok p =>
  obtain⟨u,s'⟩:=p;obtain⟨hch,hI⟩:=hq;obtain rfl:=hch;obtain⟨h1,h2⟩:=aq.o.asked HE.o hI;have K:=HE.o.prog w1 (HF.o.trans h2);obtain⟨L,B⟩:=D.o w1 K;have H:=h1.o.cell.1;obtain⟨p,f⟩:=HTB.o u;obtain⟨ix,V⟩:=zw (K5 s x u);rw[V]at f|-;have i:TG[ix]? = some p:=by rw[<-HTG.o];exact f
  have k3:(ix:Int)<(z:Int):=by have:=(zD.1 i).1;have:=HZ.o;omega
  have HAT:=Z (F9 q mb s.code.length p (qp s.code s.code.length) w1 K.q2 K.mp (HX4.o p (ze f)));have tj1:=B ix p i;have Ei:=Z (show Fr G G W w1 from h2.und);have d:=Z h1;obtain⟨jv,hjv⟩:=zw (Dj s p);rw[show CZ (qp s.code s.code.length p)=jv from hjv]at HAT;have HJV:=Z hjv;have HPT:=Z (zf f V);clear hI C h1 h2 K hjv f V b0 i4W tjW;refine hJ.out _ _ ⟨H,L,B⟩ λ_=>?_
  clear hJ Jk;refine Tt [11,12] 2 ⟨H,L,B⟩ ?_;refine ty ?_;try simp only[pl]
  refine Gq (v := .int .i64 p) rfl xG ?_ ?_
  .intro w' hS';have t1:=hS'.2.2 ix p i;go_simp
  try simp only[pl]
  refine yW ?_;refine gU 13 (λJk hJ=>?_);go_simp;refine HAT.o.mono ?_;rintro e w3 ⟨rfl,rfl⟩;refine hJ.out _ _ ⟨H,L,B⟩ λ_=>?_
  clear hJ Jk;refine Tt [14] 0 ⟨H,L,B⟩ ?_;refine ty ?_;try simp only[pl]
  refine yW ?_;refine Y5 ?_ _;go_wp2;go_ret;refine⟨⟨λp' hp'=>?_,⟨_,_,_,d.o.o,d.o.row,d.o.en,d.o.inv,d.o.sb,d.o.sv,d.o.ds,d.o.da,d.o.df⟩⟩,Ei.o⟩;rw[HPT.o.2,HPT.o.1]at hp';cases hp';rw[HJV.o];rfl
end
def zid(s:MkS):Prop:=∀x∈s.code,(x.op=7->0<x.tg.length)/\(x.op=10->x.k.length<=1000000/\x.k.tail.all (λj=>decide (j<s.cs.length))=true/\x.k.tail.length<x.tg.length)
section
variable {τ:Type} {w0 W:z8} {A0 b q mb g k:Nat} {G:Nat->Prop} {s:MkS} {vC vI gv:zx} {rs:List (zx×zx)} {E:jY τ} {F S:τ->Nat->Prop} {Inv:τ->z8->Prop} {r:ZJ τ} {x:uF}
def VmI(w0:z8)(b A0 q g:Nat)(gv:zx)(G:Nat->Prop)(F S:τ->Nat->Prop)(Inv:τ->z8->Prop)(m _:Nat)(r:ZJ τ)(W:z8):Prop :=
 u9 b A0 q g gv G F S Inv r W/\Fr G G w0 W/\r.out.length+m*5000<=900000000/\r.stk.length+m<=900000
def VmJ(w0:z8)(b A0 q g:Nat)(gv:zx)(G:Nat->Prop)(F S:τ->Nat->Prop)(Inv:τ->z8->Prop)(r:ZJ τ)(W:z8):Prop :=
 u9 b A0 q g gv G F S Inv r W/\r.out.length<=900000000
def Rw{k:Nat}(a:n+(m+1)*5000<=k):n+m*5000<=k:=by
 rw[Nat.succ_mul]at a;exact zg (Nat.add_le_add_left (kY _ _) n) a
def Is{k:Nat}(a:n+(m+1)<=k):n+m<=k:=J
def sy{k:Nat}(a:n+(m+1)*5000<=k):n<=k:=J
def mR(hf:Fr G G w0 W)(c:r.out.length+(m+1)*5000<=900000000)(hs:r.stk.length+(m+1)<=900000){r':ZJ τ}{e:xX}(h1:e = .returned ((k+1:Nat):Int))(h2:VmQ b A0 q g gv G F S Inv r (k+1) r' w')(a:Fr G G W w') :
  cu G (VmI w0 b A0 q g gv G F S Inv m) (VmJ w0 b A0 q g gv G F S Inv) (NC Inv S b) (.go (k+1) r') W e w' :=
 ⟨⟨h1,h2.1,hf.trans a,by have:=h2.2.1;omega,by have:=h2.2.2;omega⟩,a⟩
def yq7(hf:Fr G G w0 W)(c:r.out.length+(m+1)*5000<=900000000)(hs:r.stk.length+(m+1)<=900000){r':ZJ τ}{e:xX}(h1:e = .returned ((k+1:Nat):Int))(h2:u9 b A0 q g gv G F S Inv r' w')(a:Fr G G W w')(a1:r'.out=r.out)(a2:r'.stk=r.stk) :
  cu G (VmI w0 b A0 q g gv G F S Inv m) (VmJ w0 b A0 q g gv G F S Inv) (NC Inv S b) (.go (k+1) r') W e w':=by
 have k2:r.out.length+m*5000<=900000000:=Rw c;have k3:r.stk.length+m<=900000:=Is hs;exact⟨⟨h1,h2,hf.trans a,by simp only[a1];exact k2,by simp only[a2];exact k3⟩,a⟩
def CV(hf:Fr G G w0 W)(c:r.out.length+(m+1)*5000<=900000000)(hs:r.stk.length+(m+1)<=900000){r':ZJ τ}{e:xX}(h1:e = .returned (.int .i64 (Dj s p)))(h2:u9 b A0 q g gv G F S Inv r' w')(a:Fr G G W w')(a1:r'.out=r.out)(a2:r'.stk=r.stk) :
  cu G (VmI w0 b A0 q g gv G F S Inv m) (VmJ w0 b A0 q g gv G F S Inv) (NC Inv S b) (TT s (some p) r') W e w':=by
 have k2:r.out.length+m*5000<=900000000:=Rw c;have k1:r.out.length<=900000000:=sy c;have k3:r.stk.length+m<=900000:=Is hs;refine⟨?_,a⟩;simp only[TT];subst h1;unfold Dj;cases qp s.code s.code.length p with
 |none=>exact⟨rfl,h2,by simp only[a1];exact k1⟩
 |some k'=>exact⟨rfl,h2,hf.trans a,by simp only[a1];exact k2,by simp only[a2];exact k3⟩
def ve8(r:ZJ τ)(k:Nat){α:Type}(fn:α->τ->ZJ τ)(res:Except (Nat×τ) (α×τ)):aA (ZJ τ):=match res with |.error (n,s') => .err n { r with gs:=s' } |.ok (a,s') => .go (k+1) (fn a s')
def cM{fn:α->τ->ZJ τ}(hf:Fr G G w0 W)(d:r.out.length+(m+1)*5000<=900000000)(hs:r.stk.length+(m+1)<=900000){c:Except (Nat×τ) (α×τ)}{e:xX}(h:cD b A0 q g gv G F S Inv r k fn c W e w'){o:aA (ZJ τ)}
  (f:o=ve8 r k fn c) :
  cu G (VmI w0 b A0 q g gv G F S Inv m) (VmJ w0 b A0 q g gv G F S Inv) (NC Inv S b) o W e w':=by
 subst f;obtain⟨h1,h2⟩:=h;cases c with
 |error i=>exact⟨h1,h2⟩
 |ok a=>exact mR hf d hs h1.1 h1.2 h2
def Zp{l:List α}{t:α}(h:l.getLast? = some t):l=l.dropLast++[t]:=by
 obtain⟨ys,rfl⟩:=List.getLast?_eq_some_iff.1 h;simp
def zib{x:uF}{r:ZJ τ}(h:TT s x.tg[i]? r ≠ .bad):∃p,x.tg[i]? = some p:=by
 cases hp:x.tg[i]? with
 |none=>rw[hp]at h;exact absurd rfl h
 |some p=>exact⟨p,rfl⟩
def yq8(c:Zu w0 A0 b G q mb g s vC vI rs gv E F S Inv)(H:zid s)(I:VmI w0 b A0 q g gv G F S Inv (m+1) k r W)(hb:Vj E s k r ≠ .bad) :
  zE Tryz.prog 65 #[(b,0),k] W (cu G (VmI w0 b A0 q g gv G F S Inv m) (VmJ w0 b A0 q g gv G F S Inv) (NC Inv S b) (Vj E s k r) W):=by
 obtain⟨hR,hf,d,hs⟩:=I;have i:∀{w w':z8},Fr yH yH w w'->Fr G G w w':=λh=>(h.tg (F'':=yH) (λk a=>a.elim)).wide (λk a=>a.elim)
 have B:r.stk.length<=900000:=J;have j:r.stk.length<=1000000:=J;have f:r.out.length<=900000000:=J;cases a:s.code[k]? with
 |none=>exact absurd (by simp only[Vj,a]) hb
 |some x =>
  have C:Vj E s k r=dI E s x k r:=by simp only[Vj,a]
  rw[C]at hb|-;have y:x.op=0\/x.op=1\/x.op=2\/x.op=3\/x.op=4\/x.op=5\/x.op=6\/x.op=7\/x.op=8\/x.op=9\/x.op=10\/x.op=11\/12<=x.op:=J;rcases y with dL|dL|dL|dL|dL|dL|dL|dL|dL|dL|dL|dL|dL
  .rw[show dI E s x k r = .fin r by unfold dI;rw[dL];rfl];obtain⟨v,st,cs,D,A⟩:=hR;refine(step_end D (c.prog W hf) a dL c.n1).mono ?_;rintro e w' ⟨rfl,rfl⟩;exact⟨⟨rfl,⟨v,st,cs,D,A⟩,f⟩,Fr.refl _ _⟩
  .cases hc:X2 s x with
   |none=>exact absurd QE hb
   |some t =>
    rw[show dI E s x k r = .go (k+1) { r with out:=r.out++t }by unfold dI;rw[dL];simp only[hc]];exact(ziq c hf hR a dL hc f).mono λe w' h=>mR hf d hs h.1 h.2.1 h.2.2
  .cases hc:X2 s x with
   |none=>exact absurd QE hb
   |some t =>
    refine(zik c hf hR a dL hc f).mono λe w' h=>cM hf d hs h ?_
    unfold dI;rw[dL];simp only[hc];generalize VO E t r.gs=z;rcases z with⟨n,g'⟩|⟨⟨t,num⟩,g'⟩<;>rfl
  .cases hc:X2 s x with
   |none=>exact absurd QE hb
   |some t =>
    refine(Rs c hf hR a dL hc f).mono λe w' h=>cM hf d hs h ?_
    exact zv6
  .cases hc:X2 s x with
   |none=>exact absurd QE hb
   |some t =>
    refine(cE c hf hR a dL hc B).mono λe w' h=>cM hf d hs h ?_
    exact zv6
  .cases hc:r.stk.getLast? with
   |none=>exact absurd QE hb
   |some t =>
    rw[show dI E s x k r = .go (k+1) { r with stk:=r.stk.dropLast }by unfold dI;rw[dL];simp only[hc]];exact(cG c hf hR a dL (Zp hc) j).mono λe w' h=>mR hf d hs h.1 h.2.1 h.2.2
  .cases hc:r.stk.getLast? with
   |none=>exact absurd QE hb
   |some t =>
    rw[show dI E s x k r = .go (k+1) { r with out:=r.out++E.wr t.2 }by unfold dI;rw[dL];simp only[hc]];exact(s6 c hf hR a dL (Zp hc) j f).mono λe w' h=>mR hf d hs h.1 h.2.1 h.2.2
  .cases hc:r.stk.getLast? with
   |none=>exact absurd QE hb
   |some t =>
    rw[show dI E s x k r=if UF t.1 x.v then TT s x.tg[0]? r else .go (k+1) r by unfold dI;rw[dL];simp only[hc]]at hb|-;obtain⟨p,hp⟩:∃p,x.tg[0]? = some p:=⟨_,zj ((H x (ze a)).1 dL)⟩;rw[hp];refine(cH c hf hR a dL hp (Zp hc) j).mono λe w' h=>?_
    by_cases l:UF t.1 x.v=true
    .rw[yK l];exact CV hf d hs (by rw[h.1,yK l]) (hR.quiet c h.2) (i h.2) rfl rfl
    .rw[yv l];exact yq7 hf d hs (by rw[h.1,yv l]) (hR.quiet c h.2) (i h.2) rfl rfl
  .cases hc:r.stk.getLast? with
   |none=>exact absurd QE hb
   |some t =>
    rw[show dI E s x k r=TT s x.tg[E.sort false t.2.2]? r by unfold dI;rw[dL];simp only[hc]]at hb|-;obtain⟨p,hp⟩:=zib hb;rw[hp];exact(s7 c hf hR a dL (Zp hc) hp j).mono λe w' h=>CV hf d hs h.1 (hR.quiet c h.2) (i h.2) rfl rfl
  .cases hc:r.stk.getLast? with
   |none=>exact absurd QE hb
   |some t =>
    rw[show dI E s x k r=TT s x.tg[E.sort true t.2.2]? r by unfold dI;rw[dL];simp only[hc]]at hb|-;obtain⟨p,hp⟩:=zib hb;rw[hp];exact(s8 c hf hR a dL (Zp hc) hp j).mono λe w' h=>CV hf d hs h.1 (hR.quiet c h.2) (i h.2) rfl rfl
  .cases hc:X2 s x with
   |none=>exact absurd QE hb
   |some t =>
    obtain⟨a1,a2,a3⟩:=(H x (ze a)).2 dL;have o:∀u,∃p,x.tg[K5 s x u]? = some p:=λu=>⟨_,zj (Nat.lt_of_le_of_lt zg9 a3)⟩
    refine(Rh c hf hR a dL hc a2 a1 o).mono λe w' h=>?_
    rw[show dI E s x k r=(match TS E t r.gs with |.error (e,g) => .err e { r with gs:=g } |.ok (t,g)=>TT s x.tg[K5 s x t]? { r with gs:=g })by unfold dI;rw[dL];simp only[hc,a2,if_true];generalize TS E t r.gs=z;rcases z with⟨n,g'⟩|⟨u,g'⟩<;>rfl];obtain⟨h1,h2⟩:=h;cases hw:TS E t r.gs with
    |error K =>
     rw[hw]at h1;exact⟨h1,h2⟩
    |ok p =>
     obtain⟨u,s'⟩:=p;rw[hw]at h1;obtain⟨p,hp⟩:=o u;show cu _ _ _ _ (TT s x.tg[K5 s x u]? { r with gs:=s' }) _ _ _;rw[hp];exact CV hf d hs (h1.1 p hp) h1.2 h2 rfl rfl
  .rw[show dI E s x k r=TT s x.tg[0]? r by unfold dI;rw[dL];rfl]at hb|-;obtain⟨p,hp⟩:=zib hb;rw[hp];exact(step_goto c hf hR a dL hp).mono λe w' h=>CV hf d hs h.1 (hR.quiet c h.2) (i h.2) rfl rfl
  .refine absurd ?_ hb;unfold dI;split<;>first|rfl|omega
end
variable{ks:List Wd}{k:Nat}
def Fo.vok:Bool->Fo->Prop
 |_,.nil=>True
 |b,.text _ r=>r.vok b
 |b,.hash r=>b=true/\r.vok b
 |b,.put _ _ r=>r.vok b
 |b,.num _ _ r=>r.vok b
 |b,.br _ _ f _ _ bs r=>bs.xm=true/\bs.keys.Nodup/\qf∈bs.keys/\bs.vok (decide (f≠0))/\r.vok b
 |b,.xi _ _ m r=>m.ya=true/\m.vok b/\r.vok b
def shx(x:uF):Nat×Nat×Nat×List Nat×Nat:=(x.op,x.pos,x.v,x.k,x.tg.length)
def kz(s:MkS)(i j n:Nat):(s.xL i j).code[n]? = if i=n then (s.code[n]?).map (λx=>{ x with tg:=x.tg.set j s.pos })else s.code[n]? := by
 simp only[MkS.xL];rw[yez];by_cases h:i=n
 .simp[h]
 .simp[h]
def fR(s:MkS)(i j:Nat):(s.xL i j).code.length=s.code.length:=by simp[MkS.xL]
def xy(s:MkS)(op v:Nat)(k tg:List Nat):(s.put op v k tg).code=s.code++[⟨op,s.pos,v,k,tg⟩]:=rfl
def Fz(s:MkS):qm λs'=>∀(i:Nat) (x:uF),s.code[i]? = some x->∃y,s'.code[i]? = some y/\shx y=shx x:=by
 refine⟨λa op v k tg h i x hx=>?_,λa t h i x hx=>?_,λa i j h n x hx=>?_⟩
 .obtain⟨y,h1,h2⟩:=h i x hx;exact⟨y,by rw[xy,zi (zD.1 h1).1];exact h1,h2⟩
 .rw[(xS a t).2.1];exact h i x hx
 .obtain⟨y,h1,h2⟩:=h n x hx;rw[kz];split
  .exact⟨_,Yn,by rw[<-h2];simp[shx]⟩
  .exact⟨y,h1,h2⟩
def xz6(c:List Wd):qm λs=>c <+: s.cs:=by
 refine⟨λa op v k tg h=>h,λa t h=>?_,λa i j h=>h⟩;unfold MkS.const;split
 .exact h
 .exact h.trans (DU _ _)
def mS(s:MkS):Prop:=(∀(i j:Nat) (x y:uF),i<j->s.code[i]? = some x->s.code[j]? = some y->x.pos<y.pos)/\∀x∈s.code,x.pos<s.pos
def S0(x:uF):0<(xE x).length:=by simp[xE]
def It:qm mS:=by
 refine⟨λs op v k tg h=>?_,λs t h=>?_,λs i j h=>?_⟩
 .have hp:=S0 ⟨op,s.pos,v,k,tg⟩;refine⟨λi j x y f hx hy=>?_,λx hx=>?_⟩
  .rw[xy]at hx hy;rw[List.getElem?_append]at hx hy;split at hy
   .rw[yK J]at hx;exact h.1 i j x y f hx hy
   .have o:j - s.code.length=0:=by
     have:=(zD.1 hy).1;simp at this;omega
    rw[o]at hy;simp at hy;subst hy;rw[yK J]at hx;exact h.2 x (ze hx)
  .show x.pos<s.pos+_;rw[xy,zS,zG]at hx;rcases hx with hx|rfl
   .have:=h.2 x hx;omega
   .show s.pos<_;omega
 .obtain⟨-,z2,p⟩:=xS s t;unfold mS;rw[z2,p];exact h
 .have c:∀(n:Nat) (x:uF),(s.xL i j).code[n]? = some x->∃y,s.code[n]? = some y/\y.pos=x.pos:=by
   intro n x hx;rw[kz]at hx;split at hx
   .cases hc:s.code[n]? with
    |none=>rw[hc]at hx;cases hx
    |some y=>rw[hc]at hx;cases hx;exact⟨y,rfl,rfl⟩
   .exact⟨x,hx,rfl⟩
  refine⟨λa b x y d hx hy=>?_,λx hx=>?_⟩
  .obtain⟨g,h1,h2⟩:=c a x hx;obtain⟨y',l,m⟩:=c b y hy;rw[<-h2,<-m];exact h.1 a b g y' d h1 l
  .obtain⟨n,hn,e⟩:=ja.1 hx;obtain⟨g,h1,h2⟩:=c n x Ls;rw[<-h2];exact h.2 g (ze h1)
def zl0{s:MkS}(h:mS s){x:uF}(hx:s.code[k]? = some x):qp s.code s.code.length x.pos=some k:=by
 have key:∀n,k<n->n<=s.code.length->qp s.code n x.pos=some k:=by
  intro n;induction n with
  |zero=>intro h;omega
  |succ n b =>
   intro h1 h2;simp only[qp];by_cases a:k=n
   .subst a;simp[hx]
   .obtain⟨y,hy⟩:∃y,s.code[n]? = some y:=⟨_,zj J⟩;have:=h.1 k n x y J hx hy;rw[hy];rw[yv yF];exact b J J
 exact key _ (zD.1 hx).1 (Y _)
def uD(l:List (Nat×Nat))(s:MkS):MkS:=l.foldl (λs p=>s.xL p.1 p.2) s
def km:∀(l:List (Nat×Nat)) (s:MkS),(uD l s).code.length=s.code.length/\(uD l s).pos=s.pos/\(uD l s).cs=s.cs
 |[],s=>⟨rfl,rfl,rfl⟩
 |p::l,s=>by
  obtain⟨a,b,c⟩:=km l (s.xL p.1 p.2);exact⟨a.trans (fR _ _ _),b,c⟩
def YY:∀(l:List (Nat×Nat)) (s:MkS) (n:Nat),(∀p∈l,p.1≠n)->(uD l s).code[n]? = s.code[n]?
 |[],s,n,_=>rfl
 |p::l,s,n,h=>by
  show(uD l (s.xL p.1 p.2)).code[n]? = _;rw[YY l _ n (λq a=>h q (uj _ a)),kz,yv (h p (qO ..))]
def slot(s:MkS)(p:Nat×Nat):Option Nat:=(s.code[p.1]?).bind λx=>x.tg[p.2]?
def Steps{σ:Type}(F:Nat->σ->aA σ)(k:Nat)(r:σ)(k':Nat)(r':σ):Prop:=∃n,n+k<=k'/\∀fuel,VN F (fuel+n) k r=VN F fuel k' r'
section
variable {σ:Type} {F:Nat->σ->aA σ}
def Steps.refl(k:Nat)(r:σ):Steps F k r k r:=⟨0,J,λ_=>rfl⟩
def Steps.trans{k1 k2:Nat}{r r1 r2:σ}(h:Steps F k r k1 r1)(h2:Steps F k1 r1 k2 r2):Steps F k r k2 r2:=by
 obtain⟨n,b,hn⟩:=h;obtain⟨m,a,hm⟩:=h2;exact⟨m+n,J,λfuel=>by rw[<-uR,hn,hm]⟩
def Steps.one{r r':σ}(h:F k r = .go k' r')(a:k<k':=by omega):Steps F k r k' r':=⟨1,J,λfuel=>by rw[VN,h]⟩
end
section
variable {τ:Type} {F:Nat->ZJ τ->aA (ZJ τ)}
def Res(F:Nat->ZJ τ->aA (ZJ τ))(k:Nat)(r:ZJ τ)(k':Nat)(stk:List (uL×uL)):Except (Nat×τ) (Wd×τ)->Prop
 |.ok (o,g)=>Steps F k r k' ⟨o,stk,g⟩
 |.error (n,g)=>∃m r',m+k<=k'/\(∀fuel,VN F (fuel+m) k r=some (.error (n,r')))/\r'.gs=g
def Res.after{k1:Nat}{r r1:ZJ τ}{stk:List (uL×uL)}{a:Except (Nat×τ) (Wd×τ)}(h:Steps F k r k1 r1)(h2:Res F k1 r1 k' stk a):Res F k r k' stk a:=by
 cases a with
 |ok p=>exact h.trans h2
 |error e =>
  obtain⟨n,d,hn⟩:=h;obtain⟨m,r',c,hm,b⟩:=h2;exact⟨m+n,r',J,λfuel=>by rw[<-uR,hn,hm],b⟩
def Res.err{r r':ZJ τ}{stk:List (uL×uL)}(h:F k r = .err n r')(a:k<k':=by omega):Res F k r k' stk (.error (n,r'.gs)):=⟨1,r',J,λfuel=>by rw[VN,h],rfl⟩
end
def go_msg:∀(f:Fo),f.ya=true->∀(b:Wd->MkS->MkS) (s:MkS) (ls:List Nat),MkS.uw f b s ls=(MkS.Zx f s,ls)
 |.nil,_,_,_,_=>rfl
 |.text t r,h,b,s,ls=>go_msg r h b _ ls
 |.hash r,h,b,s,ls=>go_msg r h b _ ls
 |.put n a r,h,b,s,ls=>go_msg r h b _ ls
 |.num n a r,h,b,s,ls=>go_msg r h b _ ls
 |.br n a f o c bs r,h,b,s,ls=>by
  rw[MkS.Zx,MkS.uw,MkS.uw];split
  .dsimp only;rw[go_msg r h b,go_msg r h (λ_ s=>s)]
  .dsimp only;rw[go_msg r h b,go_msg r h (λ_ s=>s)]
 |.xi k a m r,h,b,s,ls=>xp
def bR(l:List Nat)(s:MkS):l.foldl (λs i=>MkS.xL s i 0) s=uD (l.map λi=>(i,0)) s:=by
 unfold uD;rw[yek]
def CU(ks:List Wd)(t:Nat)(key:Wd):List (Nat×Nat):=((xH 6).filter λc=>decide (YF.getD c []=key\/key=qf/\YF.getD c [] ∉ ks)).map λc=>(t,c)
def cN(ks:List Wd)(t:Nat)(key:Wd)(s:MkS):MkS.Rf ks t key s=uD (CU ks t key) s:=by
 unfold uD CU MkS.Rf;rw[yek,List.foldl_filter];congr 1;funext s c;simp only[decide_eq_true_eq]
def Ih(n:Wd)(bs:Fo)(s:MkS)(k:Wd):List (Nat×Nat):=[((MkS.fy n bs s).1.code.length,MkS.place bs.keys k)]
def KY(n:Wd)(bs:Fo)(s:MkS)(k:Wd)(x:MkS):MkS.bO n bs s k x=uD (Ih n bs s k) x:=rfl
def QA(n o:Wd)(bs:Fo)(s:MkS)(k:Wd):List (Nat×Nat) :=
 match (MkS.VH n o bs s).2.lookup k with
 |some i=>[(i,0)]
 |none=>CU bs.keys (MkS.VH n o bs s).1.code.length k
def Xr(n o:Wd)(bs:Fo)(s:MkS)(k:Wd)(x:MkS):MkS.kV n o bs s k x=uD (QA n o bs s k) x:=by
 unfold MkS.kV QA;cases h:(MkS.VH n o bs s).2.lookup k with
 |some i=>rfl
 |none=>exact cN _ _ _ _
def Xz(n:Wd)(bs:Fo)(s:MkS):(MkS.fy n bs s).1.code=s.code/\(MkS.fy n bs s).1.pos=s.pos:=by
 obtain⟨_,_,_,d,e⟩:=MkS.JG bs (s.const n) [s.num n];obtain⟨_,z2,a⟩:=xS s n;exact⟨d.trans z2,e.trans a⟩
def ZG:∀(f:Fo) (s:MkS) (acc:List (Wd×Nat)),s.code <+: (MkS.vX f s acc).1.code/\acc <+: (MkS.vX f s acc).2/\∀p∈(MkS.vX f s acc).2,p∈acc\/s.code.length<=p.2/\p.2<(MkS.vX f s acc).1.code.length
 |.xi k a m r,s,acc=>by
  rw[MkS.vX];split
  .obtain⟨h1,h2,b⟩:=ZG r (s.put 7 (yb k.tail) [] [0]) (acc++[(k,s.code.length)]);have c:(s.put 7 (yb k.tail) [] [0]).code.length=s.code.length+1:=(by simp[xy]);have:=h1.length_le;refine⟨(show s.code <+: (s.put 7 (yb k.tail) [] [0]).code from DU _ _).trans h1,(DU _ _).trans h2,λp hp=>?_⟩;rcases b p hp with q|q
   .rw[zS,zG]at q;rcases q with q|rfl
    .exact .inl q
    .exact .inr ⟨Y _,by show s.code.length<_;omega⟩
   .exact .inr ⟨J,q.2⟩
  .exact ZG r s acc
 |.nil,s,acc=>⟨xZ _,xZ _,λp hp => .inl hp⟩
 |.text _ _,s,acc=>⟨xZ _,xZ _,λp hp => .inl hp⟩
 |.hash _,s,acc=>⟨xZ _,xZ _,λp hp => .inl hp⟩
 |.put _ _ _,s,acc=>⟨xZ _,xZ _,λp hp => .inl hp⟩
 |.num _ _ _,s,acc=>⟨xZ _,xZ _,λp hp => .inl hp⟩
 |.br _ _ _ _ _ _ _,s,acc=>⟨xZ _,xZ _,λp hp => .inl hp⟩
def CQ{l:List (Wd×Nat)}{k:Wd}(h:l.lookup k=some i):(k,i)∈l:=by
 induction l with
 |nil=>cases h
 |cons p l d =>
  obtain⟨a,b⟩:=p;rw[Qn]at h;cases c:k==a
  .rw[c]at h;exact uj _ (d h)
  .rw[c]at h;cases h;rw[beq_iff_eq]at c;subst c;exact qO ..
def sx(n o:Wd)(bs:Fo)(s:MkS):s.code.length+1<=(MkS.VH n o bs s).1.code.length/\(∀(i:Nat) (x:uF),s.code[i]? = some x->(MkS.VH n o bs s).1.code[i]? = some x)/\∀k,∀p∈QA n o bs s k,s.code.length+1<=p.1/\p.1<=(MkS.VH n o bs s).1.code.length:=by
 obtain⟨h1,h2,b⟩:=ZG bs ((s.const n).put 4 (yb o) [s.num n] []) [];have d:((s.const n).put 4 (yb o) [s.num n] []).code.length=s.code.length+1:=by simp[xy,(xS s n).2.1]
 have a:=h1.length_le;rw[d]at a b;refine⟨a,λi x hx=>?_,λk p hp=>?_⟩
 .obtain⟨t,e⟩:=h1;show(MkS.vX bs ((s.const n).put 4 (yb o) [s.num n] []) []).1.code[i]? = some x;rw[<-e,zi (by rw[d];have:=(zD.1 hx).1;omega),xy,(xS s n).2.1,zi (zD.1 hx).1];exact hx
 .unfold QA at hp;split at hp
  .next i hi =>
   rw[zG]at hp;subst hp;rcases b _ (CQ hi)with q|q
   .cases q
   .exact⟨q.1,vZ q.2⟩
  .obtain⟨c,_,rfl⟩:=uy.1 hp;exact⟨a,Y _⟩
def go_facts:∀(f:Fo) (sl:Wd->List (Nat×Nat)) (g:Wd->MkS->MkS),(∀k x,g k x=uD (sl k) x)->∀(s:MkS) (ls:List Nat),
  s.code.length<=(MkS.uw f g s ls).1.code.length/\(∀e∈(MkS.uw f g s ls).2,e∈ls\/s.code.length<=e/\e<(MkS.uw f g s ls).1.code.length)/\(∀e∈ls,e∈(MkS.uw f g s ls).2) /\
  ∀i,i<s.code.length->(∀k,∀p∈sl k,p.1≠i)->(MkS.uw f g s ls).1.code[i]? = s.code[i]?
 |.nil,sl,g,hb,s,ls=>⟨Y _,λe he => .inl he,λe he=>he,λ_ _ _=>rfl⟩
 |.text t r,sl,g,hb,s,ls=>by
  have j:(s.one 1 t).code=s.code++[⟨1,(s.const t).pos,0,[s.num t],[]⟩]:=by rw[MkS.one,xy,(xS s t).2.1]
  exact go_more (x:=⟨1,(s.const t).pos,0,[s.num t],[]⟩) j (go_facts r sl g hb (s.one 1 t) ls)
 |.hash r,sl,g,hb,s,ls=>go_more rfl (go_facts r sl g hb (s.put 6 0 [] []) ls)
 |.put n a r,sl,g,hb,s,ls=>by
  have j:(s.one 2 n).code=s.code++[⟨2,(s.const n).pos,0,[s.num n],[]⟩]:=by rw[MkS.one,xy,(xS s n).2.1]
  exact go_more j (go_facts r sl g hb (s.one 2 n) ls)
 |.num n a r,sl,g,hb,s,ls=>by
  have j:(s.one 3 n).code=s.code++[⟨3,(s.const n).pos,0,[s.num n],[]⟩]:=by rw[MkS.one,xy,(xS s n).2.1]
  exact go_more j (go_facts r sl g hb (s.one 3 n) ls)
 |.br n a f o c bs r,sl,g,hb,s,ls=>by
  rw[MkS.uw];split
  .have hS:(MkS.ki n bs s).code=s.code++[⟨10,(MkS.fy n bs s).1.pos,0,(MkS.fy n bs s).2,zX (MkS.fy n bs s).2.length 0⟩]:=(by rw[MkS.ki,xy,(Xz n bs s).1]);have l:(MkS.ki n bs s).code.length=s.code.length+1:=(by rw[hS];simp);obtain⟨a1,a2,a3,a4⟩:=go_facts bs (Ih n bs s) (MkS.bO n bs s) (KY n bs s) (MkS.ki n bs s) [];dsimp only;rw[bR];refine go_join (n:=s.code.length) ?_ ?_ (go_facts r sl g hb _ ls)
   .rw[(km _ _).1];omega
   .intro i hi;rw[YY _ _ _ (λp hp=>?_),a4 i J (λk p hp=>?_),hS,zi hi]
    .rw[Ih,zG]at hp;subst hp;show(MkS.fy n bs s).1.code.length≠i;rw[(Xz n bs s).1];omega
    .exact zvq
  .obtain⟨b1,b2,b3⟩:=sx n o bs s;have hS:(MkS.kU n o f bs s).code=(MkS.VH n o bs s).1.code++[⟨if f=2 then 9 else 8,(MkS.VH n o bs s).1.pos,0,[],zX 6 0⟩]:=(by rw[MkS.kU,xy]);have l:(MkS.kU n o f bs s).code.length=(MkS.VH n o bs s).1.code.length+1:=(by rw[hS];simp);obtain⟨a1,a2,a3,a4⟩:=go_facts bs (QA n o bs s) (MkS.kV n o bs s) (Xr n o bs s) (MkS.kU n o f bs s) [];dsimp only;rw[bR];refine go_join (n:=s.code.length) ?_ ?_ (go_facts r sl g hb _ ls)
   .rw[xy,zy,(km _ _).1];omega
   .intro i hi;obtain⟨x,hx⟩:∃x,s.code[i]? = some x:=⟨_,zj hi⟩;rw[xy,zi (by rw[(km _ _).1];omega),YY _ _ _ (λp hp=>?_),a4 i J (λk p hp=>?_),hS,zi J,b2 i x hx,hx]
    .have:=b3 k p hp;omega
    .exact zvq
 |.xi k a m r,sl,g,hb,s,ls=>by
  rw[MkS.uw];rw[hb];obtain⟨a1,a2,a3,a4⟩:=go_facts m (λ_=>[]) (λ_ s=>s) (λ_ _=>rfl) (uD (sl k) s) [];rw[(km _ _).1]at a1 a2 a4;obtain⟨c1,c2,c3,c4⟩:=go_facts r sl g hb ((MkS.uw m (λ_ s=>s) (uD (sl k) s) []).1.put 11 0 [] [0]) (ls++[(MkS.uw m (λ_ s=>s) (uD (sl k) s) []).1.code.length]);rw[xy,zy]at c1 c2 c4;simp only[zY,yG]at c1 c2 c4;refine⟨J,λe he=>?_,λe he=>c3 e (yex _ he),λi hi hp=>?_⟩
  .rcases c2 e he with q|q
   .rw[zS,zG]at q;rcases q with q|rfl
    .exact .inl q
    .exact .inr ⟨J,J⟩
   .exact .inr ⟨J,q.2⟩
  .rw[c4 i J hp,zi J,a4 i hi (λ_ _ q=>kG),YY _ _ _ (λp h=>hp k p h)]
where
 go_join {n:Nat} {s s':MkS} {ls:List Nat} {r:MkS×List Nat} {sl:Wd->List (Nat×Nat)} (h1:s.code.length<=s'.code.length) (h2:∀i,i<s.code.length->s'.code[i]? = s.code[i]?)
   (h:s'.code.length<=r.1.code.length/\(∀e∈r.2,e∈ls\/s'.code.length<=e/\e<r.1.code.length)/\(∀e∈ls,e∈r.2)/\∀i,i<s'.code.length->(∀k,∀p∈sl k,p.1≠i)->r.1.code[i]? = s'.code[i]?) :
   s.code.length<=r.1.code.length/\(∀e∈r.2,e∈ls\/s.code.length<=e/\e<r.1.code.length)/\(∀e∈ls,e∈r.2)/\∀i,i<s.code.length->(∀k,∀p∈sl k,p.1≠i)->r.1.code[i]? = s.code[i]? := by
  obtain⟨a,b,c,d⟩:=h;exact⟨J,λe he=>(b e he).imp id (λq=>⟨J,q.2⟩),c,λi hi hp=>(d i J hp).trans (h2 i hi)⟩
 go_more {s s':MkS} {x:uF} {ls:List Nat} {r:MkS×List Nat} {sl:Wd->List (Nat×Nat)} (hx:s'.code=s.code++[x])
   (h:s'.code.length<=r.1.code.length/\(∀e∈r.2,e∈ls\/s'.code.length<=e/\e<r.1.code.length)/\(∀e∈ls,e∈r.2)/\∀i,i<s'.code.length->(∀k,∀p∈sl k,p.1≠i)->r.1.code[i]? = s'.code[i]?) :
   s.code.length<=r.1.code.length/\(∀e∈r.2,e∈ls\/s.code.length<=e/\e<r.1.code.length)/\(∀e∈ls,e∈r.2)/\∀i,i<s.code.length->(∀k,∀p∈sl k,p.1≠i)->r.1.code[i]? = s.code[i]? :=
  go_join (n:=0) (by rw[hx];simp) (λi hi=>by rw[hx,zi hi]) h
def Fy{P:MkS->Prop}(I:qm P)(l:List (Nat×Nat))(s:MkS)(h:P s):P (uD l s):=MkS.ky P _ (λs p hs=>I.xL s p.1 p.2 hs) l s h
def go_inv{P:MkS->Prop}(I:qm P)(f:Fo){sl:Wd->List (Nat×Nat)}{a:Wd->MkS->MkS}(hb:∀k x,a k x=uD (sl k) x)(s:MkS)(ls:List Nat)(h:P s):P (MkS.uw f a s ls).1 :=
 I.go f a s ls (λk s hs=>by rw[hb];exact Fy I _ _ hs) h
def mT{P:MkS->Prop}(I:qm P)(f:Fo)(s:MkS)(h:P s):P (MkS.Zx f s):=I.go f _ s [] (λ_ _ h=>h) h
def DS(s:MkS):∀(i:Nat) (x:uF),s.code[i]? = some x->∃y,s.code[i]? = some y/\shx y=shx x:=λi x h=>⟨x,h,rfl⟩
def su(f:Fo)(s:MkS):s.code.length<=(MkS.Zx f s).code.length/\∀i,i<s.code.length->(MkS.Zx f s).code[i]? = s.code[i]? := by
 obtain⟨a,_,_,d⟩:=go_facts f (λ_=>[]) (λ_ s=>s) (λ_ _=>rfl) s [];exact⟨a,λi hi=>d i hi (λ_ _ q=>kG)⟩
def yq9(n:Wd)(a:Nat)(o:Wd)(c:Nat)(bs r:Fo)(s:MkS)(hr:r.ya=true) :
  MkS.Zx (.br n a 0 o c bs r) s=MkS.Zx r (uD ((MkS.uw bs (MkS.bO n bs s) (MkS.ki n bs s) []).2.map λi=>(i,0)) (MkS.uw bs (MkS.bO n bs s) (MkS.ki n bs s) []).1):=by
 rw[MkS.Zx,MkS.uw,yK rfl,go_msg r hr,<-bR]
def yqz(n:Wd)(a f:Nat)(o:Wd)(c:Nat)(bs r:Fo)(s:MkS)(hf:f≠0)(hr:r.ya=true) :
  MkS.Zx (.br n a f o c bs r) s=MkS.Zx r ((uD ((MkS.uw bs (MkS.kV n o bs s) (MkS.kU n o f bs s) []).2.map λi=>(i,0)) (MkS.uw bs (MkS.kV n o bs s) (MkS.kU n o f bs s) []).1).put 5 0 [] []):=by
 rw[MkS.Zx,MkS.uw,yv hf,go_msg r hr,<-bR]
def sk(n:Wd)(bs:Fo)(s:MkS):(MkS.ki n bs s).code=s.code++[⟨10,s.pos,0,(MkS.fy n bs s).2,zX (MkS.fy n bs s).2.length 0⟩]:=by
 rw[MkS.ki,xy,(Xz n bs s).1,(Xz n bs s).2]
def CK:∀(f:Fo) (s:MkS) (acc:List (Wd×Nat)),∀p∈(MkS.vX f s acc).2,p∈acc\/p.1.head? = some 61
 |.xi k a m r,s,acc,p,hp=>by
  rw[MkS.vX]at hp;split at hp
  .next b =>
   rcases CK r _ _ p hp with q|q
   .rw[zS,zG]at q;rcases q with q|rfl
    .exact .inl q
    .exact .inr b
   .exact .inr q
  .exact CK r s acc p hp
 |.nil,_,_,_,hp => .inl hp
 |.text _ _,_,_,_,hp => .inl hp
 |.hash _,_,_,_,hp => .inl hp
 |.put _ _ _,_,_,_,hp => .inl hp
 |.num _ _ _,_,_,_,hp => .inl hp
 |.br _ _ _ _ _ _ _,_,_,_,hp => .inl hp
def NI:∀(f:Fo) (s:MkS) (acc:List (Wd×Nat)),(∀p∈acc,p.2<s.code.length)->(∀p∈acc,∀q∈acc,p.2=q.2->p=q)->∀p∈(MkS.vX f s acc).2,∀q∈(MkS.vX f s acc).2,p.2=q.2->p=q
 |.xi k a m r,s,acc,h1,h2=>by
  rw[MkS.vX];split
  .refine NI r _ _ (λp hp=>?_) (λp hp q b e=>?_)
   .rw[xy,zy];rw[zS,zG]at hp;rcases hp with hp|rfl
    .have:=h1 p hp;simp;omega
    .simp
   .rw[zS,zG]at hp b;rcases hp with hp|rfl
    .rcases b with b|rfl
     .exact h2 p hp q b e
     .have:=h1 p hp;simp only at e;omega
    .rcases b with b|rfl
     .have:=h1 q b;simp only at e;omega
     .rfl
  .exact NI r s acc h1 h2
 |.nil,_,_,_,h2=>h2
 |.text _ _,_,_,_,h2=>h2
 |.hash _,_,_,_,h2=>h2
 |.put _ _ _,_,_,_,h2=>h2
 |.num _ _ _,_,_,_,h2=>h2
 |.br _ _ _ _ _ _ _,_,_,_,h2=>h2
section
variable {τ:Type} {E:jY τ} {s:MkS}
def QZ{x y:uF}(h:shx y=shx x):y.op=x.op/\y.pos=x.pos/\y.v=x.v/\y.k=x.k/\y.tg.length=x.tg.length:=by
 simpa[shx]using h
end
section
variable {τ:Type} {E:jY τ}
def mW{s0 s:MkS}(t:Wd)(h:(s0.const t).cs <+: s.cs):s.cs[s0.num t]? = some t:=by
 obtain⟨u,b⟩:=h;have h1:(s0.const t).cs[s0.num t]? = some t:=by
  unfold MkS.const MkS.num;by_cases a:t∈s0.cs
  .rw[yK a];rw[zj (qP a),Gy]
  .rw[yv a];simp only;rw[zr3 a,yp (Y _)];simp
 rw[<-b,zi (zD.1 h1).1];exact h1
def sj{k k':Wd}(h:k∈ks)(b:k'∈ks)(he:MkS.place ks k=MkS.place ks k'):k=k':=by
 unfold MkS.place at he;have a:∀{x},x∈ks->¬x=qf->x∈ks.filter (· ≠ qf):=λhx hn=>uv.2 ⟨hx,by simpa using hn⟩
 split at he
 .next h1 =>
  split at he
  .next h2=>rw[h1,h2]
  .next h2=>have:=qP (a b h2);omega
 .next h1 =>
  split at he
  .next h2=>have:=qP (a h h1);omega
  .next h2 =>
   have c:=Gy (qP (a h h1));have d:=Gy (qP (a b h2));rw[<-c,<-d];congr 1
def zl1(k:Wd):MkS.place ks k<=(ks.filter (· ≠ qf)).length:=by
 unfold MkS.place;split
 .exact Yo
 .exact Ft
end
variable{f:Fo}
def Fo.sh:Fo->Prop
 |.nil=>True
 |.text t r=>t.length<=5000/\r.sh
 |.hash r=>r.sh
 |.put _ _ r=>r.sh
 |.num _ _ r=>r.sh
 |.br _ _ _ _ _ bs r=>bs.sh/\r.sh
 |.xi _ _ m r=>m.sh/\r.sh
def sg(op a b:Nat):Bool :=
 match op with
 | 0=>a==0 && b==0|1=>a==1 && b==0|2=>a==1 && b==0|3=>a==1 && b==0|4=>a==1 && b==0|5=>a==0 && b==0|6=>a==0 && b==0|7=>a==0 && b==1
 | 8=>a==0 && b==6|9=>a==0 && b==6|10=>decide (0<a) && b==a|11=>a==0 && b==1|_=>false
def OkX(N c p:Nat)(x:uF):Prop:=(∀j∈x.k,j<c)/\x.k.length<=N/\x.v<=1000000000/\(∀y∈x.tg,y<=p)/\sg x.op x.k.length x.tg.length=true
def bV(N:Nat)(s:MkS):Prop:=(∀x∈s.code,OkX N s.cs.length s.pos x)/\∀t∈s.cs,t.length<=5000
def OkX.more{N c' a:Nat}{x:uF}(h:OkX N c p x)(hc:c<=c')(hp:p<=a):OkX N c' a x :=
 ⟨λj b=>zC (h.1 j b) hc,h.2.1,h.2.2.1,λy hy=>zg (h.2.2.2.1 y hy) hp,h.2.2.2.2⟩
section
variable {N:Nat} {s:MkS}
def bV.put(h:bV N s)(op v:Nat)(k tg:List Nat)(h1:∀j∈k,j<s.cs.length)(h2:k.length<=N)(a:v<=1000000000)(b:∀y∈tg,y=0)(c:sg op k.length tg.length=true):bV N (s.put op v k tg):=by
 refine⟨λx hx=>?_,h.2⟩;rw[xy,zS,zG]at hx;rcases hx with hx|rfl
 .exact(h.1 x hx).more (Y _) (kY _ _)
 .exact⟨h1,h2,a,λy hy=>by rw[b y hy];exact zJ _,c⟩
def bV.const(h:bV N s)(t:Wd)(b:t.length<=5000):bV N (s.const t):=by
 unfold MkS.const;split
 .exact h
 .refine⟨λx hx=>(h.1 x hx).more zV (Y _),λu a=>?_⟩;simp only[zS,zG]at a;rcases a with a|rfl
  .exact h.2 u a
  .exact b
def bV.xL(h:bV N s)(i j:Nat):bV N (s.xL i j):=by
 refine⟨λx hx=>?_,h.2⟩;obtain⟨n,hn,e⟩:=ja.1 hx;have a:(s.xL i j).code[n]? = some x:=Ls;rw[kz]at a;split at a
 .cases hc:s.code[n]? with
  |none=>rw[hc]at a;cases a
  |some y =>
   rw[hc]at a;cases a;have hy:=h.1 y (ze hc);refine⟨hy.1,hy.2.1,hy.2.2.1,λz b=>?_,by rw[List.length_set];exact hy.2.2.2.2⟩;rcases List.mem_or_eq_of_mem_set b with b|rfl
   .exact hy.2.2.2.1 z b
   .exact Yo
 .exact h.1 x (ze a)
def AW(s:MkS)(t:Wd):s.num t<(s.const t).cs.length:=(zD.1 (mW (s0:=s) t (xZ _))).1
def xm1(s:MkS)(t:Wd):s.cs.length<=(s.const t).cs.length:=by unfold MkS.const;split<;>simp
def bV.one(h:bV N s)(op:Nat)(t:Wd)(d:t.length<=5000)(a:sg op 1 0=true)(b:1<=N):bV N (s.one op t) :=
 (h.const t d).put op 0 [s.num t] [] (λj c=>by rw[zG.1 c];exact AW s t) b (zJ _) (λy hy=>by cases hy) a
def bV.vR:∀(f:Fo) (s:MkS) (acc:List Nat),(∀k∈f.keys,k.length<=5000)->bV N s->(∀j∈acc,j<s.cs.length)->acc≠[]->bV N (MkS.vR f s acc).1/\(∀j∈(MkS.vR f s acc).2,j<(MkS.vR f s acc).1.cs.length)/\(MkS.vR f s acc).2≠[]
 |.xi k _ _ r,s,acc,c,h,ha,hn=>by
  rw[MkS.vR];have a:∀k∈r.keys,k.length<=5000:=λx hx=>c x (uj _ hx)
  split
  .exact bV.vR r s acc a h ha hn
  .refine bV.vR r _ _ a (h.const _ (c k (qO ..))) (λj b=>?_) zV;rw[zS,zG]at b;rcases b with b|rfl
   .exact zC (ha j b) (xm1 s k)
   .exact AW s k
 |.nil,_,_,_,h,ha,hn=>⟨h,ha,hn⟩
 |.text _ _,_,_,_,h,ha,hn=>⟨h,ha,hn⟩
 |.hash _,_,_,_,h,ha,hn=>⟨h,ha,hn⟩
 |.put _ _ _,_,_,_,h,ha,hn=>⟨h,ha,hn⟩
 |.num _ _ _,_,_,_,h,ha,hn=>⟨h,ha,hn⟩
 |.br _ _ _ _ _ _ _,_,_,_,h,ha,hn=>⟨h,ha,hn⟩
def bV.vX:∀(f:Fo) (s:MkS) (acc:List (Wd×Nat)),(∀k∈f.keys,k.head? = some 61->yb k.tail<=1000000000)->bV N s->bV N (MkS.vX f s acc).1
 |.xi k _ _ r,s,acc,c,h=>by
  rw[MkS.vX];have a:∀k∈r.keys,k.head? = some 61->yb k.tail<=1000000000:=λx hx=>c x (uj _ hx)
  split
  .rename_i b;exact bV.vX r _ _ a (h.put _ _ _ _ (λj d=>by cases d) (zJ _) (c k (qO ..) b) (λy hy=>zG.1 hy) rfl)
  .exact bV.vX r s acc a h
 |.nil,_,_,_,h=>h
 |.text _ _,_,_,_,h=>h
 |.hash _,_,_,_,h=>h
 |.put _ _ _,_,_,_,h=>h
 |.num _ _ _,_,_,_,h=>h
 |.br _ _ _ _ _ _ _,_,_,_,h=>h
def bV.plu(n o:Wd)(bs:Fo)(s0:MkS)(k:Wd)(h:bV N s):bV N (MkS.kV n o bs s0 k s):=by
 unfold MkS.kV;split
 .exact h.xL _ _
 .exact MkS.ky (bV N) _ (λs c h=>by split;exact h.xL _ _;exact h) _ _ h
def bV.uD(h:bV N s)(l:List Nat):bV N (l.foldl (λs i=>MkS.xL s i 0) s):=MkS.ky (bV N) _ (λ_ _ h=>h.xL _ _) _ _ h
def bV.go(b:20<=N):∀(f:Fo) (a:Wd->MkS->MkS) (s:MkS) (ls:List Nat),(∀k s,bV N s->bV N (a k s))->f.YD->f.sh->f.cw<=N->bV N s->bV N (MkS.uw f a s ls).1
 |.nil,_,_,_,_,_,_,_,h=>h
 |.text t r,a,s,ls,hb,hc,hs,hw,h=>bV.go b r a _ ls hb hc.2 hs.2 MF (h.one _ _ hs.1 rfl J)
 |.hash r,a,s,ls,hb,hc,hs,hw,h=>bV.go b r a _ ls hb hc hs MF (h.put _ _ _ _ (λj hj=>by cases hj) (zJ _) (zJ _) (λy hy=>by cases hy) rfl)
 |.put n _ r,a,s,ls,hb,hc,hs,hw,h=>bV.go b r a _ ls hb hc.2 hs MF (h.one _ _ (by have:=hc.1;omega) rfl J)
 |.num n _ r,a,s,ls,hb,hc,hs,hw,h=>bV.go b r a _ ls hb hc.2 hs MF (h.one _ _ (by have:=hc.1;omega) rfl J)
 |.br n _ f o _ bs r,a,s,ls,hb,hc,hs,hw,h=>by
  obtain⟨c1,c2,c3,c4,c5,c6,c7,e⟩:=hc;have hw':=hw;simp only[Fo.cw]at hw;have hn:n.length<=5000:=J;have l:=Fo.Xe bs;rw[MkS.uw];split
  .obtain⟨a1,a2,a3⟩:=bV.vR bs (s.const n) [s.num n] (λk d=>by have:=(c6 k d).1;omega) (h.const n hn) (λj hj=>zdk) zV;have p:=(MkS.JG bs (s.const n) [s.num n]).2.2.1;refine bV.go b r a _ ls hb e hs.2 J (bV.uD (bV.go b bs _ _ _ (λk x hx=>hx.xL _ _) c7 hs.1 J ?_) _);exact a1.put _ _ _ _ a2 (by rw[kX]at p;simp only[MkS.fy];omega) (zJ _) (λy hy=>(zzb.1 hy).2) (by rw[fL];simp only[MkS.fy,sg,beq_self_eq_true,zzj,decide_eq_true_eq];exact decide_eq_true (zt.2 a3))
  .rename_i hf;refine bV.go b r a _ ls hb e hs.2 J (bV.put (bV.uD (bV.go b bs _ _ _ (λk x hx=>hx.plu n o bs s k) c7 hs.1 J ?_) _) _ _ _ _ (λj hj=>by cases hj) (zJ _) (zJ _) (λy hy=>by cases hy) rfl);refine bV.put (bV.vX bs _ _ (λk d c=>?_) ((h.const n hn).put _ _ _ _ (λj hj=>zdk) yF J (λy hy=>by cases hy) rfl)) _ _ _ _ (λj hj=>by cases hj) (zJ _) (zJ _) (λy hy=>(zzb.1 hy).2) (by split<;>rfl);obtain⟨-,g,i⟩:=(c6 k d).2 hf c;have h1:=JC _ i;have h2:10 ^ k.tail.length<=10 ^ 9:=Nat.pow_le_pow_right J g;omega
 |.xi k _ m r,a,s,ls,hb,hc,hs,hw,h=>by
  simp only[Fo.cw]at hw;exact bV.go b r a _ _ hb hc.2.2 hs.2 J (bV.put (bV.go b m _ _ _ (λ_ _ h=>h) hc.2.1 hs.1 J (hb k s h)) _ _ _ _ (λj hj=>by cases hj) (zJ _) (zJ _) (λy hy=>zG.1 hy) rfl)
end
def Fx(hc:f.YD)(hs:f.sh):bV (f.cw+20) (MkS.all f) :=
 bV.put (bV.go (N:=f.cw+20) J f _ _ [] (λ_ _ h=>h) hc hs J ⟨λx hx=>(by cases hx),λt b=>(by cases b)⟩) _ _ _ _ (λj a=>by cases a) (zJ _) (zJ _) (λy hy=>by cases hy) rfl
def NL(f:Fo):(MkS.all f).sz<=f.cw+3:=by
 have h:=(aB f MkS.start).2;have h1:(xE ⟨0,(MkS.Zx f MkS.start).pos,0,[],[]⟩).length=1:=xG;rw[show MkS.start.sz=0 from rfl]at h;rw[MkS.all,gh,h1];omega
def ml{x:uF}{N:Nat}(h:OkX N c p x):(x.op=7->0<x.tg.length)/\(x.op=10->x.k≠[]/\x.tg.length=x.k.length)/\x.op<12/\okB (uA x.op) x.k.length x.tg.length=true:=by
 obtain⟨-,-,-,-,h⟩:=h;obtain⟨op,pos,v,k,tg⟩:=x;dsimp only at h|-;unfold sg at h;split at h<;>simp only[zv,beq_iff_eq,decide_eq_true_eq,reduceCtorEq]at h
 all_goals refine⟨J,λq=>?_,J,?_⟩
 all_goals first|omega|skip
 all_goals first|(rw[h.1,h.2];rfl)|skip
 .exact⟨λe=>by rw[e]at h;exact qV _ h.1,h.2⟩
 .rw[h.2];simp only[uA,okB];simp;omega
def S1(hc:f.YD)(hs:f.sh)(hw:f.cw<=90000):zid (MkS.all f)/\(MkS.all f).code.length<=100000/\(MkS.all f).cs.length<=1000000/\(∀t∈(MkS.all f).cs,t.length<=5000)/\∀x∈(MkS.all f).code,x.v<=1000000000/\∀y∈x.tg,y<=4000000000:=by
 obtain⟨h1,h2⟩:=Fx hc hs;have e:=NL f;simp only[MkS.sz]at e;refine⟨λx hx=>⟨(ml (h1 x hx)).1,λb=>?_⟩,J,J,h2,λx hx=>⟨(h1 x hx).2.2.1,λy hy=>by have:=(h1 x hx).2.2.2.1 y hy;omega⟩⟩;obtain⟨a1,a2,-⟩:=h1 x hx;obtain⟨b1,b2⟩:=(ml (h1 x hx)).2.1 b;refine⟨J,zm.2 λj d=>decide_eq_true (a1 j (xh d)),?_⟩;cases c:x.k with
 |nil=>exact absurd c b1
 |cons a l=>rw[c]at b2;simp only[TU,zY]at b2|-;omega
def yqy(hc:f.YD)(hs:f.sh)(hw:f.cw<=90000):∀x∈(MkS.all f).code,IE x:=λx hx=>by
 have c:=NL f;simp only[MkS.sz]at c;have h:=(Fx hc hs).1 x hx;obtain⟨-,-,b3,a⟩:=ml h;exact⟨b3,by have:=h.2.2.1;omega,λj b=>by have:=h.1 j b;omega,λy hy=>by have:=h.2.2.2.1 y hy;omega,by have:=h.2.1;omega,a⟩
variable{r:Nat}{F:Nat->Prop}
abbrev CJ(x:Wd×Bool):zx := .agg #[zO x.1,.bool x.2]
def VP(x:Wd×Bool):ib Unit := .agg [.lit (.string x.1),.lit (.bool x.2)]
def zl2:zx->Option (ib Unit×List MemPlace)
 |.agg a=>match a.toList with
  |[.string s,.bool x]=>if s.size<=5000000 then some (VP (s.data.toList,x),[])else none
  |_=>none
 |_=>none
def NM(x:Wd×Bool)(h:x.1.length<=5000000):zl2 (CJ x)=some (VP x,[]):=by
 show(if (vD x.1.toArray).size<=5000000 then some (VP ((vD x.1.toArray).data.toList,x.2),[])else none)=_;rw[size_mk,toList_mk,yK h]
def CG{y:ib Unit×List MemPlace}(h:zl2 v=some y):∃x:Wd×Bool,v=CJ x/\y=(VP x,[])/\x.1.length<=5000000:=by
 unfold zl2 at h;split at h
 .next a =>
  split at h
  .next s x ha =>
   split at h
   .next hs =>
    cases h;refine⟨(s.data.toList,x),?_,rfl,hs⟩;have b:a=#[.string s,.bool x]:=xu2.1 ha;rw[b]
   .cases h
  .cases h
 .cases h
def CF{x y:Wd×Bool}(h:VP x=VP y):x=y:=by
 obtain⟨a,b⟩:=x;obtain⟨c,d⟩:=y;simp only[VP,DataW.agg.injEq,List.cons.injEq,EW,vz7,Lit.bool.injEq,and_true]at h;rw[h.1,h.2]
def fk(w:z8)(b n z:Nat)(f:Wd->Option (Wd×Bool)):Prop :=
 ∃D:ib Unit,w.ownsMap Tryz.prog 9 zl2 b n D/\Maps.size D=z/\∀m:Wd,Maps.has D (.string m)=(f m).isSome/\D.atKey (.string m) (VP ([],false))=VP ((f m).getD ([],false))
section
variable {w:z8} {b n z:Nat} {f:Wd->Option (Wd×Bool)}
def fk.lt(h:fk w b n z f):b<(w:Nat):=iL
def fk.keep(h:fk w b n z f)(hb:w'.heap[b]? = w.heap[b]?):fk w' b n z f:=zx3
def fk.fr(h:fk w b n z f)(hf:Fr F F' w w')(hb:¬F b):fk w' b n z f:=h.keep (hf.keep b h.lt hb)
def fk.made(w:z8):fk (w.alloc (.map #[] 0)) (w:Nat) 0 0 (λ_=>none):=⟨.map [],Hh w _ _ _,rfl,λm=>⟨rfl,rfl⟩⟩
def fk.len(h:fk w b n z f)(ty:xM):(yfv #[61] ty #[.map (some b)]).run Tryz.prog w = .ok (z:Nat) w:=by
 obtain⟨D,h1,rfl,_⟩:=h;exact h1.len underlying61 ty
def fk.look(h:fk w b n z f)(m:Wd)(hm:m.length<=5000000) :
  (Jr 61 (.map (some b)) (zO m) true).run Tryz.prog w = .ok (.tuple #[CJ ((f m).getD ([],false)),.bool (f m).isSome]) w:=by
 obtain⟨D,h1,-,e⟩:=h;obtain⟨v,ps,a,hv⟩:=h1.look_ok (xf underlying9) underlying61 (z:=CJ ([],false)) K1 (zd:=VP ([],false)) (zp:=[]) (NM _ zV)
  (key:=zO m) (yT (s:=⟨m.toArray⟩) underlying9 Vi)
 rw[toList_mk]at a hv;rw[(e m).1]at a;obtain⟨x,c,d,-⟩:=CG hv;have he:D.atKey (.string m) (VP ([],false))=VP x:=congrArg Prod.fst d;rw[(e m).2]at he;rw[a,c,CF he]
def fk.put(h:fk w b n z f)(m:Wd)(hm:m.length<=5000000)(x:Wd×Bool)(hx:x.1.length<=5000000)(hn:n<=1000000000) :
  ∃w',(TJ 61 (.map (some b)) (zO m) (CJ x)).run Tryz.prog w = .ok () w'/\fk w' b (n+1) (if (f m).isSome then z else z+1) (λk=>if m=k then some x else f k)/\w.grownBy w' (some b):=by
 obtain⟨D,h1,h2,h3⟩:=h;have hi:=h1.isMap;have d:=h1.tidy (xf underlying9);obtain⟨w',c,a,e⟩:=h1.update (xf underlying9) underlying61 dS (key:=zO m) (yT (s:=⟨m.toArray⟩) underlying9 Vi) (NM x hx);rw[toList_mk]at a;refine⟨w',c,⟨_,a,?_,λk=>?_⟩,e⟩
 .rw[Maps.size_put d,(h3 m).1,h2]
 .by_cases hx:m=k
  .exact yb2
  .simp only[hx,↓reduceIte];have gN:(Lit.string k) ≠ .string m:=λq=>hx (by cases q;rfl)
   exact⟨zk0,by rw[dc gN];exact(h3 k).2⟩
def CD(w:z8)(b r n:Nat)(f:Wd->Option (Wd×Bool))(left:Wd->Bool)(cnt:Nat):Prop :=
 ∃(D:ib Unit) (l:Lit->Bool),w.ranges Tryz.prog 9 zl2 b r n D l cnt/\(∀m,l (.string m)=left m)/\(∀k,l k=true->∃m,k = .string m)/\∀m:Wd,(left m=true->(f m).isSome)/\D.atKey (.string m) (VP ([],false))=VP ((f m).getD ([],false))
def CD.left_eq{cnt:Nat}{left:Wd->Bool}(h:CD w b r n f left cnt):w.rangeLeft b r=cnt:=by
 obtain⟨D,l,h1,-⟩:=h;exact h1.left_eq
def CD.fr{cnt:Nat}{left:Wd->Bool}(h:CD w b r n f left cnt)(hf:Fr F F' w w')(hb:¬F b)(hr:¬F r):CD w' b r n f left cnt:=by
 obtain⟨D,l,h1,h2⟩:=h;have e:=h1.owns.lt;have g:=h1.lt;obtain⟨es,a,since,xC,c0,a1,a2,a3,a4,c,d⟩:=h1;exact⟨D,l,⟨es,a,since,xC,c0,(hf.keep b e hb).trans a1,a2,a3,a4,(hf.keep r g hr).trans c,d⟩,h2⟩
def CD.next{cnt:Nat}{left:Wd->Bool}(h:CD w b r n f left cnt)(ty:xM) :
  (cnt=0/\(∀m,left m=false)/\(I0 (r,0) false ty).run Tryz.prog w = .ok (.tuple #[.bool false]) w) \/
  ∃m x w' a,left m=true/\f m=some x/\(I0 (r,0) false ty).run Tryz.prog w = .ok (.tuple #[.bool true,zO m,CJ x]) w' /\
   CD w' b r n f (λk=>left k && !decide (k=m)) a/\a<cnt/\w.grownBy w' (some r)/\(w':Nat)=(w:Nat)/\(Instr.entry (r,0)).run Tryz.prog w' = .ok (.tuple #[zO m,CJ x]) w':=by
 obtain⟨D,l,h1,h2,s,j⟩:=h;rcases h1.next (xf underlying9) ty with⟨a1,a2,a3⟩|⟨key,v,E,y,w',a,a1,a2,a3,a4,u,z,A,B,C,i⟩
 .exact .inl ⟨a1,λm=>by rw[<-h2];exact a2 _,a3⟩
 .obtain⟨m,rfl⟩:=s E a2;have t:left m=true:=by rw[<-h2];exact a2
  obtain⟨hs,o⟩:=j m;obtain⟨x,rfl,rfl,hx⟩:=CG a3;have e:=a4 (VP ([],false));rw[o]at e;have e':=CF e;have p:f m=some x:=by
   have:=hs t;cases hf:f m with
   |none=>rw[hf]at this;cases this
   |some q=>rw[hf]at e';simp at e';rw[e']
  have g:key=zO m:=by
   cases key<;>simp[keyOf,underlying9,mapKey]at a1;obtain⟨-,e⟩:=a1;rw[<-e]
  subst g;refine .inr ⟨m,x,w',a,t,p,u,⟨D,_,z,λk=>?_,λk d=>s k (by simp only[zv]at d;exact d.1),λk=>⟨λd=>(j k).1 (by simp only[zv]at d;exact d.1),(j k).2⟩⟩,A,B,C,i⟩;simp only[h2];congr 1;by_cases c:k=m
  .subst c;simp[Lit.sameKey]
  .have:(Lit.string k).sameKey (.string m)=false:=Maps.sameKey_ne (λq=>c (by cases q;rfl));simp[this,c]
def fk.range(h:fk w b n z f):∃w',(Instr.range 61 (.map (some b))).run Tryz.prog w = .ok (w,0) w'/\CD w' b (w:Nat) n f (λm=>(f m).isSome) z/\w.grownBy w' none/\w'.heap.size=(w:Nat)+1:=by
 obtain⟨D,h1,h2,e⟩:=h;obtain⟨w',c,r1,r2,l⟩:=h1.range (xf underlying9) underlying61;rw[h2]at r1;refine⟨w',c,⟨D,_,r1,λm=>(e m).1,λk j=>?_,λm=>⟨id,(e m).2⟩⟩,r2,l⟩;obtain⟨es,d,since,xC,c0,a1,a2,a3,a4,o,p,q,r,i,g⟩:=r1;obtain⟨x,hx,rfl⟩:=i k j;obtain⟨y,hy⟩:=a2.reads x hx;have a:=vq7 hy;rw[vq8 hy];generalize x.key=key at a;cases key<;>simp[keyOf,underlying9,mapKey]at a;exact⟨_,a.2.symm⟩
end
abbrev zl3(c:Nat):zx := .func (.func 63) #[] #[(c,0)]
def yqx(b c n z:Nat)(f:Wd->Option (Wd×Bool))(_:Unit)(w:z8):Prop:=fk w b n z f/\zk w c 0 (.map (some b))/\∀m x,f m=some x->x.1.length<=1000000
def xz7(f:Wd->Option (Wd×Bool))(n:Wd)(u:Unit):yru×Unit:=(match f n with|none => .no|some (t,num) => .val t num,u)
def sf(E:jY Unit)(f:Wd->Option (Wd×Bool)):jY Unit:=⟨E.wr,E.sort,xz7 f⟩
def S2{b z:Nat}{f:Wd->Option (Wd×Bool)}(h:fk w b n z f)(hc:zk w c 0 (.map (some b)))(m:Wd)(hm:m.length<=5000000) :
  zE Tryz.prog 63 #[zO m,(c,0)] w λe w'=>e = .returned (.tuple #[CJ ((f m).getD ([],false)),.bool (f m).isSome])/\Fr yH yH w w':=by
 have d:=λo=>(h.fr ((Fr.refl yH w).alloc o) id).look m hm
 have a:=λo=>yu hc o
 clear h hc;go_enter func63,ntmps63;go_wp2;refine yU (v := .tuple #[CJ ((f m).getD ([],false)),.bool (f m).isSome]) ?_ rfl ?_
 .simp[yN,results63,go_sem]
 .exact⟨rfl,((Fr.refl yH w).alloc _).alloc _⟩
def S3(E:jY Unit)(b c n z:Nat)(f:Wd->Option (Wd×Bool)):NJ (zl3 c) (sf E f) (λ_=>yH) (λ_ k=>k=b\/k=c) (yqx b c n z f):=by
 refine⟨⟨63,#[(c,0)],rfl,λargs w=>xG,λW s m hi hm=>?_⟩,λ_ _ q=>q.elim,λs W k hi a=>?_,λs W W' hi hs a=>?_⟩
 .refine(S2 hi.1 hi.2.1 m hm).mono ?_;rintro e w' ⟨rfl,hf⟩;refine⟨?_,⟨hi.1.fr hf id,hf.cell hi.2.1 id,hi.2.2⟩,hf,λk a => .inl a⟩;show yrd (xz7 f m s).1 _;unfold xz7;cases d:f m with
  |none=>exact⟨_,_,rfl⟩
  |some x=>exact⟨hi.2.2 m x d,rfl⟩
 .rcases a with rfl|rfl
  .exact hi.1.lt
  .exact X _ _ hi.2.1
 .exact⟨hi.1.keep (a b (.inl rfl)),(yD (a c (.inr rfl))).trans hi.2.1,hi.2.2⟩
variable{j:Nat}{msg:Option jJ}{x:Wd}
def Ha:Nat->Wd->Bool
 |_,[]=>true
 |i,c::t=>(qK (c.toNat:Int) ||(!decide (i=0) && vN (c.toNat:Int))) && Ha (i+1) t
def kK(s:Wd):Bool:=Ha 0 s && (decide (0<s.length) && decide (s.length<=16))
def NmW(n:Wd):Prop:=n.length<=16/\kK n=true
def zl4(num:Bool)(k:Wd):Prop:=k.length<=17/\(num=true->k.head? = some 61->EqW k)
def Fo.fit:Fo->Prop
 |.nil=>True
 |.text _ r=>r.fit
 |.hash r=>r.fit
 |.put n _ r=>NmW n/\r.fit
 |.num n _ r=>NmW n/\r.fit
 |.br n _ f o _ bs r=>NmW n/\f<3/\yb o<=999999999/\(∀k∈bs.keys,zl4 (decide (f≠0)) k)/\bs.fit/\r.fit
 |.xi _ _ m r=>m.fit/\r.fit
def Fo.uC:Fo->Nat
 |.nil=>0
 |.text t r=>t.length+5+r.uC
 |.hash r=>5+r.uC
 |.put _ _ r=>24+r.uC
 |.num _ _ r=>24+r.uC
 |.br _ _ _ _ _ bs r=>40+bs.uC+r.uC
 |.xi _ _ m r=>28+m.uC+r.uC
def Fo.once:Fo->Prop
 |.nil=>True
 |.text _ r=>r.once
 |.hash r=>r.once
 |.put _ _ r=>r.once
 |.num _ _ r=>r.once
 |.br _ _ _ _ _ bs r=>bs.keys.Nodup/\bs.once/\r.once
 |.xi _ _ m r=>m.once/\r.once
def Fo.Q7:∀f:Fo,f.cw<=f.uC
 |.nil=>Y _
 |.text t r=>iR
 |.hash r=>iR
 |.put n a r=>iR
 |.num n a r=>iR
 |.br n a f o c b r=>by have:=Fo.Q7 b;have:=Fo.Q7 r;simp only[Fo.cw,Fo.uC];omega
 |.xi k a m r=>by have:=Fo.Q7 m;have:=Fo.Q7 r;simp only[Fo.cw,Fo.uC];omega
def Fo.Yg:∀f:Fo,f.fit->f.wf 2000000=true->f.uC<=5000000->f.once->f.YD
 |.nil,_,_,_,_=>trivial
 |.text t r,h,w,m,o=>by simp only[Fo.uC]at m;exact⟨J,Fo.Yg r h w J o⟩
 |.hash r,h,w,m,o=>by simp only[Fo.uC]at m;exact Fo.Yg r h w J o
 |.put n a r,h,w,m,o=>zju
 |.num n a r,h,w,m,o=>zju
 |.br n a f of c b r,h,w,m,o=>by
  simp only[Fo.uC]at m;simp only[Fo.wf,zv]at w;obtain⟨h1,h2,i,d,j,l⟩:=h;refine⟨h1.1,h2,i,w.1.1.1.2,o.1,λk e=>⟨(d k e).1,λhf=>(d k e).2 MA⟩,Fo.Yg b j w.1.2 J o.2.1,Fo.Yg r l w.2 J o.2.2⟩
 |.xi k a g r,h,w,m,o=>by
  simp only[Fo.uC]at m;simp only[Fo.wf,zv]at w;exact⟨w.1.1.1.2,Fo.Yg g h.1 w.1.2 J o.1,Fo.Yg r h.2 w.2 J o.2⟩
def Fo.ft:∀f g:Fo,f.fit->g.fit->(f.app g).fit
 |.nil,g,_,h=>h
 |.text t r,g,h,h2=>Fo.ft r g h h2
 |.hash r,g,h,h2=>Fo.ft r g h h2
 |.put n a r,g,h,h2=>⟨h.1,Fo.ft r g h.2 h2⟩
 |.num n a r,g,h,h2=>⟨h.1,Fo.ft r g h.2 h2⟩
 |.br n a f o c b r,g,h,h2=>⟨h.1,h.2.1,h.2.2.1,h.2.2.2.1,h.2.2.2.2.1,Fo.ft r g h.2.2.2.2.2 h2⟩
 |.xi k a m r,g,h,h2=>⟨h.1,Fo.ft r g h.2 h2⟩
def Fo.ZO:∀f g:Fo,(f.app g).uC=f.uC+g.uC
 |.nil,g=>by simp[Fo.app,Fo.uC]
 |.text t r,g=>I9
 |.hash r,g=>I9
 |.put n a r,g=>I9
 |.num n a r,g=>I9
 |.br n a f o c b r,g=>I9
 |.xi k a m r,g=>I9
def Fo.CB:∀f g:Fo,f.xm=true->(f.app g).keys=f.keys++g.keys
 |.nil,g,_=>rfl
 |.xi k a m r,g,h=>by
  show k::(r.app g).keys=_;rw[Fo.CB r g h];rfl
def Xs:∀(f g:Fo),(f.app g).fit->f.fit
 |.nil,g,_=>trivial
 |.text t r,g,h=>Xs r g h
 |.hash r,g,h=>Xs r g h
 |.put n a r,g,h=>⟨h.1,Xs r g h.2⟩
 |.num n a r,g,h=>⟨h.1,Xs r g h.2⟩
 |.br n a f o c b r,g,h=>⟨h.1,h.2.1,h.2.2.1,h.2.2.2.1,h.2.2.2.2.1,Xs r g h.2.2.2.2.2⟩
 |.xi k a m r,g,h=>⟨h.1,Xs r g h.2⟩
def Fo.S4(h:f.fit)(t:Wd):(f.yn t).fit/\(f.yn t).uC<=f.uC+t.length+5:=by
 cases a:f.xD with
 |none =>
  rw[qv f t a];exact⟨Fo.ft _ _ h trivial,by rw[Fo.ZO];simp only[Fo.uC];omega⟩
 |some s =>
  obtain⟨pre,h1,h2,b⟩:=vo f s a;rw[h1]at h;rw[b];refine⟨Fo.ft _ _ (Xs _ _ h) trivial,?_⟩;rw[Fo.ZO,show f.uC=(pre.app (.text s .nil)).uC from congrArg _ h1,Fo.ZO];simp only[Fo.uC,zy];omega
def yqv(b:Nat):∀(f:Fo) (xC:List Wd) (acc:List (Nat×Nat)),K6 b xC acc f=[]->acc=[]/\(∀k∈f.keys,k ∉ xC)/\f.keys.Nodup:=by
 have hn:∀(f:Fo) (xC:List Wd) (acc:List (Nat×Nat)),(if Bo∈xC then acc else acc++[(6,b)])=[]->acc=[]:=λf xC acc h=>by
  split at h
  .exact h
  .simp at h
 intro f;induction f with
 |xi k a m r _ d =>
  intro xC acc h;rw[K6]at h;obtain⟨h1,h2,c⟩:=d _ _ h;split at h1
  .simp at h1
  next hk =>
  refine⟨h1,λx hx=>?_,?_⟩
  .rcases yV.1 hx with rfl|hx
   .exact hk
   .exact λq=>h2 x hx (uj _ q)
  .exact Yu.2 ⟨λq=>h2 k q qO,c⟩
 |nil=>intro xC acc h;exact⟨hn .nil xC acc h,(λk hk=>YK),bo⟩
 |text _ _ _=>intro xC acc h;exact⟨hn .nil xC acc h,(λk hk=>YK),bo⟩
 |hash _ _=>intro xC acc h;exact⟨hn .nil xC acc h,(λk hk=>YK),bo⟩
 |put _ _ _ _=>intro xC acc h;exact⟨hn .nil xC acc h,(λk hk=>YK),bo⟩
 |num _ _ _ _=>intro xC acc h;exact⟨hn .nil xC acc h,(λk hk=>YK),bo⟩
 |br _ _ _ _ _ _ _ _ _=>intro xC acc h;exact⟨hn .nil xC acc h,(λk hk=>YK),bo⟩
def Xy{s:KP}{n:Wd}{a:Nat}(h:(uV s n a k).2=[]):s.2=[]:=by
 unfold uV at h;split at h
 .simp at h
 .split at h<;>exact h
def jr:∀(f:Fo) (s s':KP),vg gB f s = .go true s'->s'.2=[]->s.2=[]/\f.once
 |.nil,s,s',h,e=>by
  cases h;exact⟨e,trivial⟩
 |.text _ r,s,s',h,e=>jr r s s' h e
 |.hash r,s,s',h,e=>jr r s s' h e
 |.put n a r,s,s',h,e=>by
  obtain⟨h1,h2⟩:=jr r (uV s n a 0) s' h e;exact⟨Xy h1,h2⟩
 |.num n a r,s,s',h,e=>by
  obtain⟨h1,h2⟩:=jr r (uV s n a 1) s' h e;exact⟨Xy h1,h2⟩
 |.br n a f o c bs r,s,s',h,e=>by
  obtain⟨b,h1⟩:∃b:KP,((uV s n a (jH (.br n a f o c bs .nil))).1,(uV s n a (jH (.br n a f o c bs .nil))).2++K6 c [] [] bs)=b:=⟨_,rfl⟩;have h2:(vg gB bs b).then (λs=>vg gB r s) = .go true s':=by rw[<-h1];exact h
  obtain⟨p,l⟩:=jk bs b;rw[l]at h2;obtain⟨g,i⟩:=jr r p s' h2 e;obtain⟨d,j⟩:=jr bs b p l g;rw[<-h1]at d;obtain⟨q,t⟩:=xvj.1 d;exact⟨Xy q,(yqv c bs _ _ t).2.2,j,i⟩
 |.xi k a m r,s,s',h,e=>by
  obtain⟨b,h1⟩:=jk m s;have h2:(vg gB m s).then (λs=>vg gB r s) = .go true s':=h;rw[h1]at h2;obtain⟨g,i⟩:=jr r b s' h2 e;obtain⟨d,j⟩:=jr m s b h1 g;exact⟨d,j,i⟩
def S5(h:fD f=none):f.once:=by
 obtain⟨s,hs⟩:=jk f ((λ_=>none),[]);have e:gO f=s.2:=Ws;unfold fD at h;refine(jr f _ s hs ?_).2;exact zu9
def S6{l:Wd}(h:l.length<=9)(hd:l.all yC=true):yb l<=999999999:=zgf
def yqu:∀k:Fin 128,(enc (k.val:Int)).length=1:=zW
def Iw:∀(l:List Int),(∀r∈l,0<=r/\r<128)->(l.flatMap enc).length=l.length
 |[],_=>rfl
 |r::t,h=>by
  have h1:=h r zV;have h2:=yqu ⟨r.toNat,J⟩;rw[show(((⟨r.toNat,J⟩:Fin 128).val:Nat):Int)=r by show((r.toNat:Nat):Int)=r;omega]at h2;rw[zh,zy,h2,Iw t (λq a=>h q (by simp[a]))];simp;omega
def cO(l:List Int):(l.flatMap enc).length<=4*l.length:=zyu
def CC:∀(n:Nat) (l:List Int),l.length<=n->(xg l).1.length<=(xg l).2
 | 0,l,h=>zfd
 |n+1,[],h=>Au
 |n+1,c::t,h=>by
  rw[xg.eq_def];simp only;split
  .split
   .simp
   .next d u =>
    split
    .have:=CC n u GV;simp;omega
    .simp
  .have:=CC n t GV;simp;omega
def L5(rs:List Int)(num:Bool)(i:Nat):(qq rs num i).1.length+4*i<=4*(qq rs num i).2:=by
 unfold qq;split
 .exact zvd
 split
 .exact zq8
 split
 .exact zq9
 .have h1:=cO (xg (rs.drop (i+1))).1;have h2:=CC _ (rs.drop (i+1)) (Y _);exact zv8
def CE(m:jJ):Prop:=∀num i f j,m num i = .ok (f,j)->f.fit/\f.uC+44*i<=44*j
section
variable {rs:List Int}
def zl5:∀k:Fin 128,enc (k.val:Int)=[uZ k.val]:=zW
def Fa:∀(l:List Int) (k:Nat),(∀j (h:j<l.length),(0<=l[j]/\l[j]<128)/\(qK l[j] ||(decide (0<k+j) && vN l[j]))=true)->Ha k (l.flatMap enc)=true
 |[],_,_=>rfl
 |r::l,k,h=>by
  obtain⟨⟨h1,h2⟩,a⟩:=h 0 zV;simp only[List.getElem_cons_zero,EK]at h1 h2 a;have he:=zl5 ⟨r.toNat,J⟩;have hr:((r.toNat:Nat):Int)=r:=J;dsimp only at he;rw[hr]at he;have hb:(uZ r.toNat).toNat=r.toNat:=B7;rw[zh,he];simp only[xd,xV,Ha,hb,hr];rw[Fa l (k+1) (λj c=>by
   have:=h (j+1) yF;simpa[uR,Nat.add_comm 1 j]using this)]
  have b:(!decide (k=0))=decide (0<k):=by rw[xA];simp;omega
  rw[b,a];rfl
def JN(h:kS rs i = .ok (x,j)):NmW x/\i<j:=by
 refine⟨?_,jo h⟩;unfold kS at h;split at h
 .cases h
 next hn =>
 cases h;obtain⟨n,hN⟩:=zw (ku rs i);have d:∀k,k<n->jw (yz rs (i+k)) k=true:=λk hk=>Qq (F:=jw) (rs:=rs) (i:=i) (k:=k) zuz
 have hf:∀k,k<n->k<16/\0<=yz rs (i+k)/\yz rs (i+k)<128:=λk hk=>by
  have:=Qq (F:=jw) (rs:=rs) (i:=i) (k:=k) zuz;simp only[jw,qK,vN,zv,vW,decide_eq_true_eq,beq_iff_eq]at this;omega
 rw[hN]at hn|-;have g:n<=16:=by
  have:=(hf (n - 1) J).1;omega
 have AJ:∀k,k<n->i+k<rs.length:=λk hk=>by
  refine Nat.lt_of_not_le (λf=>?_);have:=(hf k hk).2.1;rw[kP f]at this;omega
 have a:∀r∈(rs.drop i).take n,0<=r/\r<128:=λr hr=>zgb
 have h1:=Iw _ a;have h2:((rs.drop i).take n).length<=n:=by rw[u4];exact Nat.min_le_left _ _
 have l:((rs.drop i).take n).length=n:=by
  rw[u4,yr];have:=AJ (n - 1) J;omega
 have m:Ha 0 (((rs.drop i).take n).flatMap enc)=true:=Fa _ 0 λj b=>by
  rw[l]at b;have e:((rs.drop i).take n)[j]' J=yz rs (i+j):=by
   rw[ME (AJ j b)];simp
  rw[e];have c:=d j b;unfold jw at c;simp only[zv]at c;exact⟨(hf j b).2,by simpa using c.2⟩
 unfold um;refine⟨J,?_⟩;unfold kK;rw[m,decide_eq_true (by omega:0<_),decide_eq_true (by omega:_<=16)];rfl
def L6(h:qR rs i = .ok (x,j)):x.length<=9/\x.all yC=true/\x≠[]/\i<j:=by
 have h0:=XS h;unfold qR at h;split at h
 .cases h
 next hn =>
 cases h;obtain⟨h1,h2,a⟩:=FL rs i hn;exact⟨h1,h2,a,h0⟩
def yqq:∀x∈Uy,x.head?≠some 61:=zW
def NN{num:Bool}(h:YJ rs num i = .ok (x,j)):zl4 num x/\i<j:=by
 unfold YJ at h;split at h
 .obtain⟨a,q,h1,h2⟩:=zF h;cases h2;obtain⟨c,b,e,f⟩:=L6 h1;exact⟨⟨yF,λ_ _=>⟨e,c,b⟩⟩,J⟩
 .obtain⟨a,q,h1,h2⟩:=zF h;obtain⟨⟨c,-⟩,b⟩:=JN h1;split at h2
  .cases h2
  .next d =>
   cases h2;refine⟨⟨J,λhn he=>?_⟩,b⟩;exact absurd he (yqq _ (yy λq=>d ⟨hn,q⟩))
def yqk{num:Bool}(hm:∀m,msg=some m->CE m)(h:bM rs msg num i = .ok (f,j)):f.fit/\f.xm=true/\(∀k∈f.keys,zl4 num k)/\f.uC+44*i<=44*j:=by
 unfold bM at h;obtain⟨k,a,h1,h2⟩:=zF h;obtain⟨u,b,l,d⟩:=zF h2;obtain⟨t,v⟩:=NN h1;have w:=(yS l).2;have x:=yl rs a;cases msg with
 |none=>cases d
 |some m =>
  obtain⟨g,c,n,o⟩:=zF (show(m num b).then _=_ from d);obtain⟨u2,z,p,r⟩:=zF o;obtain⟨s,B⟩:=hm m rfl _ _ _ _ n;have y:=(yS p).2;have A:=yl rs z;cases r;refine⟨⟨s,trivial⟩,rfl,λq e=>?_,?_⟩
  .simp only[Fo.keys,zG]at e;subst e;exact t
  .simp only[Fo.uC];omega
def S7{num:Bool}(hm:∀m,msg=some m->CE m):∀(n:Nat) (acc:Fo) (i j:Nat) (f:Fo),qx rs msg num n acc i = .ok (f,j)->acc.fit->acc.xm=true->(∀k∈acc.keys,zl4 num k)->f.fit/\(∀k∈f.keys,zl4 num k)/\f.uC+44*i<=acc.uC+44*j
 | 0,acc,i,j,f,h,_,_,_=>xp
 |n+1,acc,i,j,f,h,ha,hb,hc=>by
  rw[qx]at h;split at h
  .cases h;exact⟨ha,hc,Y _⟩
  .obtain⟨g,q,h1,h2⟩:=zF h;obtain⟨g1,g2,b,c⟩:=yqk hm h1;obtain⟨k1,k2,k3⟩:=S7 hm n _ _ _ _ h2 (Fo.ft _ _ ha g1) (Fo.gi _ _ hb g2) (λk a=>by
    rw[Fo.CB _ _ hb]at a;rcases zS.1 a with a|a
    .exact hc k a
    .exact b k a)
   rw[Fo.ZO]at k3;exact⟨k1,k2,J⟩
def NO{form:Nat}{o:Wd}(h:Uu rs form i = .ok (o,j)):yb o<=999999999/\i<=j:=by
 have h0:=Mr h;refine⟨?_,h0⟩;unfold Uu at h;split at h
 .obtain⟨a,q,h1,h2⟩:=zF h;cases h2;obtain⟨b,c,d,e⟩:=L6 h1;exact S6 b c
 .cases h;decide
def yqj(hm:∀m,msg=some m->CE m)(h:gH rs msg i = .ok (f,j)):f.fit/\f.uC+44*i<=44*j:=by
 unfold gH at h;obtain⟨u,a,h1,h2⟩:=zF h;obtain⟨nm,b,B,n⟩:=zF h2;have E:=(yS h1).2;have F:=yl rs a;obtain⟨hn,G⟩:=JN B;have H:=yl rs b;clear h h1 h2 B;split at n
 .obtain⟨u,z,p,e⟩:=zF n;have:=(yS p).2;cases e;exact⟨⟨hn,trivial⟩,by simp only[Fo.uC];omega⟩
 .obtain⟨N,c,p,e⟩:=zF n;have I:=jo p;have K:=yl rs (xx rs b+1);have L:=yl rs c;clear n p;split at e
  .obtain⟨u,z,x,y⟩:=zF e;have:=(yS x).2;cases y;exact⟨⟨hn,trivial⟩,by simp only[Fo.uC];omega⟩
  .split at e
   .cases e
   .next form g =>
    obtain⟨u,d,x,y⟩:=zF e;obtain⟨o,l,C,r⟩:=zF y;obtain⟨bs,q,s,t⟩:=zF r;obtain⟨u,z,v,w⟩:=zF t;have:=(yS x).2;have:=yl rs d;obtain⟨D,_⟩:=NO C;obtain⟨b1,b2,b3⟩:=S7 hm _ _ _ _ _ s trivial rfl (λk hk=>YK);have M:=(yS v).2;have A:=Be g;cases w;refine⟨⟨hn,A,D,b2,b1,trivial⟩,?_⟩;simp only[Fo.uC]at b3|-;omega
def JO{num:Bool}(hm:∀m,msg=some m->CE m):∀(n:Nat) (acc:Fo) (i j:Nat) (f:Fo),vJ rs msg num n acc i = .ok (f,j)->acc.fit->f.fit/\f.uC+44*i<=acc.uC+44*j
 | 0,acc,i,j,f,h,_=>xp
 |n+1,acc,i,j,f,h,ha=>by
  rw[vJ]at h;split at h
  .exact Wr
  split at h
  .obtain⟨g,q,h1,h2⟩:=zF h;obtain⟨g1,g2⟩:=yqj hm h1;obtain⟨k1,k2⟩:=JO hm n _ _ _ _ h2 (Fo.ft _ _ ha g1);rw[Fo.ZO]at k2;exact⟨k1,J⟩
  split at h
  .obtain⟨k1,k2⟩:=JO hm n _ _ _ _ h (Fo.ft _ _ ha trivial);rw[Fo.ZO]at k2;simp only[Fo.uC]at k2;exact⟨k1,J⟩
  .obtain⟨t1,t2⟩:=Fo.S4 ha (qq rs num i).1;obtain⟨k1,k2⟩:=JO hm n _ _ _ _ h t1;have a:=L5 rs num i;have b:=Jf rs num i;exact⟨k1,J⟩
def S8:∀n,CE (gI rs n)
 | 0,num,i,f,j,h=>by
  rw[gI]at h;simpa[Fo.uC]using JO (λm e=>gG) _ _ _ _ _ h trivial
 |n+1,num,i,f,j,h=>by
  rw[gI]at h;simpa[Fo.uC]using JO (λm e=>by cases e;exact S8 n) _ _ _ _ _ h trivial
end
def QY(h:vv l = .ok f)(hc:fD f=none):f.YD/\f.uC<=44000/\f.fit:=by
 have b:=UZ h;unfold vv at h;split at h
 .cases h
 split at h
 .cases h
 next h1 _ =>
 have QD:=Qk l;have hr:(xk l).length<=1000:=J;cases hp:gg (xk l) with
 |error e=>rw[hp]at h;cases h
 |ok x =>
  rw[hp]at h;cases h;unfold gg at hp;obtain⟨g,q,h2,a⟩:=zF (show _=Except.ok (x.1,x.2)from hp);obtain⟨hf,hm⟩:=S8 5 _ _ _ _ h2;have he:q<=(xk l).length:=ZK _ _ _ _ _ h2 (zJ _);split at a
  .cases a;exact⟨Fo.Yg _ hf b.wf J (S5 hc),J,hf⟩
  .cases a
def CH(h:vv l = .ok f)(hc:fD f=none):f.YD/\f.cw<=44000:=by
 obtain⟨h1,h2,-⟩:=QY h hc;exact⟨h1,zg (Fo.Q7 f) h2⟩
def DT(h:128<=r):qK (r:Int)=false/\vN (r:Int)=false:=by
 constructor
 .simp only[qK,zr5,iV,decide_eq_false_iff_not,beq_eq_false_iff_ne,ne_eq];omega
 .simp only[vN,iV,decide_eq_false_iff_not];omega
def L7(t:Wd)(w:z8)(F:t.length<=5000000):zE Tryz.prog 61 #[zO t] w λe w'=>e = .returned (.bool (kK t))/\Fr yH yH w w':=by
 obtain⟨s,hs⟩:=zw (vD t.toArray);have p:s.size=t.length:=by rw[<-hs,size_mk]
 have u:∀(k:Nat) (h:k<s.size),∃c,t[k]? = some c/\s[k]'h=c:=by
  intro k h;subst hs;exact⟨_,zj (by rw[size_mk]at h;exact h),xG⟩
 obtain⟨n,hn⟩:=zw t.length;obtain⟨y,H,D,I⟩:=hdd u p hn F;rw[show zO t = .string s from congrArg Value.string hs];have v:s.size=n:=p.trans hn;have A:=Z v;clear hs p hn F v u;go_enter func61,ntmps61;go_wp2_with fail;go_loopw [] (λwr=>∃pos,wr=w.iter s pos/\pos<=n/\Ha 0 t=Ha pos (t.drop pos)) (λwr=>n - wr.iterPos (w:Nat))
 case atStart=>exact⟨0,rfl,zJ _,rfl⟩
 case round =>
  obtain⟨pos,rfl,hp,E⟩:=hrel;have C:=Z E;clear E;by_cases a:pos<s.size
  .obtain⟨c,hc,hsc⟩:=y.o pos a;have d:t.drop pos=c::t.drop (pos+1):=by
    obtain⟨h1,h2⟩:=zD.1 hc;rw[yd h1,h2]
   have m:=C.o;rw[d,Ha]at m;have q:=Z m;clear d m;by_cases ha:c.toNat<128
   .have f:=λty=>run_next_ascii (P:=Tryz.prog) w s pos ty a (by rw[hsc];exact ha)
    rw[hsc]at f;obtain⟨l,x⟩:∃b,qK (c.toNat:Int)=b:=⟨_,rfl⟩;obtain⟨dg,EB⟩:∃b,vN (c.toNat:Int)=b:=⟨_,rfl⟩;obtain⟨r,hr⟩:∃r:Int,(c.toNat:Int)=r:=⟨_,rfl⟩;rw[hr]at f x EB;have j:=λW=>Z (x▸Kz r W)
    have i:=λW=>Z (EB▸Qu r W)
    have B:=Z (show Ha 0 t=((l ||(!decide (pos=0) && dg)) && Ha (pos+1) (t.drop (pos+1)))by have:=q.o;rw[hr,x,EB]at this;exact this);have g:=Z (show pos+1<=n by have:=A.o;omega);clear x EB hr hsc hc ha a;have HB:l=false->(pos=0\/dg=false)->kK t=false:=λh1 h2=>by
     unfold kK;rw[B.o,h1];rcases h2 with h2|h2<;>simp[h2]
    have HB:=Z HB;go_wp2_with fail;refine(j _).out.mono ?_;rintro e w' ⟨rfl,rfl⟩;cases l with
    |true =>
     go_wp2;go_roundw
     case measure=>simp only[wG];have:=g.o;omega
     case rel=>exact⟨pos+1,rfl,g.o,by rw[B.o];simp⟩
    |false =>
     by_cases h0:pos=0
     .subst h0;exact zfk
     .have g0:((pos:Int)=0)=False:=(by simp;omega);go_wp2_with fail;refine(i _).out.mono ?_;rintro e w' ⟨rfl,rfl⟩;cases dg with
      |false =>
       exact zfk
      |true =>
       go_wp2;go_roundw
       case measure=>simp only[wG];have:=g.o;omega
       case rel=>exact⟨pos+1,rfl,g.o,by rw[B.o];simp[h0]⟩
   .have f:=λty=>run_next_any (P:=Tryz.prog) w s pos ty a
    obtain⟨h1,-⟩:=decode_high s pos a (by rw[hsc];omega);obtain⟨r,hr⟩:=zw ((jl s pos).1);obtain⟨z,G⟩:=zw ((jl s pos).2);rw[hr,G]at f;rw[hr]at h1;have j:=λW=>Z ((DT h1).1▸Kz r W)
    have i:=λW=>Z ((DT h1).2▸Qu r W)
    have HB:=Z (show kK t=false by
     unfold kK;rw[q.o,(DT (r:=c.toNat) J).1,(DT (r:=c.toNat) J).2];simp)
    clear hr G hsc hc ha a h1;go_wp2_with fail;refine(j _).out.mono ?_;rintro e w' ⟨rfl,rfl⟩;by_cases h0:pos=0
    .subst h0;exact zq2
    .have g0:((pos:Int)=0)=False:=(by simp;omega);go_wp2_with fail;refine(i _).out.mono ?_;rintro e w' ⟨rfl,rfl⟩;exact zq2
  .have f:=λty=>run_next_end (P:=Tryz.prog) w s pos ty a
   have HB:=Z (show kK t=(decide (0<n) && decide (n<=16)) by
    unfold kK;rw[C.o,bp (by have:=A.o;have:=D.o;omega),D.o];rfl)
   clear a hp;have e:=A.o;subst e;by_cases h0:0<s.size
   .have g0:(0:Int)<(s.size:Int):=(by omega);by_cases h1:s.size<=16
    .have g1:(s.size:Int)<=16:=(by omega);exact zux
    .have g1:¬(s.size:Int)<=16:=(by omega);exact zux
   .have g0:¬(0:Int)<(s.size:Int):=(by omega);go_wp2;go_ret;exact⟨by rw[HB.o];simp[h0],(Fr.refl yH w).alloc _⟩
def DW(p:zx)(ty a:xM)(w:z8):(I0 p false ty).run Tryz.prog w=(I0 p false a).run Tryz.prog w:=rfl
def jX{row:Option Nat}(a:w.grownBy w' row):Fr (λk=>row=some k) (λk=>row=some k) w w' :=
 ⟨a.os,a.tape,a.output,a.size,λk b hn=>a.block k b (λe=>hn e.symm),λ_ q => .inl q⟩
def Xt(f:Wd->Option (Wd×Bool))(z:Nat):Prop:=z<=16/\∀m x,f m=some x->kK m=true/\bZ x.1 x.2=true
def xm2(b n z:Nat)(f:Wd->Option (Wd×Bool))(w:z8)(e:xX)(w':z8):Prop :=
 ((Xt f z/\∃c,e = .returned (.tuple #[zl3 c,.bool true])/\yqx b c n z f () w'/\(w:Nat)<=c)\/(¬Xt f z/\e = .returned (.tuple #[.nilFunc,.bool false])))/\Fr yH yH w w'
def zl6{b z:Nat}{f:Wd->Option (Wd×Bool)}(h:fk w b n z f)(T:∀m x,f m=some x->m.length<=5000000/\x.1.length<=1000000)(S:z<=1000000000) :
  zE Tryz.prog 33 #[.map (some b)] w (xm2 b n z f w):=by
 have hmf:∀(fn:Fn) (first cap:Array zx) (w:z8),(qA fn first cap).run Tryz.prog w = .ok (.func fn first cap) w:=λ_ _ _ _=>rfl
 have P:=h.lt;obtain⟨W,hW⟩:=zw (w.alloc (.cells #[.map (some b)] 61));have p:Fr yH yH w W:=by rw[<-hW];exact(Fr.refl yH w).alloc _
 have A:fk W b n z f:=h.fr p id;have H:zk W (w:Nat) 0 (.map (some b)):=by rw[<-hW];exact zZ w #[.map (some b)] _ (0,0) 0
 have D:(W:Nat)=(w:Nat)+1:=by rw[<-hW];simp
 have Z9:=A.len 3;obtain⟨w2,hrg,hR,v,Yt⟩:=A.range;obtain⟨c,hc⟩:=zw (w:Nat);rw[hc]at H D;rw[D]at hrg hR;have L:Fr yH yH w w2:=p.over (jX v) (λq hq=>by cases hq);have c2:=(jX v).cell H (λq=>kG);obtain⟨Va,EN,HMA,HR,HC,HL,HLT,HC2⟩:=OH L p h hR hc T P c2;clear A p v Yt L hR T P D h c2;by_cases U:z<=16
 .have g1:¬(16:Int)<(z:Int):=by omega
  have HZ:=Z U;clear U S;go_enter func33,ntmps33;go_wp2_with fail;go_loopw [] (λwr=>∃left cnt,CD wr b (c+1) n f left cnt/\Fr yH yH w wr/\zk wr c 0 (.map (some b))/\∀m x,f m=some x->left m=false->kK m=true/\bZ x.1 x.2=true) (λwr=>wr.rangeLeft b (c+1))
  case atStart=>exact⟨_,_,HR.o,Va.o,HC2.o,λm x hm T=>by simp[hm]at T⟩
  case round =>
   obtain⟨left,cnt,i,hf,I,C⟩:=hrel;have a:=Z (zf i (zf hf C));rcases i.next 0 with⟨-,R,j⟩|⟨m,x,w',ve9,hlm,u,j,G,O,y,Z0,hen⟩
   .have j:=λty=>(DW (c+1,0) ty 0 wr).trans j
    have HNO:=Z R;clear i hf C R;go_wp2;go_ret2
    have i:=a.o.1;refine⟨.inl ⟨⟨HZ.o,λm x hm=>a.o.2.2 m x hm (HNO.o m)⟩,c,rfl,⟨?_,I,λm x hm=>(HL.o m x hm).2⟩,by rw[HC.o];exact Y _⟩,a.o.2.1⟩;exact HMA.o.fr a.o.2.1 id
   .have j:=λty=>(DW (c+1,0) ty 0 wr).trans j
    obtain⟨t,num⟩:=x;obtain⟨l1,l2⟩:=HL.o m _ u;obtain⟨d,hd⟩:=zw (w':Nat);obtain⟨V,hV⟩:=zw (w'.alloc (.cells #[zO t,.bool num] 65));have d0:zk V d 0 (zO t):=(by rw[<-hV,<-hd];exact zZ w' #[zO t,.bool num] _ (0,0) 0);have d1:zk V d 1 (.bool num):=(by rw[<-hV,<-hd];exact zZ w' #[zO t,.bool num] _ (0,0) 1);have fV:Fr yH yH w' V:=(by rw[<-hV];exact(Fr.refl yH w').alloc _);have N:Fr yH yH w w':=hf.over (jX y) (λq hq => .inr (by cases hq;have:=HC.o;omega));have K:zk w' c 0 (.map (some b)):=(jX y).cell I (λq=>kG);obtain⟨nm,B⟩:∃q,kK m=q:=⟨_,rfl⟩;obtain⟨vd,E⟩:∃q,bZ t num=q:=⟨_,rfl⟩;have HNM:=λW=>Z (B▸L7 m W l1)
    have iK:=λW=>Z (E▸Il t num W l2)
    have l:=Z (zf G (zf O (zf fV (zf N K))));have s:=Z (zf u (zf B E));have HD:=Z (zf d0 d1);clear i hf C G O fV N K y Z0 hlm u B E l1 l2 d0 d1;go_wp2_with fail;refine(HNM _).out.mono ?_;rintro e w3 ⟨rfl,r⟩;have e0:=r.cell HD.o.1 id;have e1:=r.cell HD.o.2 id;have F:=Z r;clear r;cases nm with
    |false =>
     go_wp2;go_ret2
     refine⟨.inr ⟨λq=>?_,rfl⟩,l.o.2.2.2.1.trans (l.o.2.2.1.trans F.o)⟩;have:=(q.2 m _ s.o.1).1;rw[s.o.2.1]at this;cases this
    |true =>
     go_wp2_with fail;refine(iK _).out.mono ?_;rintro e w4 ⟨rfl,hb⟩;have M:Fr yH yH w3 w4:=⟨hb.os,hb.tape,hb.output,hb.size,λk hk _=>hb.block k hk,λ_ q => .inl q⟩;have g:=Z (l.o.2.2.1.trans (F.o.trans M));clear hb M;cases vd with
     |false =>
      go_wp2;go_ret2
      refine⟨.inr ⟨λq=>?_,rfl⟩,l.o.2.2.2.1.trans g.o⟩;have:=(q.2 m _ s.o.1).2;rw[s.o.2.2]at this;cases this
     |true =>
      go_wp2;go_roundw
      case measure =>
       rw[(l.o.1.fr g.o id id).left_eq,a.o.1.left_eq];exact l.o.2.1
      case rel =>
       refine⟨_,_,l.o.1.fr g.o id id,l.o.2.2.2.1.trans g.o,g.o.cell l.o.2.2.2.2 id,λm' x' Q hl'=>?_⟩;by_cases he:m'=m
       .subst he;have:=s.o.1;rw[Q]at this;cases this;exact⟨s.o.2.1,s.o.2.2⟩
       .exact a.o.2.2 m' x' Q (by simpa[he]using hl')
 .have g1:(16:Int)<(z:Int):=by omega
  have HZ:=Z U;clear U S;go_enter func33,ntmps33;go_wp2;go_ret2
  exact⟨.inr ⟨λq=>by have:=q.1;have:=HZ.o;omega,rfl⟩,EN.o⟩
def jT:List Wd->Nat×(Wd->Option (Wd×Bool))->Nat×(Wd->Option (Wd×Bool))
 |k::d::t::r,p=>jT r (if (p.2 k).isSome then p.1 else p.1+1,λm=>if k=m then some (t,d==[110])else p.2 m)
 |_,p=>p
def cP{l:List Wd}(h:l.length<3)(p:Nat×(Wd->Option (Wd×Bool))):jT l p=p:=by
 match l,h with
 |[],_=>rfl
 |[_],_=>rfl
 |[_,_],_=>rfl
 |_::_::_::_,h=>simp at h;omega
def YC(w:z8)(a:Option yI)(l:List Wd):Prop:=l≠[]->∃g o,a=some ⟨g,o,none⟩/\∀j t,l[j]? = some t->zk w g (o+j) (zO t)
def YC.fr{a:Option yI}{l:List Wd}(h:YC w a l)(hf:Fr yH yH w w'):YC w' a l:=λb=>by
 obtain⟨g,o,ha,hc⟩:=h b;exact⟨g,o,ha,λj t c=>hf.cell (hc j t c) id⟩
def S9{l:List Wd}{a:Option yI}(h:YC w a l)(hn:l.length=n)(E:∀t∈l,t.length<=1000000)(u:n<=1000000) :
  zE Tryz.prog 19 #[.slice a n c] w λe w'=>e = .returned (.map (some (w:Nat)))/\(∃N,N<=2000000/\fk w' (w:Nat) N (jT l (0,λ_=>none)).1 (jT l (0,λ_=>none)).2)/\Fr yH yH w w':=by
 have U:=@run_makeMap Tryz.prog;obtain⟨b,hb⟩:=zw (w:Nat);have h0:=fk.made w;have f0:Fr yH yH w (w.alloc (.map #[] 0)):=(Fr.refl yH w).alloc _;rw[hb]at h0;obtain⟨H,O,j,K,I⟩:=G0 (zf h0 f0) h (zf hn u) E hb;clear h hn E u h0 f0;go_enter func19,ntmps19;go_wp2;go_loopw [4] (λi wr=>∃k N z f,i = .int .i64 (k:Nat)/\k<=n+3/\N<=k/\fk wr b N z f/\jT l (0,λ_=>none)=jT (l.drop k) (z,f)/\Fr yH yH w wr) (λi _=>n+3 - (intOf i).toNat)
 case atStart=>exact⟨0,0,0,_,rfl,zJ _,Y _,H.o.1,rfl,H.o.2⟩
 case round =>
  obtain⟨k,N,z,f,rfl,hk,T,hm,hv,hf⟩:=hrel;by_cases F:k+2<n
  .obtain⟨g,o,rfl,hc⟩:=O.o (λe=>by have:=j.o.1;rw[e]at this;simp at this;omega);obtain⟨t0,g0⟩:∃t,l[k]? = some t:=⟨_,zj (by have:=j.o.1;omega)⟩;obtain⟨t1,g1⟩:∃t,l[k+1]? = some t:=⟨_,zj (by have:=j.o.1;omega)⟩;obtain⟨t2,g2⟩:∃t,l[k+2]? = some t:=⟨_,zj (by have:=j.o.1;omega)⟩;have c0:=hf.cell (hc k t0 g0) id;have c1:=hf.cell (hc (k+1) t1 g1) id;have c2:=hf.cell (hc (k+2) t2 g2) id;have hd:l.drop k=t0::t1::t2::l.drop (k+3):=by
    obtain⟨h1,C⟩:=zD.1 g0;obtain⟨h2,D⟩:=zD.1 g1;obtain⟨S,R⟩:=zD.1 g2;rw[yd h1,C,yd h2,D,yd S,R]
   have l0:=K.o t0 (ze g0);have l2:=K.o t2 (ze g2);obtain⟨B,hB⟩:=zw ((t1==[110]));obtain⟨w2,v,s,d⟩:=(hm.keep (w':=wr.drew) rfl).put t0 J (t2,B) (by show t2.length<=_;omega) (by have:=j.o.2;omega);rw[hd,jT,hB]at hv;have r:Fr yH yH w w2:=(hf.drew).over (jX d) (λq V=>by cases V;exact .inr (by rw[I.o];exact Y _));have m:b≠g:=λe=>by
    have:=X w _ (hc k t0 g0);rw[<-e,I.o]at this;exact qV _ this
   have Q:=(jX d).cell (w:=wr.drew) c0 (λe=>m (zL e));have C:=(jX d).cell (w:=wr.drew) c1 (λe=>m (zL e));have D:=(jX d).cell (w:=wr.drew) c2 (λe=>m (zL e));have A:=Z (zf s (zf hv r));clear hc g0 g1 g2 hd l0 l2 hm hv hf s d r m;have k1:(k:Int)+2<(n:Int):=J;have k0:k<n:=J;have k01:k+1<n:=J;have k2:(k:Int)+1<(n:Int):=J;have p:n<=1000000:=j.o.2;have G:vG.wrap ((k:Int)+2)=(k:Int)+2:=Yq;have W:vG.wrap ((k:Int)+1)=(k:Int)+1:=Yq;have hw3:vG.wrap ((k:Int)+3)=(k:Int)+3:=Yq;have x:=Z F;have q2:(0:Int)<=(k:Int)+2:=J;have q1:(0:Int)<=(k:Int)+1:=J;have u2:((k:Int)+2).toNat=k+2:=J;have u1:((k:Int)+1).toNat=k+1:=J;clear p;go_wp2_with fail;refine Vy (λW':z8=>zk W' g (o+k) (zO t0)/\zk W' g (o+(k+1)) (zO t1)/\zk W' g (o+(k+2)) (zO t2)) (xH 17) 1 ⟨c0,c1,c2⟩ ?_;refine gU 17 (λP M=>?_);go_simp;refine M.out _ _ ⟨Q,C,D⟩ λ_=>?_
   clear M P;refine Y5 ?_ _;clear v;go_wp2;go_roundw
   case rel =>
    obtain⟨m1,m2,m3⟩:=A.o;have E:=x.o;exact⟨k+3,N+1,_,_,uN,J,J,m1,m2,m3⟩
   case measure=>simp only[intOf];omega
  .have A:=Z (show jT l (0,λ_=>none)=(z,f)by rw[hv,cP (by rw[yr,j.o.1];omega)]);have L:=Z (zf hm hf);have k1:¬(k:Int)+2<(n:Int):=(by omega);have p:n<=1000000:=j.o.2;have G:vG.wrap ((k:Int)+2)=(k:Int)+2:=Yq;have y:=Z (show N<=2000000 by have:=j.o.2;omega);clear hv hm hf p;go_wp2;go_ret;exact⟨rfl,⟨N,y.o,by rw[A.o];exact L.o.1⟩,L.o.2⟩
def yqg(h:Nat)(c:UInt8):Nat:=(h ^^^ c.toNat)*16777619 % 4294967296
def Xh(b:Wd):Nat:=b.foldl yqg 2166136261
def fB(b:Wd):Nat:=b.foldl (λv c=>v*256+c.toNat) 0
def qF:Wd:=[80,72,49]
def NP(b:Wd):Bool := !qF.isPrefixOf b ||decide (65535<b.length) ||decide (b.length<7) ||decide (fB (b.drop (b.length - 4))≠Xh (b.take (b.length - 4)))
def yqf(h:Nat)(c:UInt8):yqg h c<4294967296:=xu3 _ zW
def yqd(b:Wd):∀h,h<4294967296->b.foldl yqg h<4294967296:=by
 induction b with
 |nil=>exactλ_ h=>h
 |cons c b a=>exactλh _=>a _ (yqf h c)
def JP(b:Wd):Xh b<4294967296:=yqd b _ zW
variable{cap:Nat}
def jL(w:z8)(a:Option yI)(l:Wd):Prop:=∀j (h:j<l.length),∃b,a=some b/\w.cell? (b.add j)=some (.int .u8 l[j].toNat)
def jL.fr{a:Option yI}{l:Wd}(h:jL w a l)(hf:Fr F F' w w')(ha:∀b,a=some b->¬F b.block):jL w' a l:=λj c=>by
 obtain⟨b,e,hc⟩:=h j c;exact⟨b,e,hf.cell hc (by rw[addr_add];exact ha b e)⟩
def zl7{l:Wd}(h:k<l.length):Xh (l.take (k+1))=(Xh (l.take k) ^^^ l[k].toNat)*16777619 % 4294967296:=by
 unfold Xh;rw[yj h,TF,vP,dm,yqg]
def zl8:∃S:Wd->Nat,S=Xh/\S []=2166136261/\(∀l,S l<4294967296)/\∀(l:Wd) k (h:k<l.length),S (l.take (k+1))=(S (l.take k) ^^^ l[k].toNat)*16777619 % 4294967296 :=
 ⟨Xh,rfl,by unfold Xh;rw[dm],JP,λ_ _ h=>zl7 h⟩
def NR{a:Option yI}{l:Wd}(h:jL w a l)(hn:l.length=n)(C:n<=2000000000) :
  zE Tryz.prog 31 #[.slice a n cap] w λe w'=>e = .returned (.int .u32 (Xh l:Nat))/\w=w':=by
 obtain⟨S,hS,s0,u,v⟩:=zl8;rw[<-hS];have y:=Z h;have HN:=Z hn;have q:=Z (zf s0 (zf u v));clear h hn hS s0 u v;go_enter func31,ntmps31;go_wp2;go_loop [3,8] (λh i=>∃k:Nat,k<=n/\i = .int .i64 k/\h = .int .u32 (S (l.take k):Nat)) (λ_ i=>n - (intOf i).toNat)
 case atStart=>exact⟨0,zJ _,rfl,by rw[yej,q.o.1];rfl⟩
 case round =>
  obtain⟨k,B,rfl,rfl⟩:=hrel;by_cases r:k<n
  .have p:k<l.length:=(by rw[HN.o];exact r);obtain⟨⟨g,o,f⟩,rfl,hc⟩:=y.o k p;have b:=Z (q.o.2.2 l k p);obtain⟨c,j⟩:=zw (l[k]);rw[j]at hc b;obtain⟨s,hs⟩:=zw (S (l.take k));have t:s<4294967296:=hs▸q.o.2.1 _;rw[hs]at b|-;have d:=c.toNat_lt;have HX:=Z (show yZ .u32 (bits .xor .u32 (s:Int) ((c.toNat:Int) % 4294967296)*16777619 % 4294967296) = .int .u32 (S (l.take (k+1)):Nat) by
    rw[b.o,show(c.toNat:Int) % 4294967296=(c.toNat:Int)by omega,u32_xor_nat s c.toNat t J];generalize s ^^^ c.toNat=x;exact congrArg (yZ .u32) J)
   clear d;have z:=Z hs;clear hs j;exact zfv
  .have m:k=n:=(by omega);have A:¬(k:Int)<(n:Int):=J;have HR:=Z (show l.take k=l by rw[m];exact ye M0);clear m;exact Ag
structure ES(w:z8)(r g:Nat)(l:Wd):Prop where
 ex:∃b cap,zk w r 0 (.slice (some b) l.length cap)/\l.length<=cap/\cap<=vp/\jL w (some b) l/\b.block=g
 ne:g≠r
 fz:w.frozen? (r,0)=false
structure FrR(r:Nat)(w w':z8):Prop extends Fr (· = r) (· = r) w w' where
 r1:w'.cell? (r,1)=w.cell? (r,1)
 z1:w'.frozen? (r,1)=w.frozen? (r,1)
 tp:gz w' r=gz w r
def BV(b:yI)(n cap:Nat):yI:=if n=cap then b else b.add n
def UM(b:yI)(m n cap:Nat)(h:n<=m)(hc:m<=cap)(hm:cap<=vp)(w:z8):(VX 34 (.slice (some b) m cap) none (some (.int .i64 (n:Int))) none).run Tryz.prog w = .ok (.slice (some b) n cap) w:=by
 unfold vp at hm;have h1:(n:Int)<=(cap:Int):=J;simp[VX,yzk,yfx,kJ underlying34,asIntOf,go_sem];intro q;omega
def Sz(b:yI)(m n cap:Nat)(h:n<=m)(hc:m<=cap)(hm:cap<=vp)(w:z8):(VX 34 (.slice (some b) m cap) (some (.int .i64 (n:Int))) none none).run Tryz.prog w = .ok (.slice (some (BV b n cap)) (m - n) (cap - n)) w:=by
 unfold vp at hm;have h1:(n:Int)<=(m:Int):=J;simp[VX,yzk,yfx,kJ underlying34,asIntOf,go_sem,BV];rw[yK h];by_cases e:n=cap
 .rw[yK e,yK e.symm]
 .rw[yv e,yv (λq=>e q.symm)]
def jL.take{a:Option yI}{l:Wd}(h:jL w a l)(n:Nat):jL w a (l.take n):=λj c=>by
 rw[u4]at c;obtain⟨b,e,hc⟩:=h j J;exact⟨b,e,by rw[hc];simp⟩
def jL.drop{b:yI}{l:Wd}(h:jL w (some b) l)(hc:l.length<=cap):jL w (some (BV b n cap)) (l.drop n):=λj c=>by
 rw[yr]at c;obtain⟨d,e,a⟩:=h (n+j) J;cases e;refine⟨_,rfl,?_⟩;rw[BV,yv J,show(b.add n).add j=b.add (n+j)by simp[Addr.add_add],a];simp
def Qv(b:yI)(n cap:Nat):(BV b n cap).block=b.block:=by
 unfold BV;split
 .rfl
 .rw[addr_add]
def Sy{g:Nat}{l:Wd}(h:ES w r g l)(hn:n<=l.length) :
  zE Tryz.prog 58 #[(r,0),n] w λe w'=>(∃b cap,e = .returned (.slice (some b) n cap)/\jL w' (some b) (l.take n))/\ES w' r g (l.drop n)/\FrR r w w':=by
 obtain⟨⟨b,cap,c0,h1,h2,hb,c⟩,d,fz⟩:=h;have j:=UM b l.length n cap hn h1 h2;have i:=Sz b l.length n cap hn h1 h2;have s:l.length<=9223372036854775807:=M5;obtain⟨m,hm⟩:=zw l.length;rw[hm]at c0 h1 j i hn s;have k1:¬(m:Int)<(n:Int):=J;have k:=Z hm;have a:=Z (zf hb (zf c d));have p:=Z (zf h1 (zf h2 hn));clear hm hb c d h1 h2 hn;go_enter func58,ntmps58;go_wp2;go_ret;have f:Fr (· = r) (· = r) w (w.setCell (zQ r 0) (.slice (some (BV b n cap)) (m - n) (cap - n))):=(Fr.refl _ _).set _ (.inl rfl);have hb:=a.o.1.fr f (λu e q=>a.o.2.2 (by cases e;rw[<-a.o.2.1];exact q));have t:(l.drop n).length=m - n:=by rw[yr,k.o]
 have hc:=p.o;refine⟨⟨b,⟨cap,rfl⟩,hb.take n⟩,⟨⟨BV b n cap,cap - n,?_,J,J,hb.drop (by rw[k.o];exact hc.1),?_⟩,a.o.2.2,?_⟩,f,?_,?_,?_⟩
 .rw[t];exact xq c0 _
 .rw[Qv];exact a.o.2.1
 .rw[zP];exact fz
 .rw[zr,yv zV]
 .rw[zP]
 .rw[qJ]
def wrap_small(n:Nat)(h:n<9223372036854775808):vG.wrap (n:Int)=(n:Int):=Yq
def yqb(v:Nat)(c:UInt8)(h:v<1099511627776):bits .or .i64 ((v:Int)*256) (c.toNat:Int)=((v*256+c.toNat:Nat):Int):=by
 have hc:=c.toNat_lt;rw[show(v:Int)*256=((v*256:Nat):Int)by omega];show vG.wrap ((yeg 64 ((v*256:Nat):Int) |||yeg 64 ((c.toNat:Nat):Int)).toNat:Int)=_;rw[BitVec.toNat_or,ofInt_u64 _ J,ofInt_u64 _ J,nat_join8 _ _ J J];exact wrap_small _ J
def sZ{l:Wd}(h:k<l.length):fB (l.take (k+1))=fB (l.take k)*256+l[k].toNat:=by
 unfold fB;rw[yj h,TF,vP,dm]
def mr:∀(l:Wd) (v:Nat),l.foldl (λv c=>v*256+c.toNat) v+1<=(v+1)*256 ^ l.length
 |[],v=>zV
 |c::l,v=>by
  have h:=mr l (v*256+c.toNat);have hc:=c.toNat_lt;rw[vP,zY,fC];refine zg h ?_;rw[dU (256 ^ l.length),<-Up];exact uM _ J
def KX{l:Wd}(h:l.length<=4):fB l<4294967296:=by
 have h1:=mr l 0;have h2:256 ^ l.length<=256 ^ 4:=Nat.pow_le_pow_right zW h;unfold fB;omega
def NS{g:Nat}{l:Wd}(h:ES w r g l)(hn:n<=l.length)(F:n<=4) :
  zE Tryz.prog 57 #[(r,0),n] w λe w'=>e = .returned (fB (l.take n):Nat)/\ES w' r g (l.drop n)/\FrR r w w':=by
 have x:=Z (Sy h hn);have p:=Z (show(l.take n).length=n by rw[u4];omega);clear h hn;obtain⟨L,z⟩:=zw (l.take n);rw[z]at x p|-;obtain⟨N,A,n0,n1,n2⟩:∃N:Wd->Nat,N=fB/\N []=0/\(∀k,N (L.take k)<4294967296)/\∀k (h:k<L.length),N (L.take (k+1))=N (L.take k)*256+L[k].toNat :=
  ⟨fB,rfl,rfl,λk=>KX (by rw[u4,p.o];omega),λ_ h=>sZ h⟩
 rw[<-A];have q:=Z (zf n0 (zf n1 n2));clear A z n0 n1 n2;go_enter func57,ntmps57;go_wp2_with fail;refine x.o.mono ?_;rintro e w1 ⟨⟨b,cap,rfl,hb⟩,hr,hf⟩;have B:=Z hb;have C:=Z (zf hr hf);clear hb hr hf x;go_wp2;go_loop [4,11] (λv i=>∃k:Nat,k<=n/\i = .int .i64 k/\v = .int .i64 (N (L.take k):Nat)) (λ_ i=>n - (intOf i).toNat)
 case atStart=>exact⟨0,zJ _,rfl,by rw[yej,q.o.1];rfl⟩
 case round =>
  obtain⟨k,G,rfl,rfl⟩:=hrel;by_cases y:k<n
  .have j:k<L.length:=(by rw[p.o];exact y);obtain⟨⟨g,o,f⟩,D,hc⟩:=B.o k j;cases D;have u:=Z (q.o.2.2 k j);obtain⟨c,a⟩:=zw (L[k]);rw[a]at hc u;have m:=q.o.2.1 k;obtain⟨s,hs⟩:=zw (N (L.take k));rw[hs]at u m|-;have HX:=Z (show yZ .i64 (bits .or .i64 ((s:Int)*256) (wrap64 (c.toNat:Int))) = .int .i64 (N (L.take (k+1)):Nat)by rw[u.o,show wrap64 (c.toNat:Int)=(c.toNat:Int) from(by have:=c.toNat_lt;unfold wrap64;omega),yqb s c J]);have hw:vG.wrap ((s:Int)*256)=(s:Int)*256:=(by rw[IntKind.wrap_i64];omega);clear hs a m;exact zfv
  .have d:k=n:=(by omega);have E:¬(k:Int)<(n:Int):=J;have t:=Z (show L.take k=L by rw[d];exact ye (by rw[p.o];exact Y _));clear d;go_wp2;go_ret;rw[t.o];exact⟨rfl,C.o⟩
def xz8(e:xX):Prop:=∃ZN:List PanicEntry,e = .panicked ({ v := .iface 149 (.agg #[]),recovered:=false }::ZN)/\ZN.dropWhile (!·.goexit)=[]
def uQ(n:Nat)(l:Wd):Option (Nat×Wd):=if n<=l.length then some (fB (l.take n),l.drop n)else none
def CI{g:Nat}{l:Wd}(h:ES w r g l)(hn:¬n<=l.length)(d:n<=1000000) :
  zE Tryz.prog 58 #[(r,0),n] w λe w'=>xz8 e/\w=w':=by
 obtain⟨⟨b,cap,c0,h1,h2,hb,a⟩,c,fz⟩:=h;obtain⟨m,hm⟩:=zw l.length;rw[hm]at c0 hn;have k1:(m:Int)<(n:Int):=J;clear hm hb a c h1 h2 hn;go_enter func58,ntmps58;go_wp2;refine⟨rfl,?_⟩;exact⟨⟨_,rfl,rfl⟩,rfl⟩
def yc3(r g:Nat)(n:Nat)(l:Wd)(w:z8)(e:xX)(w':z8):Prop :=
 (match uQ n l with|some (x,l')=>e = .returned x/\ES w' r g l' |none=>xz8 e)/\FrR r w w'
def fh{g:Nat}{l:Wd}(h:ES w r g l)(n:Nat)(i:n<=4) :
  zE Tryz.prog 57 #[(r,0),n] w (yc3 r g n l w):=by
 unfold yc3 uQ;by_cases hn:n<=l.length
 .rw[yK hn];refine(NS h hn i).mono ?_;rintro e w' ⟨h1,h2,f⟩;exact⟨⟨h1,h2⟩,f⟩
 .rw[yv hn];have b:=Z (CI h hn J);clear h;go_enter func57,ntmps57;go_wp2_with fail;refine b.o.mono ?_;rintro e w1 ⟨⟨a,rfl,c⟩,rfl⟩;have d:=Z c;clear c b;go_wp2;refine⟨rfl,?_⟩;exact⟨⟨a,rfl,d.o⟩,Fr.refl _ _,rfl,rfl,rfl⟩
variable{q:Nat}{v2:zx}{l':Wd}
def TW:Nat->List Nat->List Nat->Wd->Option ((List Nat×List Nat)×Wd)
 | 0,k,t,l=>some ((k,t),l)
 |m+1,k,t,l=>match uQ 2 l with|none=>none|some (x,l1)=>match uQ 2 l1 with|none=>none|some (y,l2)=>TW m (k++[x]) (t++[y]) l2
def Df:Wd->Nat->List Nat->List Nat->Wd->Option ((Nat×List Nat×List Nat)×Wd)
 |[],v,k,t,l=>some ((v,k,t),l)
 |c::f,v,k,t,l =>
  if c=107\/c=110 then match uQ 2 l with|none=>none|some (x,l1)=>Df f v (k++[x]) t l1
  else if c=118 then match uQ 4 l with|none=>none|some (x,l1)=>Df f x k t l1
  else if c=116 then match uQ 2 l with|none=>none|some (x,l1)=>Df f v k (t++[x]) l1
  else match uQ 2 l with|none=>none|some (m,l1)=>match TW m k t l1 with|none=>none|some ((k1,t1),l2)=>match uQ 2 l2 with|none=>none|some (y,l3)=>Df f v k1 (t1++[y]) l3
def cR(op pos:Nat):Option ((Nat×List Nat×List Nat)×Wd)->Option (uF×Wd)
 |none=>none
 |some ((v,k,t),l2)=>some (⟨op,pos,v,k,t⟩,l2)
def Ym(full:Nat)(l:Wd):Option (uF×Wd) :=
 match uQ 1 l with
 |none=>none
 |some (op,l1)=>if 12<=op then none else cR op (full - l.length) (Df (uA op) 0 [] [] l1)
def Xx{w:z8}{a b:yI}(u:zx)(hn:b.block≠a.block):(w.setCell b u).cell? a=w.cell? a:=by rw[zr,yv (λe=>hn (by rw[e]))]
structure dR(A r g op pos v:Nat)(k t:List Nat)(l:Wd)(kv tv:zx)(w0 w:z8):Prop where
 a0:zk w A 0 op
 a1:zk w A 1 pos
 a2:zk w A 2 v
 a3:zk w A 3 kv
 a4:zk w A 4 tv
 z:∀j,w.frozen? ⟨A,j,none⟩=false
 rd:ES w r g l
 kr:uk w kv k
 tr:uk w tv t
 tA:gz w A=some 87
 lo:∀q,zM kv q\/zM tv q->(w0:Nat)<=q
 G6:g<(w0:Nat)
 Km:r<(w0:Nat)
 WD:(w0:Nat)<=A
 r1:w.cell? (r,1)=w0.cell? (r,1)/\gz w r=gz w0 r
 cS:∀q,zM kv q->¬zM tv q
 fr:Fr (· = r) (λq=>q=r\/q=A\/zM kv q\/zM tv q) w0 w
def n7(r g full:Nat)(l:Wd)(w:z8)(e:xX)(w':z8):Prop :=
 (match Ym full l with
  |none=>xz8 e
  |some (x,l')=>(∃kv tv,e = .returned (.agg #[x.op,x.pos,x.v,kv,tv])/\uk w' kv x.k/\uk w' tv x.tg/\(∀q,zM kv q->¬zM tv q)/\∀q,zM kv q\/zM tv q->(w:Nat)<=q)/\ES w' r g l'/\w'.cell? (r,1)=w.cell? (r,1)/\gz w' r=gz w r) /\
 Fr (· = r) (λq=>q=r\/(w:Nat)<=q) w w'
section
variable {A r g op pos v:Nat} {k t:List Nat} {l:Wd} {kv tv:zx} {w0 w w':z8}
def dR.NW(h:dR A r g op pos v k t l kv tv w0 w)(a:zM kv q):q≠A/\q≠r:=⟨λe=>by have h1:=xn h.kr a;rw[e,h.tA]at h1;exact absurd h1 zW,by have:=h.lo q (.inl a);have:=h.Km;omega⟩
def dR.CL(h:dR A r g op pos v k t l kv tv w0 w)(a:zM tv q):q≠A/\q≠r:=⟨λe=>by have h1:=xn h.tr a;rw[e,h.tA]at h1;exact absurd h1 zW,by have:=h.lo q (.inr a);have:=h.Km;omega⟩
def dR.read(h:dR A r g op pos v k t l kv tv w0 w)(hr:ES w' r g l')(hf:FrR r w w'):dR A r g op pos v k t l' kv tv w0 w':=by
 have hA:A≠r:=Lh;have lA:A<(w:Nat):=X _ _ h.a0;exact⟨hf.cell h.a0 hA,hf.cell h.a1 hA,hf.cell h.a2 hA,hf.cell h.a3 hA,hf.cell h.a4 hA,λj=>(hf.frozen (a:=⟨A,j,none⟩) lA hA).trans (h.z j),hr,hf.own h.kr (λq hq=>(h.NW hq).2),hf.own h.tr (λq hq=>(h.CL hq).2),
  (ym (hf.keep A lA hA)).trans h.tA,h.lo,h.G6,h.Km,h.WD,⟨hf.r1.trans h.r1.1,hf.tp.trans h.r1.2⟩,h.cS,h.fr.tr hf.GZ (λq hq => .inl hq) |>.tg (λq hq=>zg6)⟩
def ES.fr(h:ES w r g l)(hf:Fr F F' w w')(hr:¬F r)(d:¬F g):ES w' r g l:=by
 obtain⟨⟨b,cap,c0,h1,h2,hb,a⟩,c,fz⟩:=h;exact⟨⟨b,cap,hf.cell c0 hr,h1,h2,hb.fr hf (λf e=>by cases e;rw[a];exact d),a⟩,c,(hf.frozen (X _ _ c0) hr).trans fz⟩
def dR.push(h:dR A r g op pos v k t l kv tv w0 w){x:Nat}(hf:Fr (zM kv) (zM v2) w w')(ho:w'.ownsRow 0 3 1 v2 (k.length+1) (bh k++[.int .i64 (x:Nat)])) :
  dR A r g op pos v (k++[x]) t l v2 tv w0 (w'.setCell (A,3) v2):=by
 have nA:¬zM kv A:=λq=>(h.NW q).1 rfl
 have nr:¬zM kv r:=λq=>(h.NW q).2 rfl
 have p:¬zM kv g:=λq=>by have:=h.lo g (.inl q);have:=h.G6;omega
 have lA:A<(w:Nat):=X _ _ h.a0;have hA:A≠r:=Lh;have gA:g≠A:=Wa;have o:¬zM v2 A:=λq=>(hf.fp A q).elim nA (λe=>J)
 have d:∀q,zM v2 q->(w0:Nat)<=q:=λq f=>(hf.fp q f).elim (λe=>h.lo q (.inl e)) (λe=>by have:=h.fr.size;omega)
 have f2:Fr (λq=>q=A) (λq=>q=A) w' (w'.setCell (A,3) v2):=(Fr.refl _ _).set _ (.inl rfl);have ne:∀j,j≠3->¬((⟨A,3,none⟩:yI)=⟨A,j,none⟩):=λj hj e=>hj (congrArg Addr.off e).symm
 have c:∀j u,j≠3->zk w A j u->zk (w'.setCell (zQ A 3) v2) A j u:=λj u hj hc=>zq4
 have m:uk w' v2 (k++[x]):=zqk;have s:∀q,zM tv q->¬zM kv q:=λq a b=>h.cS q b a
 have n:=hf.own h.tr s;have i:∀q,zM v2 q->¬zM tv q:=λq a b=>(hf.fp q a).elim (λe=>h.cS q e b) (λe=>by have:=ug h.tr b;omega)
 refine⟨c 0 _ zW h.a0,c 1 _ zW h.a1,c 2 _ zW h.a2,xq (hf.cell h.a3 nA) _,c 4 _ zW h.a4,λj=>?_,(h.rd.fr hf nr p).fr f2 (λq=>hA q.symm) gA,f2.own m (λq a b=>o (b▸a)),f2.own n (λq a b=>(h.CL a).1 b),?_,?_,h.G6,h.Km,h.WD,⟨(Xx _ hA).trans ((yD (hf.keep r (zC h.Km h.fr.size) nr)).trans h.r1.1),(qJ _ _ _ _).trans ((ym (hf.keep r (zC h.Km h.fr.size) nr)).trans h.r1.2)⟩,i,?_⟩
 .exact zu3
 .rw[qJ];exact(ym (hf.keep A lA nA)).trans h.tA
 .rintro q (a|a)
  .exact d q a
  .exact h.lo q (.inr a)
 .refine((h.fr.tr hf (λq f => .inr (h.lo q (.inl f)))).set (a:=(A,3)) _ (.inr h.WD)).tg (λq f=>?_);rcases f with e|e|e|e
  .exact .inl e
  .exact Lt
  .exact .inr (d q e)
  .exact .inr (h.lo q (.inr e))
def dR.zl9(h:dR A r g op pos v k t l kv tv w0 w){x:Nat}(hf:Fr (zM tv) (zM v2) w w')(ho:w'.ownsRow 0 3 1 v2 (t.length+1) (bh t++[.int .i64 (x:Nat)])) :
  dR A r g op pos v k (t++[x]) l kv v2 w0 (w'.setCell (A,4) v2):=by
 have nA:¬zM tv A:=λq=>(h.CL q).1 rfl
 have nr:¬zM tv r:=λq=>(h.CL q).2 rfl
 have p:¬zM tv g:=λq=>by have:=h.lo g (.inr q);have:=h.G6;omega
 have lA:A<(w:Nat):=X _ _ h.a0;have hA:A≠r:=Lh;have gA:g≠A:=Wa;have o:¬zM v2 A:=λq=>(hf.fp A q).elim nA (λe=>J)
 have d:∀q,zM v2 q->(w0:Nat)<=q:=λq f=>(hf.fp q f).elim (λe=>h.lo q (.inr e)) (λe=>by have:=h.fr.size;omega)
 have f2:Fr (λq=>q=A) (λq=>q=A) w' (w'.setCell (A,4) v2):=(Fr.refl _ _).set _ (.inl rfl);have ne:∀j,j≠4->¬((⟨A,4,none⟩:yI)=⟨A,j,none⟩):=λj hj e=>hj (congrArg Addr.off e).symm
 have c:∀j u,j≠4->zk w A j u->zk (w'.setCell (zQ A 4) v2) A j u:=λj u hj hc=>zq4
 have n:uk w' v2 (t++[x]):=zqk;have m:=hf.own h.kr (λq a b=>h.cS q a b);have i:∀q,zM kv q->¬zM v2 q:=λq a b=>(hf.fp q b).elim (λe=>h.cS q a e) (λe=>by have:=ug h.kr a;omega)
 refine⟨c 0 _ zW h.a0,c 1 _ zW h.a1,c 2 _ zW h.a2,c 3 _ zW h.a3,xq (hf.cell h.a4 nA) _,λj=>?_,(h.rd.fr hf nr p).fr f2 (λq=>hA q.symm) gA,f2.own m (λq a b=>(h.NW a).1 b),f2.own n (λq a b=>o (b▸a)),?_,?_,h.G6,h.Km,h.WD,⟨(Xx _ hA).trans ((yD (hf.keep r (zC h.Km h.fr.size) nr)).trans h.r1.1),(qJ _ _ _ _).trans ((ym (hf.keep r (zC h.Km h.fr.size) nr)).trans h.r1.2)⟩,i,?_⟩
 .exact zu3
 .rw[qJ];exact(ym (hf.keep A lA nA)).trans h.tA
 .rintro q (a|a)
  .exact h.lo q (.inl a)
  .exact d q a
 .refine((h.fr.tr hf (λq f => .inr (h.lo q (.inr f)))).set (a:=(A,4)) _ (.inr h.WD)).tg (λq f=>?_);rcases f with e|e|e|e
  .exact .inl e
  .exact Lt
  .exact .inr (h.lo q (.inl e))
  .exact .inr (d q e)
end
def NA(x:Nat):(bt x).toNat=x % 256:=by have:=N2 x;omega
def zlz(x:Nat)(h:x<65536):fB (vq x)=x:=by
 simp only[fB,vq,vP,dm,NA];omega
def L8(x:Nat)(h:x<4294967296):fB (j8 x)=x:=by
 simp only[fB,j8,vP,dm,NA];omega
def CM(a l:Wd)(ha:a.length=n):uQ n (a++l)=some (fB a,l):=by
 unfold uQ;rw[yK B1,yff ha,yfd ha]
def fw(x:Nat)(l:Wd)(h:x<65536):uQ 2 (vq x++l)=some (x,l):=by rw[CM (n:=2) _ _ rfl,zlz x h]
def sY(x:Nat)(l:Wd)(h:x<4294967296):uQ 4 (j8 x++l)=some (x,l):=by rw[CM (n:=4) _ _ rfl,L8 x h]
def Hc:Wd->Nat->Nat->Bool
 |[],a,b=>decide (a=0) && decide (b=0)
 |c::f,a,b =>
  if c=107\/c=110 then decide (0<a) && Hc f (a - 1) b
  else if c=118 then Hc f a b
  else if c=116 then decide (0<b) && Hc f a (b - 1)
  else decide (a<b) && Hc f 0 (b - (a+1))
def n9:∀(k t K T:List Nat) (l:Wd),k.length<t.length->(∀x∈k,x<65536)->(∀x∈t,x<65536) ->
  TW k.length K T (YG k t++l)=some ((K++k,T++t.take k.length),vq ((t.drop k.length).headD 0)++l)
 |[],t,K,T,l,_,_,_=>by simp[TW,YG]
 |a::k,[],K,T,l,h,_,_=>Vr
 |a::k,b::t,K,T,l,h,c,d=>by
  have e:=n9 k t (K++[a]) (T++[b]) l QH (λx hx=>c x (.tail _ hx)) (λx hx=>d x (.tail _ hx));show TW (k.length+1) K T ((vq a++(vq b++YG k t))++l)=_;unfold TW;rw[yk,yk,fw a _ (c a (.head _))];simp only;rw[fw b _ (d b (.head _))];simp only;rw[e];simp
def JR:∀(f:Wd) (v0 v:Nat) (k t K T:List Nat) (l:Wd),Hc f k.length t.length=true->(∀x∈k,x<65536)->(∀x∈t,x<65536)->v<4294967296->k.length<65536 ->
  Df f v0 K T (ue f v k t++l)=some ((if 118∈f then v else v0,K++k,T++t),l)
 |[],v0,v,k,t,K,T,l,h,_,_,_,_=>by
  simp only[Hc,zv,decide_eq_true_eq,List.length_eq_zero_iff]at h;obtain⟨rfl,rfl⟩:=h;simp[Df,ue]
 |c::f,v0,v,k,t,K,T,l,h,j,b,hv,m=>by
  unfold Hc at h;unfold Df ue;by_cases h1:c=107\/c=110
  .rw[yK h1]at h;rw[yK h1,yK h1];have hc:(118:UInt8)≠c:=(by rcases h1 with rfl|rfl<;>decide);cases k with
   |nil=>simp at h
   |cons a k =>
    simp only[zY,Z3,zv]at h;have d:=JR f v0 v k t (K++[a]) T l h.2 (λx hx=>j x (.tail _ hx)) b hv (by simp only[zY]at m;omega);rw[yk,List.headD_cons,fw a _ (j a (.head _))];simp only[TU];rw[d];simp[hc]
  .rw[yv h1]at h;rw[yv h1,yv h1];by_cases h2:c=118
   .rw[yK h2]at h;rw[yK h2,yK h2];have d:=JR f v v k t K T l h j b hv m;rw[yk,sY v _ hv];simp only;rw[d];simp[h2]
   .rw[yv h2]at h;rw[yv h2,yv h2];have hc:(118:UInt8)≠c:=λe=>h2 e.symm
    by_cases g:c=116
    .rw[yK g]at h;rw[yK g,yK g];cases t with
     |nil=>simp at h
     |cons a t =>
      simp only[zY,Z3,zv]at h;have d:=JR f v0 v k t K (T++[a]) l h.2 j (λx hx=>b x (.tail _ hx)) hv m;rw[yk,List.headD_cons,fw a _ (b a (.head _))];simp only[TU];rw[d];simp[hc]
    .rw[yv g]at h;rw[yv g,yv g];simp only[zv,decide_eq_true_eq]at h;have hd:t.drop k.length=(t.drop k.length).headD 0::t.drop (k.length+1):=by
      rw[yd h.1];rfl
     have hy:(t.drop k.length).headD 0<65536:=b _ (jz (i:=k.length) (by rw[hd];simp));have d:=JR f v0 v [] (t.drop (k.length+1)) (K++k) ((T++t.take k.length)++[(t.drop k.length).headD 0]) l (by rw[yr];exact h.2) (λx hx=>K3) (λx hx=>b x (jz hx)) hv zV;rw[yk,fw _ _ m];simp only;rw[yk,n9 k t K T _ h.1 j b];simp only;rw[fw _ _ hy];simp only;rw[d,qt,yk,yk,List.singleton_append,<-hd,fY];simp[hc]
structure cT(i:uF):Prop where
 op:i.op<12
 v:i.v<4294967296
 k:∀x∈i.k,x<65536
 t:∀x∈i.tg,x<65536
 len:i.k.length<65536
 ex:Hc (uA i.op) i.k.length i.tg.length=true
 v0:(118:UInt8) ∉ uA i.op->i.v=0
def zly(full:Nat)(i:uF)(l:Wd)(h:cT i)(hp:i.pos=full - (xE i++l).length):Ym full (xE i++l)=some (i,l):=by
 unfold Ym;have h1:uQ 1 (xE i++l)=some (i.op,ue (uA i.op) i.v i.k i.tg++l):=by
  show uQ 1 ([bt i.op]++(ue (uA i.op) i.v i.k i.tg++l))=_;rw[CM (n:=1) _ _ rfl];have:=h.op;simp only[fB,vP,dm,NA];rw[show 0*256+i.op % 256=i.op by omega]
 rw[h1];simp only;rw[yv (by have:=h.op;omega),JR _ 0 i.v i.k i.tg [] [] l h.ex h.k h.t h.v h.len,<-hp];obtain⟨op,pos,v,k,tg⟩:=i;by_cases hv:(118:UInt8)∈uA op
 .simp[cR,hv]
 .have:=h.v0 hv;simp only at this;simp[cR,hv,this]
def Xw(c:UInt8)(x:Nat)(h:x % 256=c.toNat):bt x=c:=by
 apply Xf.1;rw[NA,h]
def fK{l:Wd}{x:Nat}(h:uQ 2 l=some (x,l')):l=vq x++l'/\x<65536:=by
 unfold uQ at h;split at h
 .rename_i c;cases h;obtain⟨a,b,l,rfl⟩:∃a b r,l=a::b::r:=by
   match l,c with
   |a::b::r,_=>exact⟨a,b,r,rfl⟩
  have ha:=a.toNat_lt;have hb:=b.toNat_lt;have e:fB ((a::b::l).take 2)=a.toNat*256+b.toNat:=by simp[fB]
  rw[e];refine⟨?_,J⟩;rw[vq,Xw a _ J,Xw b _ J];rfl
 .cases h
def sX{l:Wd}{x:Nat}(h:uQ 4 l=some (x,l')):l=j8 x++l'/\x<4294967296:=by
 unfold uQ at h;split at h
 .rename_i f;cases h;obtain⟨a,b,c,d,l,rfl⟩:∃a b c d r,l=a::b::c::d::r:=by
   match l,f with
   |a::b::c::d::r,_=>exact⟨a,b,c,d,r,rfl⟩
  have ha:=a.toNat_lt;have hb:=b.toNat_lt;have hc:=c.toNat_lt;have hd:=d.toNat_lt;have e:fB ((a::b::c::d::l).take 4)=((a.toNat*256+b.toNat)*256+c.toNat)*256+d.toNat:=by simp[fB]
  rw[e];refine⟨?_,J⟩;rw[j8,Xw a _ J,Xw b _ J,Xw c _ J,Xw d _ J];rfl
 .cases h
def nz:∀(m:Nat) (K T:List Nat) (l:Wd) (b c:List Nat) (d:Wd),TW m K T l=some ((b,c),d) ->
  ∃k t,k.length=m/\t.length=m/\b=K++k/\c=T++t/\(∀x∈k,x<65536)/\(∀x∈t,x<65536)/\∀y ts a,d=vq y++a->l=YG k (t++y::ts)++a
 | 0,K,T,l,b,c,d,h=>by
  cases h;exact⟨[],[],rfl,rfl,zV,zV,(λx hx=>by cases hx),(λx hx=>by cases hx),λy ts a e=>by simpa[YG]using e⟩
 |m+1,K,T,l,b,c,d,h=>by
  unfold TW at h;cases h1:uQ 2 l with
  |none=>rw[h1]at h;cases h
  |some p =>
   obtain⟨x,n⟩:=p;rw[h1]at h;simp only at h;cases f:uQ 2 n with
   |none=>rw[f]at h;cases h
   |some q =>
    obtain⟨y,o⟩:=q;rw[f]at h;simp only at h;obtain⟨k,t,a1,a2,a3,a4,a5,g,i⟩:=nz m _ _ _ _ _ _ h;obtain⟨b1,b2⟩:=fK h1;obtain⟨b3,j⟩:=fK f;refine⟨x::k,y::t,by simp[a1],by simp[a2],by rw[a3];simp,by rw[a4];simp,λz hz=>?_,λz hz=>?_,λz ts a e=>?_⟩
    .exact zqv
    .rcases yV.1 hz with rfl|hz
     .exact j
     .exact g z hz
    .rw[b1,b3,i z ts a e];simp[YG]
def sV:Wd->Bool
 |[]=>true
 |c::f=>if c=107\/c=110 then sV f else if c=118 then decide ((118:UInt8) ∉ f) && sV f else if c=116 then sV f else decide (f=[])
def DA:∀(f:Wd) (v0:Nat) (K T:List Nat) (l:Wd) (v:Nat) (n o:List Nat) (l':Wd),sV f=true->Df f v0 K T l=some ((v,n,o),l') ->
  ∃k t,n=K++k/\o=T++t/\Hc f k.length t.length=true/\(∀x∈k,x<65536)/\(∀x∈t,x<65536)/\((118:UInt8) ∉ f->v=v0)/\((118:UInt8)∈f->v<4294967296)/\l=ue f v k t++l'
 |[],v0,K,T,l,v,n,o,l',_,h=>by
  cases h;exact⟨[],[],zV,zV,rfl,(λx hx=>by cases hx),(λx hx=>by cases hx),λ_=>rfl,(λq=>kG),rfl⟩
 |c::f,v0,K,T,l,v,n,o,l',a,h=>by
  unfold Df at h;unfold sV at a;unfold Hc ue;by_cases h1:c=107\/c=110
  .have hc:(118:UInt8)≠c/\(42:UInt8)≠c:=(by rcases h1 with rfl|rfl<;>decide);rw[yK h1]at h a;cases h2:uQ 2 l with
   |none=>rw[h2]at h;cases h
   |some p =>
    obtain⟨x,r⟩:=p;rw[h2]at h;simp only at h;obtain⟨k,t,a1,a2,a3,a4,a5,d,i,j⟩:=DA f _ _ _ _ _ _ _ _ a h;obtain⟨b1,b2⟩:=fK h2;refine⟨x::k,t,by rw[a1];simp,a2,by rw[yK h1];simpa using a3,λz hz=>?_,a5,λq=>d (λe=>q (.tail _ e)),λq=>i (by simpa[hc.1]using q),?_⟩
    .rcases yV.1 hz with rfl|hz
     .exact b2
     .exact a4 z hz
    .rw[yK h1,b1,j];simp
  .rw[yv h1]at h a;by_cases h2:c=118
   .rw[yK h2]at h a;simp only[zv,decide_eq_true_eq]at a;cases b:uQ 4 l with
    |none=>rw[b]at h;cases h
    |some p =>
     obtain⟨x,r⟩:=p;rw[b]at h;simp only at h;obtain⟨k,t,a1,a2,a3,a4,a5,d,i,j⟩:=DA f _ _ _ _ _ _ _ _ a.2 h;obtain⟨b1,b2⟩:=sX b;have hv:=d a.1;refine⟨k,t,a1,a2,by rw[yv h1,yK h2];exact a3,a4,a5,λq=>absurd (by rw[h2];exact qO) q,λ_=>by rw[hv];exact b2,?_⟩;rw[yv h1,yK h2,b1,j,hv,yk]
   .have hc:(118:UInt8)≠c:=λe=>h2 e.symm
    rw[yv h2]at h a;by_cases b:c=116
    .rw[yK b]at h a;cases g:uQ 2 l with
     |none=>rw[g]at h;cases h
     |some p =>
      obtain⟨x,r⟩:=p;rw[g]at h;simp only at h;obtain⟨k,t,a1,a2,a3,a4,a5,d,i,j⟩:=DA f _ _ _ _ _ _ _ _ a h;obtain⟨b1,b2⟩:=fK g;refine⟨k,x::t,a1,by rw[a2];simp,by rw[yv h1,yv h2,yK b];simpa using a3,a4,λz hz=>?_,λq=>d (λe=>q (.tail _ e)),λq=>i (by simpa[hc]using q),?_⟩
      .exact zqv
      .rw[yv h1,yv h2,yK b,b1,j];simp
    .rw[yv b]at h a;simp only[decide_eq_true_eq]at a;subst a;cases g:uQ 2 l with
     |none=>rw[g]at h;cases h
     |some p =>
      obtain⟨m,r⟩:=p;rw[g]at h;simp only at h;cases s:TW m K T r with
      |none=>rw[s]at h;cases h
      |some q =>
       obtain⟨⟨k1,t1⟩,A⟩:=q;rw[s]at h;simp only at h;cases u:uQ 2 A with
       |none=>rw[u]at h;cases h
       |some q =>
        obtain⟨y,B⟩:=q;rw[u]at h;simp only[Df]at h;cases h;obtain⟨k,t,a1,a2,a3,a4,a5,d,i⟩:=nz _ _ _ _ _ _ _ s;obtain⟨b1,b2⟩:=fK g;obtain⟨b3,w⟩:=fK u;refine⟨k,t++[y],a3,by rw[a4,yk],?_,a5,λz hz=>?_,λ_=>rfl,λq=>?_,?_⟩
        .rw[yv h1,yv h2,yv b];simp[Hc,a1,a2]
        .rcases zS.1 hz with hz|hz
         .exact d z hz
         .rw[zG.1 hz];exact w
        .rcases yV.1 q with q|q
         .exact absurd q hc
         .cases q
        .rw[yv h1,yv h2,yv b,b1,i y [] _ b3,a1];simp[ue]
def zlx(op:Nat):sV (uA op)=true:=by
 unfold uA;split<;>decide
def JS:∀(k t:List Nat),4*k.length+2=(YG k t).length
 |[],t=>rfl
 |a::k,t=>by
  have:=JS k t.tail;simp only[YG,zy,zY,vq,yG];omega
def QX:∀(f:Wd) (v:Nat) (k t:List Nat),Hc f k.length t.length=true->2*k.length<=(ue f v k t).length
 |[],v,k,t,h=>by
  simp only[Hc,zv,decide_eq_true_eq]at h;omega
 |c::f,v,k,t,h=>by
  unfold Hc at h;unfold ue;by_cases h1:c=107\/c=110
  .rw[yK h1]at h|-;simp only[zv,decide_eq_true_eq]at h;have:=QX f v k.tail t MJ;rw[Us]at this;simp only[zy,vq,zY,yG];omega
  .rw[yv h1]at h|-;by_cases h2:c=118
   .rw[yK h2]at h|-;have:=QX f v k t h;exact B1
   .rw[yv h2]at h|-;by_cases a:c=116
    .rw[yK a]at h|-;simp only[zv,decide_eq_true_eq]at h;have:=QX f v k t.tail MJ;exact B1
    .rw[yv a];have:=JS k t;simp only[zy];omega
def Sv{full:Nat}{l:Wd}{i:uF}(n:l.length<=65535)(h:Ym full l=some (i,l')):l=xE i++l'/\cT i/\i.pos=full - l.length:=by
 unfold Ym at h;cases h1:uQ 1 l with
 |none=>rw[h1]at h;cases h
 |some p =>
  obtain⟨op,a⟩:=p;rw[h1]at h;simp only at h;split at h
  .cases h
  .rename_i m;obtain⟨c,r,rfl⟩:∃c r,l=c::r:=by
    cases l with
    |nil=>simp[uQ]at h1
    |cons c r=>exact⟨c,r,rfl⟩
   have hc:=c.toNat_lt;have b:op=c.toNat/\a=r:=by
    unfold uQ at h1;rw[yK zV]at h1;cases h1;simp[fB]
   obtain⟨rfl,rfl⟩:=b;cases h2:Df (uA c.toNat) 0 [] [] a with
   |none=>rw[h2]at h;cases h
   |some q =>
    obtain⟨⟨v,k,t⟩,o⟩:=q;rw[h2]at h;cases h;obtain⟨k',t',a1,a2,a3,a4,g,d,j,e⟩:=DA _ _ _ _ _ _ _ _ _ (zlx _) h2;rw[xV]at a1 a2;subst a1 a2;have f:=QX _ v k t a3;have hx:(c::a)=xE ⟨c.toNat,full - (c::a).length,v,k,t⟩++l':=by
     show c::a=bt c.toNat::(ue (uA c.toNat) v k t++l');rw[<-e,Xw c _ J]
    refine⟨hx,⟨by show c.toNat<12;omega,?_,a4,g,?_,a3,d⟩,rfl⟩
    .show v<4294967296;by_cases hm:(118:UInt8)∈uA c.toNat
     .exact j hm
     .rw[d hm];decide
    .show k.length<65536;have:=congrArg xJ e;rw[zy]at this;rw[zY]at n;omega
variable{ops:Array je}{Q:Exit->Act->z8->Prop}{P:Gz}
def qZ(cs:List Wd):Wd:=cs.flatMap λc=>vq c.length++c
def xF(code:List uF):Wd:=code.flatMap xE
def jV(s:MkS):Wd:=qF++vq s.cs.length++qZ s.cs++vq (xF s.code).length++xF s.code
def qD(s:MkS):Wd:=jV s++j8 (Xh (jV s))
def Lz(f:α->Wd){l:List α}{k:Nat}{x:α}(h:l[k]? = some x):(l.take (k+1)).flatMap f=(l.take k).flatMap f++f x:=by
 obtain⟨h1,h2⟩:=zD.1 h;rw[yj h1,yh,h2];simp
def ny(f:α->Wd)(l:List α)(k:Nat):((l.take k).flatMap f).length<=(l.flatMap f).length:=by
 have h:(l.flatMap f)=(l.take k).flatMap f++(l.drop k).flatMap f:=by rw[<-yh,fY]
 rw[h,zy];omega
def Fv(f:α->Wd)(hf:∀x,0<(f x).length):∀l:List α,l.length<=(l.flatMap f).length
 |[]=>zV
 |a::l=>by
  have h1:=Fv f hf l;have h2:=hf a;exact zq5
def fT.bys{w:z8}{l:Wd}(h:fT w v l):∃a cap,v = .slice a l.length cap/\jL w a l:=by
 by_cases c:0<l.length
 .obtain⟨g,cap,hv,-,-,hc⟩:=xY h c;exact⟨_,cap,hv,λj b=>⟨_,rfl,by rw[ve,hc j J];simp[gp,b]⟩⟩
 .obtain⟨a,cap,hv⟩:=zo h;exact⟨a,cap,hv,λj b=>absurd b J⟩
section
variable {q mb k:Nat} {s:MkS} {vC vI:zx} {rs:List (zx×zx)} {w:z8}
def uf.xm4{x:uF}(h:uf q s vC vI rs mb w)(hk:s.code[k]? = some x):∃I d kv tv,vI = .slice (some ⟨I,0,none⟩) s.code.length d/\IC w I (k*5) x kv tv/\gz w I=some 87/\(∀g,zM kv g->gz w g=some 3/\g<(w:Nat))/\∀g,zM tv g->gz w g=some 3/\g<(w:Nat):=by
 have e:=(zD.1 hk).1;obtain⟨⟨kv,tv⟩,hr⟩:∃r,rs[k]? = some r:=⟨_,zj GI⟩;obtain⟨h1,h2⟩:=h.rows.k k x _ hk hr;obtain⟨I,d,b,-,f,yn6⟩:=xY h.cI J;have c:∀j,j<5->w.cell? ⟨I,k*5+j,none⟩=(JU x (kv,tv))[j]? := λj hj=>AE
 exact⟨I,d,kv,tv,b,⟨c 0 J,c 1 J,c 2 J,c 3 J,c 4 J,uk.pC h1,uk.pC h2⟩,xn h.cI (by rw[b];rfl),λg a=>⟨xn h1 a,ug h1 a⟩,λg a=>⟨xn h2 a,ug h2 a⟩⟩
def cm{l:Wd}(h:fT w v l){g:Nat}{t:xM}(b:gz w g=some t)(a:t≠5):¬zM v g:=λq=>a (zL (b.symm.trans (xn h q)))
def zlv{t:xM}{z:zx}{Z4:Nat}(E:Yz P t e z size Z4){w:z8}{rest:List je}{o:je}{a:Act}
  (d c:List zx) (n m:Nat) {s x:Operand} {b:yI} (f:d.length=n*size) (holds:∀j u,d[j]? = some u->w.cell? (b.add j)=some u) (hm:0<m) (y:n+m<=2147483648)
  (h:∀v' w',w'.ownsRow 0 e size v' (n+m) (d++c)->Fr yH (zM v') w w'->wpList P ops Q rest (a.put o.dst v') w')
  (B:o.guard=none:=by rfl) (I:o.op = .call { callee := .builtin .append,args:=#[s,x],argTypes:=#[t,t] }:=by rfl) (hs:a.eval s = .slice (some b) n n:=by rfl) (hx:a.eval x = .slice (w,0) m m:=by rfl)
  (v:c.length=m*size:=by rfl):wpList P ops Q (o::rest) a (w.alloc (.cells c.toArray e)):=by
 refine wpList_plain B λK hK=>?_
 obtain⟨i,hi,L,h2,G⟩:=E.info;have C:=E.small;have p:=Ut y C;subst h2 G;have F:=run_append_grow (P:=P) (w.alloc (.cells c.toArray e)) t o.type e i z E.under hi L b n n d f (λj u D=>yu (holds j u D) _) ⟨(w:Nat),0,none⟩ m m c v (λj u D=>by rw[ve,zZ];simpa using D) J J (growslice_fits J (zg p zW));obtain⟨g,A⟩:=zw (wV (w.alloc (.cells c.toArray e)) (n+m) n e);have q:=grownCap_ge (w.alloc (.cells c.toArray e)) (n+m) n e;have l:=grownCap_le_maxLen (w.alloc (.cells c.toArray e)) (n+m) n e (by unfold vp;omega);rw[A]at F q l;unfold j6 execOp;simp only[I,resolve,invoke,builtin,kp,wQ,XU,Jp,vV,De,hs,hx,F];refine hK _ _ (h _ _ ⟨by rw[zy,f,v,kh],.inr ⟨_,g,_,rfl,zJ _,ur (w.alloc (.cells c.toArray e)).drew _,q,l,?_,?_⟩⟩ ?_)
 .simp only[Array.size_append,List.size_toArray,size_zeroCells,E.QF,f,v,<-kh];congr 1;omega
 .have r:(d++c).length=(n+m)*i.size:=by rw[zy,f,v,kh]
  simp only[zzd,yk];rw[<-yk,<-r];exact Jo
 .refine(((Fr.refl yH w).alloc _).drew.alloc _).tg (λk H=>?_);cases H;exact .inr zV
def CN(w:z8):∃W,(convert 34 34 (.slice (w,0) 3 3)).run Tryz.prog (w.alloc (.cells #[.int .u8 80,.int .u8 72,.int .u8 49] 5)) = .ok (.slice (w,0) 3 3) W/\Fr yH yH w W /\
  ∀j u,(gp qF)[j]? = some u->W.cell? ((⟨(w:Nat),0,none⟩:yI).add j)=some u:=by
 have c:(w.alloc (.cells #[.int .u8 80,.int .u8 72,.int .u8 49] 5)).shape? (w:Nat)=some (5,3):=by
  have:(w.alloc (.cells #[.int .u8 80,.int .u8 72,.int .u8 49] 5)).heap[(w:Nat)]? = some (.cells #[.int .u8 80,.int .u8 72,.int .u8 49] 5):=WK;unfold World.shape?;rw[this];rfl
 have b:(w.alloc (.cells #[.int .u8 80,.int .u8 72,.int .u8 49] 5)).freeze ⟨(w:Nat),3,none⟩ 1=w.alloc (.cells #[.int .u8 80,.int .u8 72,.int .u8 49] 5 (3,4)):=by
  have hm:∀(a:Array Obj) (x:Obj) (f:Obj->Obj),(a.push x).modify a.size f=a.push (f x):=by
   intro a x f;apply Array.ext
   .simp
   .intro i h1 h2;simp only[Array.getElem_modify,Array.getElem_push];by_cases h:a.size=i
    .subst h;simp
    .have hi:i<a.size:=(by simp at h1;omega);simp[h,hi]
  unfold World.freeze;rw[yv zW];show({ w.alloc (.cells _ _)with heap:=(w.heap.push _).modify (w:Nat) _ }:z8)=_;rw[hm];rfl
 refine⟨w.alloc (.cells #[.int .u8 80,.int .u8 72,.int .u8 49] 5 (3,4)),?_,(Fr.refl _ _).alloc _,λj u d=>?_⟩
 .simp[convert,kJ underlying34,kJ underlying5,markStringish,c];exact b
 .rw[ve,World.cell?_alloc_mark];simpa[gp,qF]using d
def zlu(b:yI)(x:Nat)(w:z8)(h:∀j u,(gp qF)[j]? = some u->w.cell? (b.add j)=some u)(hx:x<=4000000000) :
  zE Tryz.prog 28 #[.slice (some b) 3 3,x] w λe w'=>∃v',e = .returned v'/\fT w' v' (qF++vq x)/\Fr yH (zM v') w w':=by
 have g:=Z (show[yZ .u8 ((x:Int) / 256 % 256),.int .u8 ((x:Int) % 256)]=gp (vq x)by simp[gp,vq,N2]);have d:=Z h;clear h;go_enter func28,ntmps28;go_wp2_with (at_builtin;refine zlv UY (gp qF) [_,_] 3 2 rfl d.o zW zW ?_);intro v' w' a hf;obtain⟨na,i,rfl⟩:=zo a;have f:=Z a;have c:=Z hf;clear a hf;go_wp2;go_ret;refine⟨_,rfl,?_,c.o⟩;have:=f.o;rw[g.o,<-UX]at this;exact this
def sU(h:uf q s vC vI rs mb w)(hI:∀x∈s.code,IE x)(hF:qg w)(hl:(jV s).length<=1000000000)(hcb:(xF s.code).length<=1000000)(K:s.code≠[]) :
  zE Tryz.prog 17 #[(q,0)] w λe w'=>∃v,e = .returned v/\fT w' v (qD s)/\Fr yH (zM v) w w':=by
 obtain⟨i0,hi,wR,hz1,EE⟩:=JL;have A:(qZ s.cs).length<=1000000000/\(xF s.code).length<=1000000:=⟨by simp only[jV,zy]at hl;omega,hcb⟩;have IH:s.cs.length<=1000000000:=zg (Fv _ (λc=>by simp[vq]) s.cs) A.1;have QM:s.code.length<=1000000:=zg (Fv _ (λc=>by simp[xE]) s.code) A.2;obtain⟨n,hn⟩:=zw s.cs.length;obtain⟨m,hm⟩:=zw s.code.length;have HH:=Z h;have HI:=Z hI;have HL:=Z (zf hl A);have q0:=h.q0;have q1:=h.q1;obtain⟨ca,cc,rfl⟩:=zo h.cC;obtain⟨ia,ic,rfl⟩:=zo h.cI;rw[hn]at q0 IH;rw[hm]at q1 QM;have HN:=Z (zf hn hm);have HF:=Z hF;have HNE:=Z K;clear h hI hl A hn hm hF K hcb;go_enter func17,ntmps17;obtain⟨W,hcv,hfW,hcW⟩:=CN w;have q0W:=hfW.cell q0 id;have O:=Z (zlu ⟨(w:Nat),0,none⟩ n W hcW J);have Vs:=Z hfW;clear hfW hcW;go_wp2_with fail;refine O.o.mono ?_;rintro e w1 ⟨v1,rfl,DJ,H⟩;have H:Fr yH (zM v1) w w1:=Vs.o.trans H;have q0:=H.cell q0 id;have OR:=Z DJ;have EN:=Z H;have HC:=Z (show ∀k (c:Wd),s.cs[k]? = some c->∃C,ca=some ⟨C,0,none⟩/\zk w C k (zO c)from λk c hk=>by
  obtain⟨C,cc',e1,e2,-⟩:=HH.o.con hk;have:=HH.o.q0;rw[e1]at this;cases this;exact⟨C,rfl,e2⟩)
 clear O DJ H q0W hcv Vs;go_wp2;go_loopw [3,21] (λb i wr=>∃(k:Nat) (v:zx),v=b/\k<=n/\i = .int .i64 k/\fT wr b (qF++vq n++qZ (s.cs.take k))/\Fr yH (zM b) w wr) (λ_ i _=>n - (intOf i).toNat)
 case atStart=>exact⟨0,_,rfl,zJ _,rfl,by simpa[qZ]using OR.o,EN.o⟩
 case round =>
  obtain⟨k,v,rfl,hk,rfl,hr,hf⟩:=hrel;by_cases uh:k<n
  .obtain⟨c,hc⟩:∃c,s.cs[k]? = some c:=⟨_,zj (by rw[HN.o.1];exact uh)⟩;obtain⟨C,rfl,hcc⟩:=HC.o k c hc;have hcw:=hf.cell hcc id;have a:qZ (s.cs.take (k+1))=qZ (s.cs.take k)++(vq c.length++c):=Lz _ hc;have Q:(qZ (s.cs.take (k+1))).length<=1000000000:=zg (ny _ s.cs (k+1)) HL.o.2.1;rw[a,zy,zy]at Q;obtain⟨D,T⟩:=zw (qF++vq n++qZ (s.cs.take k));have hDl:D.length=5+(qZ (s.cs.take k)).length:=(by rw[<-T];simp[qF,vq];omega);rw[T]at hr;have hts:(⟨c.toArray⟩:ByteArray).size=c.length:=size_mk _;have O:=Z (DM v D c.length wr hr J J);have H3:=Z (zf a (zf T (zf hDl Q)));have B:=Z hf;have ht2:(vq c.length).length=2:=rfl;clear hc hcc a T hDl hr hf;have k1:(k:Int)<(n:Int):=J;go_wp2_with fail;refine O.o.mono ?_;rintro e w2 ⟨v2,rfl,z,f⟩;have G:=Z z;have oe:=Z (B.o.trans f);clear O z f hcw;go_wp2_with (at_builtin;refine QS rfl _ _ 34 9 rfl 5 i0 underlying34 underlying9 hi wR hz1 EE v2 (D++vq c.length).length (gp (D++vq c.length)) rfl G.o ⟨c.toArray⟩ rfl (by rw[hts];unfold vp;have:=H3.o;simp only[zy]at *;omega) (by rw[hts];have:=H3.o;simp only[zy]at *;omega) ?_);intro v3 w3 y PH _;have N:=Z (show fT w3 v3 (qF++vq n++qZ (s.cs.take (k+1))) by
    have h1:xu7 ⟨c.toArray⟩=gp c:=rfl;obtain⟨a1,a2,-⟩:=H3.o;rw[a1,<-yk,a2,<-yk];show w3.ownsRow _ _ _ _ _ _;rw[zy,UX,<-h1];rw[zy,ht2];exact y)
   have HF4:=Z (oe.o.trans PH);clear y PH;go_wp2;go_roundw
   case rel=>exact⟨k+1,v3,rfl,J,uN,N.o,HF4.o⟩
   case measure=>simp only[intOf];omega
  .have hk2:k=n:=(by omega);have hkn:¬(k:Int)<(n:Int):=J;have a:s.cs.take k=s.cs:=(by rw[hk2];exact ye (by rw[HN.o.1];exact Y _));rw[a]at hr;have HRB:=Z hr;have M:=Z hf;have q1:=hf.cell q1 id;have HI2:=Z (show ∀k (x:uF),s.code[k]? = some x->∃I kv tv,ia=some ⟨I,0,none⟩/\IC w I (k*5) x kv tv/\gz w I=some 87/\(∀g,zM kv g->gz w g=some 3/\g<(w:Nat))/\∀g,zM tv g->gz w g=some 3/\g<(w:Nat)from λk x hk=>by
    obtain⟨I,ic',kv,tv,e1,e2⟩:=HH.o.xm4 hk;cases e1;exact⟨I,kv,tv,rfl,e2⟩)
   obtain⟨w4,e4⟩:∃w4,w4=wr:=⟨_,rfl⟩;subst e4;clear hr hf a hk2 OR EN;go_wp2;go_loopw [6,37] (λb i wr=>∃(j:Nat) (u:zx),u=b/\j<=m/\i = .int .i64 j/\fT wr u (xF (s.code.take j))/\Fr yH (zM u) w4 wr) (λ_ i _=>m - (intOf i).toNat)
   case atStart=>exact⟨0,_,rfl,zJ _,rfl,xz _ _ _ _,(Fr.refl _ _).tg (λk hk=>YK)⟩
   case round =>
    obtain⟨j,u,rfl,hj,rfl,hr,hf⟩:=hrel;by_cases uh:j<m
    .obtain⟨x,hx⟩:∃x,s.code[j]? = some x:=⟨_,zj (by rw[HN.o.2];exact uh)⟩;obtain⟨I,kv,tv,rfl,p,hI,P,R⟩:=HI2.o j x hx;have a:xF (s.code.take (j+1))=xF (s.code.take j)++xE x:=Lz _ hx;have Q:(xF (s.code.take (j+1))).length<=1000000:=zg (ny _ s.code (j+1)) HL.o.2.2;have d:Fr yH (zM u) w wr:=M.o.tr hf (λ_ q=>q.elim);have q1w:=hf.cell q1 id;have tk:∀g t,gz w g=some t->g<(w:Nat)->gz wr g=some t:=λg t h1 h2=>(ym (d.keep g h2 id)).trans h1
     have lK:=X w _ (HF.o 0 zW);have HA:=Z (Bh I (j*5) x kv tv u (xF (s.code.take j)) wr ⟨d.cell p.c0 id,d.cell p.c1 id,d.cell p.c2 id,d.cell p.c3 id,d.cell p.c4 id,p.k.fr d (λ_ _=>id),p.t.fr d (λ_ _=>id)⟩ (HI.o x (ze hx)) hr
      (cm hr (tk I _ hI (uO hI)) zW) (λq hq=>⟨zC (P q hq).2 d.size,cm hr (tk q _ (P q hq).1 (P q hq).2) zW⟩) (λq hq=>⟨zC (R q hq).2 d.size,cm hr (tk q _ (R q hq).1 (R q hq).2) zW⟩)
      (HF.o.fr d (λ_ q=>q.elim) (dK _)) (λq=>(hf.fp _ q).elim (λe=>e) (λr=>by have:=M.o.size;dsimp only at lK;omega)) (by rw[<-a];omega))
     have H4:=Z (zf a hf);have k1:(j:Int)<(m:Int):=J;clear hx p hI P R a Q d hr hf tk lK;go_wp2_with fail;refine HA.o.mono ?_;rintro e w5 ⟨u2,rfl,z,f⟩;have G:=Z (show fT w5 u2 (xF (s.code.take (j+1)))by rw[H4.o.1];exact z);have B:=Z (H4.o.2.trans f);clear z f HA;go_wp2;go_roundw
     case rel=>exact⟨j+1,u2,rfl,J,uN,G.o,B.o⟩
     case measure=>simp only[intOf];omega
    .have hj2:j=m:=(by omega);have hjn:¬(j:Int)<(m:Int):=J;have a:s.code.take j=s.code:=(by rw[hj2];exact ye (by rw[HN.o.2];exact Y _));rw[a]at hr;have hrb:=hf.own HRB.o (λ_ _=>id);obtain⟨D,T⟩:=zw (qF++vq n++qZ s.cs);rw[T]at hrb;have hb:jV s=D++vq (xF s.code).length++xF s.code:=(by unfold jV;rw[HN.o.1,T]);have lH:D.length+(2+(xF s.code).length)<=1000000000:=by
      have:=HL.o.1;rw[hb]at this;simp only[zy]at this;rw[show(vq (xF s.code).length).length=2 from rfl]at this;omega
     obtain⟨E,hE⟩:=zw (xF s.code);have hE0:0<E.length:=by
      rw[<-hE];cases hc:s.code with
      |nil=>exact absurd hc HNE.o
      |cons x l=>simp[xF,xE]
     rw[hE]at hr hb lH;obtain⟨g,cap,rfl,-,hgl,hgc⟩:=xY hr hE0;have O:=Z (DM v D E.length wr hrb J J);have hge:gz wr g=some 5:=xn hr rfl;have HG:=Z (zf hr hgc);have HB:=Z (zf hb lH);have F:=Z (M.o.tr hf (λ_ q=>q.elim));have HVG:=Z (show ¬zM v g from λq=>by
      have h1:=ug HRB.o q;have h2:=hf.fp g rfl;exact h2.elim (λx=>x.elim) (λx=>absurd h1 J))
     have HV:=Z (show Fr yH (zM v) w wr from⟨F.o.os,F.o.tape,F.o.output,F.o.size,F.o.keep,M.o.fp⟩);obtain⟨L,hL⟩:=zw E.length;rw[hL]at O;have V:=Z hL;rw[hL]at hE0 lH|-;clear hr hf a hj2 hrb T hb hE hgc hL hge;go_wp2_with fail;refine O.o.mono ?_;rintro e w6 ⟨v2,rfl,z,f⟩;have PY:=f.own HG.o.1 (λx hx=>by cases hx;exact HVG.o);have U:∀j u,(gp E)[j]? = some u->w6.cell? ((⟨g,0,none⟩:yI).add j)=some u:=by
      intro j u hu;rw[ve];have lD:j<E.length:=(by simpa[gp] using(zD.1 hu).1);exact f.cell ((HG.o.2 j J).trans hu) HVG.o
     have HNW:=Z U;have G:=Z z;have B:=Z (HV.o.trans f);clear z f O PY U;go_wp2_with (at_builtin;refine zy4 UY rfl _ _ rfl 0 v2 (D.length+2) (gp (D++vq L)) rfl (by have:=G.o;dsimp only[fT]at this;rw[zy]at this;exact this) ⟨g,0,none⟩ L cap (gp E) rfl (by simp[gp,V.o]) HNW.o (by simp[gp,Value.oneCell']) J (zJ _) ?_);intro v3 w7 y hgb K;have N:=Z (show fT w7 v3 (jV s) by
      rw[HB.o.1,V.o];dsimp only[fT];rw[zy,zy,UX,V.o];exact y)
     have oe:=Z (B.o.trans (Fr.app hgb K));obtain⟨a3,c3,e3,dE⟩:=N.o.bys;subst e3;have HS:=Z (NR (cap:=c3) dE rfl (by have:=HL.o.1;omega));obtain⟨S,hS⟩:=zw (Xh (jV s));have hS1:S<4294967296:=hS▸JP _;rw[hS]at HS;have HFO:=Z (Rx _ (jV s) S w7 N.o hS1 (by have:=HL.o.1;omega));have HPB:=Z (show qD s=jV s++j8 S by unfold qD;rw[hS]);clear y hgb K dE hS HNW;go_wp2_with fail;refine HS.o.mono ?_;rintro e w8 ⟨rfl,rfl⟩;go_wp2_with fail;refine HFO.o.mono ?_;rintro e w9 ⟨v4,rfl,Eh,Gt⟩;have HR4:=Z (show fT w9 v4 (qD s)by rw[HPB.o];exact Eh);have HF4:=Z (oe.o.trans Gt);clear Eh Gt HFO HS;go_wp2;go_ret;exact⟨v4,rfl,HR4.o,HF4.o⟩
end
def bS:Nat->List Wd->Wd->Option (List Wd×Wd)
 | 0,cs,l=>some (cs,l)
 |m+1,cs,l=>match uQ 2 l with
  |none=>none
  |some (n,l1)=>if n<=1000/\n<=l1.length then bS m (cs++[l1.take n]) (l1.drop n)else none
def dz(full:Nat):Nat->Wd->Option (List uF)
 |_,[]=>some []
 | 0,_::_=>none
 |n+1,c::l=>match Ym full (c::l) with
  |none=>none
  |some (i,l')=>(dz full n l').map (i :: ·)
def CO:∀(cs a:List Wd) (l:Wd),(∀c∈cs,c.length<=1000)->bS cs.length a (qZ cs++l)=some (a++cs,l)
 |[],a,l,_=>by simp[bS,qZ]
 |c::cs,a,l,h=>by
  have hc:=h c (.head _);have b:=CO cs (a++[c]) l (λx hx=>h x (.tail _ hx));have e:qZ (c::cs)++l=vq c.length++(c++(qZ cs++l)):=by simp[qZ]
  rw[e];show bS (cs.length+1) _ _=_;unfold bS;rw[fw _ _ J];simp only;rw[yK ⟨J,by rw[zy];omega⟩,Jo,Jw,b];simp
def Fu:Nat->List uF->Prop
 |_,[]=>True
 |p,i::r=>i.pos=p/\Fu (p+(xE i).length) r
def CP:∀(n full p:Nat) (code:List uF),(∀i∈code,cT i)->Fu p code->p+(xF code).length=full->(xF code).length<=n->dz full n (xF code)=some code
 |n,full,p,[],_,_,_,_=>by cases n<;>rfl
 | 0,full,p,i::r,_,_,_,h=>by
  simp[xF,xE]at h
 |n+1,full,p,i::r,hi,hp,hf,hn=>by
  have e:xF (i::r)=xE i++xF r:=by simp[xF]
  have f:0<(xE i).length:=by simp[xE]
  rw[e,zy]at hf hn;have d:i.pos=p:=hp.1;have b:p+(xE i).length+(xF r).length=full:=J;have g:=CP n full (p+(xE i).length) r (λx hx=>hi x (.tail _ hx)) hp.2 b J;have a:=zly full i (xF r) (hi i (.head _)) (by rw[zy,d];exact(Nat.sub_eq_of_eq_add J).symm);rw[e];cases hc:xE i++xF r with
  |nil=>have:=congrArg xJ hc;rw[zy,yG]at this;omega
  |cons c l =>
   rw[hc]at a;unfold dz;rw[a];simp only;rw[g];rfl
def Ly:∀(n full:Nat) (l:Wd) (code:List uF),l.length<=65535->l.length<=full->dz full n l=some code->l=xF code/\(∀i∈code,cT i)/\Fu (full - l.length) code
 |n,full,[],code,_,_,h=>by
  have:code=[]:=by cases n<;>(cases h;rfl)
  subst this;exact⟨rfl,(λi hi=>by cases hi),trivial⟩
 | 0,full,c::l,code,_,_,h=>xp
 |n+1,full,c::l,code,b,hf,h=>by
  unfold dz at h;cases h1:Ym full (c::l) with
  |none=>rw[h1]at h;cases h
  |some p =>
   obtain⟨i,l'⟩:=p;rw[h1]at h;simp only at h;obtain⟨b1,b2,b3⟩:=Sv b h1;have a:(c::l).length=(xE i).length+l'.length:=(by rw[b1,zy]);cases h2:dz full n l' with
   |none=>rw[h2]at h;cases h
   |some r =>
    rw[h2]at h;cases h;obtain⟨a1,a2,a3⟩:=Ly n full l' r J J h2;refine⟨?_,λx hx=>?_,b3,?_⟩
    .rw[b1];show _=xE i++xF r;rw[<-a1]
    .rcases yV.1 hx with rfl|hx
     .exact b2
     .exact a2 x hx
    .rw[show full - (c::l).length+(xE i).length=full - l'.length by omega];exact a3
def He(b:Wd):Wd:=(b.drop 3).take (b.length - 7)
def Su(b:Wd):Option (List Wd×List uF) :=
 if NP b=true then none else
 match uQ 2 (He b) with
 |none=>none
 |some (m,l1)=>match bS m [] l1 with
  |none=>none
  |some (cs,l2)=>match uQ 2 l2 with
   |none=>none
   |some (full,l3)=>if full=l3.length/\full≠0 then (dz full l3.length l3).map (λc=>(cs,c))else none
def zlq(s:MkS):He (qD s)=vq s.cs.length++(qZ s.cs++(vq (xF s.code).length++xF s.code)):=by
 have e:qD s=qF++((vq s.cs.length++(qZ s.cs++(vq (xF s.code).length++xF s.code)))++j8 (Xh (jV s))):=by simp[qD,jV]
 obtain⟨m,hm⟩:=zw (vq s.cs.length++(qZ s.cs++(vq (xF s.code).length++xF s.code)));rw[hm]at e|-;unfold He;rw[e,yfd (i:=3) (l₁:=qF) rfl];refine yff ?_;simp[qF,j8]
def sQ(s:MkS)(h:(qD s).length<=65535):NP (qD s)=false:=by
 have d:(qD s).length - 4=(jV s).length:=by simp[qD,j8]
 unfold NP;rw[d];have a:qF.isPrefixOf (qD s)=true:=by
  rw[gM];exact⟨(vq s.cs.length++(qZ s.cs++(vq (xF s.code).length++xF s.code)))++j8 (Xh (jV s)),by simp[qD,jV]⟩
 have b:¬(qD s).length<7:=by
  simp[qD,jV,qF,j8];omega
 rw[a];have c:fB ((qD s).drop (jV s).length)=Xh ((qD s).take (jV s).length):=by
  unfold qD;rw[Jw,Jo,L8 _ (JP _)]
 simp only[c,Bool.not_true,Bool.false_or,zr5,decide_eq_false_iff_not];exact⟨⟨J,b⟩,λq=>q rfl⟩
structure zlk(s:MkS):Prop where
 c:∀c∈s.cs,c.length<=1000
 i:∀i∈s.code,cT i
 p:Fu 0 s.code
 ne:s.code≠[]
 len:(qD s).length<=65535
def cr(s:MkS)(h:zlk s):Su (qD s)=some (s.cs,s.code):=by
 have d:=h.len;have b:s.cs.length<=(qZ s.cs).length:=by
  have:∀cs:List Wd,cs.length<=(qZ cs).length:=by
   intro cs;induction cs with
   |nil=>simp
   |cons c cs f =>
    have e:qZ (c::cs)=vq c.length++(c++qZ cs):=(by simp[qZ]);rw[e];simp only[zy,zY,vq,yG];omega
  exact this _
 have hb:(qD s).length=11+(qZ s.cs).length+(xF s.code).length:=by
  simp[qD,jV,qF,j8,vq];omega
 have a:(xF s.code).length≠0:=by
  cases hc:s.code with
  |nil=>exact absurd hc h.ne
  |cons i r=>simp[xF,xE]
 unfold Su;rw[sQ s d,zlq];simp only[OG,if_false];rw[fw _ _ J];simp only;rw[CO _ _ _ h.c];simp only;rw[fw _ _ J];simp only;rw[yK (by first|exact⟨rfl,a⟩|exact⟨trivial,a⟩),CP _ _ 0 _ h.i h.p J (Y _)];rfl
def UN:∀(f:Wd) (v:Nat) (k t t':List Nat),(ue f v k t).length=(ue f v k t').length
 |[],_,_,_,_=>rfl
 |c::f,v,k,t,t'=>by
  unfold ue;by_cases h1:c=107\/c=110
  .rw[yK h1,yK h1,zy,zy,UN f v k.tail t t']
  .rw[yv h1,yv h1];by_cases h2:c=118
   .rw[yK h2,yK h2,zy,zy,UN f v k t t']
   .rw[yv h2,yv h2];by_cases a:c=116
    .rw[yK a,yK a,zy,zy,UN f v k t.tail t'.tail];rfl
    .rw[yv a,yv a];simp only[zy,<-JS];rw[UN f v [] (t.drop (k.length+1)) (t'.drop (k.length+1))]
def zlj(i:uF)(t:List Nat):(xE { i with tg:=t }).length=(xE i).length:=by
 simp only[xE,zY];rw[UN]
def Sq:∀(p:Nat) (a b:List uF),Fu p (a++b) ↔ Fu p a/\Fu (p+(xF a).length) b
 |p,[],b=>by simp[Fu,xF]
 |p,i::a,b=>by
  have e:(xF (i::a)).length=(xE i).length+(xF a).length:=by simp[xF]
  show(i.pos=p/\Fu (p+(xE i).length) (a++b)) ↔ (i.pos=p/\Fu (p+(xE i).length) a)/\_;rw[Sq _ a b,e,uR,and_assoc]
def Sk:∀(n p j q:Nat) (l:List uF),Fu p l->Fu p (l.modify n λx=>{ x with tg:=x.tg.set j q })/\(xF (l.modify n λx=>{ x with tg:=x.tg.set j q })).length=(xF l).length
 |n,p,j,q,[],h=>by cases n<;>exact⟨h,rfl⟩
 | 0,p,j,q,i::l,h=>by
  have e:(i::l).modify 0 (λx=>{ x with tg:=x.tg.set j q })={ i with tg:=i.tg.set j q }::l:=rfl;rw[e];have c:=zlj i (i.tg.set j q);refine⟨⟨h.1,by rw[c];exact h.2⟩,?_⟩;simp only[xF,zh,zy,c]
 |n+1,p,j,q,i::l,h=>by
  have e:(i::l).modify (n+1) (λx=>{ x with tg:=x.tg.set j q })=i::l.modify n (λx=>{ x with tg:=x.tg.set j q }):=rfl;rw[e];obtain⟨a,b⟩:=Sk n (p+(xE i).length) j q l h.2;refine⟨⟨h.1,a⟩,?_⟩;have d:((l.modify n λx=>{ x with tg:=x.tg.set j q }).flatMap xE).length=(l.flatMap xE).length:=b;simp only[xF,zh,zy,d]
def xm6(s:MkS):Prop:=Fu 0 s.code/\s.pos=(xF s.code).length
def zlg:qm xm6:=by
 refine⟨λs op v k tg h=>?_,λs t h=>?_,λs i j h=>?_⟩
 .refine⟨?_,?_⟩
  .rw[xy,Sq];exact⟨h.1,h.2.trans (uE _).symm,trivial⟩
  .rw[xy];show s.pos+_=_;rw[h.2];simp[xF]
 .obtain⟨-,h1,h2⟩:=xS s t;unfold xm6;rw[h1,h2];exact h
 .obtain⟨a,b⟩:=Sk i 0 j s.pos s.code h.1;exact⟨a,h.2.trans b.symm⟩
variable{s:MkS}{op:Nat}
structure gu(P:MkS->Prop):Prop where
 put:∀s op v k tg,(v=0\/op=4\/op=7)->P s->P (s.put op v k tg)
 const:∀s t,P s->P (s.const t)
 xL:∀s i j,P s->P (s.xL i j)
section
variable {P:MkS->Prop} (I:gu P)
include I
def gu.one(op:Nat)(t:Wd)(h:P s):P (s.one op t):=I.put _ _ _ _ _ (.inl rfl) (I.const _ _ h)
def gu.vR:∀(f:Fo) (s:MkS) (acc:List Nat),P s->P (MkS.vR f s acc).1
 |.xi k _ _ r,s,acc,h=>by
  rw[MkS.vR];split
  .exact gu.vR r s acc h
  .exact gu.vR r _ _ (I.const _ _ h)
 |.nil,_,_,h=>h
 |.text _ _,_,_,h=>h
 |.hash _,_,_,h=>h
 |.put _ _ _,_,_,h=>h
 |.num _ _ _,_,_,h=>h
 |.br _ _ _ _ _ _ _,_,_,h=>h
def gu.vX:∀(f:Fo) (s:MkS) (acc:List (Wd×Nat)),P s->P (MkS.vX f s acc).1
 |.xi k _ _ r,s,acc,h=>by
  rw[MkS.vX];split
  .exact gu.vX r _ _ (I.put _ _ _ _ _ I6 h)
  .exact gu.vX r s acc h
 |.nil,_,_,h=>h
 |.text _ _,_,_,h=>h
 |.hash _,_,_,h=>h
 |.put _ _ _,_,_,h=>h
 |.num _ _ _,_,_,h=>h
 |.br _ _ _ _ _ _ _,_,_,h=>h
def gu.plu(n o:Wd)(bs:Fo)(s0:MkS)(k:Wd)(h:P s):P (MkS.kV n o bs s0 k s):=zxq
def gu.go:∀(f:Fo) (a:Wd->MkS->MkS) (s:MkS) (ls:List Nat),(∀k s,P s->P (a k s))->P s->P (MkS.uw f a s ls).1
 |.nil,_,_,_,_,h=>h
 |.text t r,a,s,ls,hb,h=>gu.go r a _ ls hb (I.one _ _ h)
 |.hash r,a,s,ls,hb,h=>gu.go r a _ ls hb (I.put _ _ _ _ _ I6 h)
 |.put n _ r,a,s,ls,hb,h=>gu.go r a _ ls hb (I.one _ _ h)
 |.num n _ r,a,s,ls,hb,h=>gu.go r a _ ls hb (I.one _ _ h)
 |.br n _ f o _ bs r,a,s,ls,hb,h=>by
  rw[MkS.uw];split
  .exact gu.go r a _ ls hb (MkS.ky P _ (λs i h=>I.xL _ _ _ h) _ _ (gu.go bs _ _ _ (λk x hx=>I.xL _ _ _ hx) (I.put _ _ _ _ _ I6 (I.vR bs _ _ (I.const _ _ h)))))
  .exact gu.go r a _ ls hb (I.put _ _ _ _ _ I6 (MkS.ky P _ (λs i h=>I.xL _ _ _ h) _ _ (gu.go bs _ _ _ (λk x hx=>I.plu n o bs s k hx) (I.put _ _ _ _ _ (by first|exact .inl rfl|exact .inr (.inl rfl)|exact .inr (.inr rfl)) (I.vX bs _ _ (I.put _ _ _ _ _ (by first|exact .inl rfl|exact .inr (.inl rfl)|exact .inr (.inr rfl)) (I.const _ _ h)))))))
 |.xi k _ m r,a,s,ls,hb,h=>gu.go r a _ _ hb (I.put _ _ _ _ _ I6 (gu.go m _ _ _ (λ_ _ h=>h) (hb k s h)))
def gu.all(f:Fo)(h:P MkS.start):P (MkS.all f):=I.put _ _ _ _ _ I6 (I.go f _ _ _ (λ_ _ h=>h) h)
end
def NoV(s:MkS):Prop:=∀x∈s.code,x.v=0\/x.op=4\/x.op=7
def yk1:gu NoV:=by
 refine⟨λs op v k tg a h x hx=>?_,λs t h=>?_,λs i j h x hx=>?_⟩
 .rw[xy,zS,zG]at hx;rcases hx with hx|rfl
  .exact h x hx
  .exact a
 .unfold NoV;rw[(xS s t).2.1];exact h
 .exact yb3
def xz9{a b:Nat}(h:sg op a b=true):Hc (uA op) a b=true:=by
 unfold sg at h;split at h<;>simp only[zv,beq_iff_eq,decide_eq_true_eq,reduceCtorEq]at h
 all_goals obtain⟨h1,rfl⟩:=h
 all_goals first|(subst h1;rfl)|skip
 simp only[uA,Hc];simp;omega
def zlf(hc:f.YD)(hs:f.sh)(hw:f.cw<=60000)(d:∀t∈(MkS.all f).cs,t.length<=1000)(c:(qD (MkS.all f)).length<=65535):zlk (MkS.all f):=by
 have g:=NL f;simp only[MkS.sz]at g;have a:=(Fx hc hs).1;have hp:=zlg.all f ⟨trivial,rfl⟩;have hv:=yk1.all f (λx hx=>K3);refine⟨d,λx hx=>?_,hp.1,?_,c⟩
 .have h:=a x hx;obtain⟨-,-,b3,i⟩:=ml h;refine⟨b3,by have:=h.2.2.1;omega,λj b=>by have:=h.1 j b;omega,λy hy=>by have:=h.2.2.2.1 y hy;omega,?_,xz9 h.2.2.2.2,λhn=>?_⟩
  .have:=h.2.1;omega
  .rcases hv x hx with e|e|e
   .exact e
   .rw[e]at hn;exact absurd zW hn
   .rw[e]at hn;exact absurd zW hn
 .rw[MkS.all,xy];simp
def Xv(cs:List Wd)(i:uF):Bool :=
 i.k.all (λk=>decide (k<cs.length)) && (match i.k with |[]=>true|k::_=>decide ((uA i.op).head?≠some 110) ||kK (cs.getD k [])) && decide (i.v<=999999999)
def TA(k n d:Nat):List (Option Nat)->(Nat->Option Nat)->Option (Nat->Option Nat)
 |[],D=>some D
 |none::_,_=>none
 |some t::r,D=>if t<=k\/t=n\/(D t).any (· ≠ d)=true then none else TA k n d r (λx=>if t=x then some d else D x)
def ey(op:Nat):Bool:=op≠0 && op≠8 && op≠9 && op≠10 && op≠11
def jU(op d:Nat):Option Nat :=
 if op=0 then (if 0<d then none else some d)
 else if op=4 then (if 6<d+1 then none else some (d+1))
 else if 5<=op/\op<=9 then (if d=0\/6<d then none else some (if op=5 then d - 1 else d))
 else if 6<d then none else some d
def UO(cs:List Wd)(code:List uF):Nat->List uF->(Nat->Option Nat)->Bool
 |_,[],_=>true
 |k,i::r,D=>match D k with
  |none=>false
  |some d=>Xv cs i && match jU i.op d with
   |none=>false
   |some d2=>match TA k code.length d2 ((if ey i.op then [some (k+1)]else [])++i.tg.map (qp code code.length)) D with
    |none=>false
    |some D2=>UO cs code (k+1) r D2
def fg(cs:List Wd)(code:List uF):Bool:=UO cs code 0 code (λx=>if 0=x then some 0 else none)
def qd(b:Wd):Option (List Wd×List uF):=match Su b with
 |none=>none
 |some (cs,code)=>if fg cs code=true then some (cs,code)else none
def eu(s:MkS)(h:zlk s)(hv:fg s.cs s.code=true):qd (qD s)=some (s.cs,s.code):=by
 unfold qd;rw[cr s h];simp only;rw[yK hv]
variable{σ:Type}
section
variable {τ:Type} (E:jY τ)
def sK(s:MkS)(g0:τ):Except (Nat×τ) (Wd×τ) :=
 match VN (Vj E s) s.code.length 0 ⟨[],[],g0⟩ with
 |some (.ok r) => .ok (r.out,r.gs)
 |some (.error (n,r)) => .error (n,r.gs)
 |none => .error (0,g0)
def yc4(P:Nat->Prop)(d:Nat):aA (ZJ τ)->Prop
 |.go k r=>P k/\r.stk.length=d
 |.bad=>False
 |_=>True
variable {E} {s:MkS} {x:uF} {k d2:Nat} {r:ZJ τ} {P:Nat->Prop}
def CR{t:ZJ τ}(a:∀u∈x.tg.map (qp s.code s.code.length),∃j,u=some j/\P j)(hi:i<x.tg.length)(c:t.stk.length=d2):yc4 P d2 (TT s x.tg[i]? t):=by
 rw[zj hi];obtain⟨j,e,b⟩:=a _ (uy.2 ⟨x.tg[i],yf _,rfl⟩);simp only[TT,e];exact⟨b,c⟩
def yk2(hs:∀b d,E.sort b d<6)(hf:Xv s.cs x=true)(hx:sg x.op x.k.length x.tg.length=true)(hd:jU x.op r.stk.length=some d2)
  (c:ey x.op=true->P (k+1)) (g:∀u∈x.tg.map (qp s.code s.code.length),∃j,u=some j/\P j):yc4 P d2 (dI E s x k r):=by
 simp only[Xv,zv]at hf;have l:=zm.1 hf.1.1;have a:0<x.k.length->∃t,X2 s x=some t:=λh=>by
  have h1:=of_decide_eq_true (l x.k[0] (yf _));exact⟨s.cs[x.k[0]],by rw[X2,zj h,yzj,zj h1]⟩
 have f:¬r.stk=[]->∃t,r.stk.getLast? = some t:=λh=>by
  cases hc:r.stk.getLast? with
  |none=>exact absurd (List.getLast?_eq_none_iff.1 hc) h
  |some t=>exact⟨t,rfl⟩
 have i:x.op=0\/x.op=1\/x.op=2\/x.op=3\/x.op=4\/x.op=5\/x.op=6\/x.op=7\/x.op=8\/x.op=9\/x.op=10\/x.op=11\/12<=x.op:=J;unfold dI;rcases i with h|h|h|h|h|h|h|h|h|h|h|h|h
 case inr.inr.inr.inr.inr.inr.inr.inr.inr.inr.inr.inr =>
  unfold sg at hx;split at hx<;>first|omega|cases hx
 all_goals rw[h]at hx hd c|-
 all_goals simp only[sg,zv,beq_iff_eq,decide_eq_true_eq]at hx
 all_goals simp[jU]at hd
 all_goals simp only
 .exact trivial
 .obtain⟨t,e⟩:=a J;rw[e];exact⟨c rfl,hd.2⟩
 .obtain⟨t,e⟩:=a J;rw[e];simp only;generalize VO E t r.gs=z;rcases z with _|⟨⟨_,_⟩,_⟩
  .exact trivial
  .exact⟨c rfl,hd.2⟩
 .obtain⟨t,e⟩:=a J;rw[e];simp only;generalize QJ E t r.gs=z;rcases z with _|⟨_,_⟩
  .exact trivial
  .exact⟨c rfl,hd.2⟩
 .obtain⟨t,e⟩:=a J;rw[e];simp only;generalize QJ E t r.gs=z;rcases z with _|⟨_,_⟩
  .exact trivial
  .exact⟨c rfl,yF⟩
 .obtain⟨t,e⟩:=f hd.1.1;rw[e];exact⟨c rfl,yF⟩
 .obtain⟨t,e⟩:=f hd.1.1;rw[e];exact⟨c rfl,yF⟩
 .obtain⟨t,e⟩:=f hd.1.1;rw[e];simp only;split
  .exact CR g J J
  .exact⟨c rfl,J⟩
 .obtain⟨t,e⟩:=f hd.1.1;rw[e];exact CR g (by have:=hs false t.2.2;omega) J
 .obtain⟨t,e⟩:=f hd.1.1;rw[e];exact CR g (by have:=hs true t.2.2;omega) J
 .obtain⟨t,e⟩:=a J;rw[e];simp only;generalize TS E t r.gs=z;rcases z with _|⟨u,_⟩
  .exact trivial
  .simp only;rw[yK (zm.2 λj m=>l j (xh m))];refine CR g ?_ hd.2;have h1:K5 s x u<=x.k.length - 1:=zg9;omega
 .exact CR g J J
def nu{k o:Nat}:∀(T:List (Option Nat)) (D a:Nat->Option Nat),TA k n o T D=some a->(∀t∈T,∃j,t=some j/\k<j/\j≠n/\a j=some o)/\∀y e,D y=some e->a y=some e
 |[],D,a,h=>by cases h;exact⟨λ_ h=>xp,λ_ _ h=>h⟩
 |none::_,_,_,h=>xp
 |some t::T,D,a,h=>by
  rw[TA]at h;split at h
  .cases h
  .rename_i hc;have b:k<t:=(by omega);have c:t≠n:=λe=>hc (.inr (.inl e))
   have d:∀e,D t=some e->e=o:=λe he=>by
    apply yy;intro q;exact hc (.inr (.inr (by rw[he];simpa using q)))
   obtain⟨h1,h2⟩:=nu T _ _ h;have g:a t=some o:=h2 t o (yK rfl);refine⟨λu f=>?_,λy e he=>?_⟩
   .rcases yV.1 f with rfl|f
    .exact⟨t,rfl,b,c,g⟩
    .exact h1 u f
   .by_cases hy:t=y
    .subst hy;rw[d e he];exact g
    .exact h2 y e (by rw[yv hy];exact he)
def Na(code:List uF):∀(n x k:Nat),qp code n x=some k->k<n
 | 0,x,k,h=>xp
 |n+1,x,k,h=>by
  rw[qp]at h;split at h
  .cases h;omega
  .have:=Na code n x k h;omega
def Lx{F:Nat->σ->aA σ}{o:Except (Nat×σ) σ}:∀(f k:Nat) (t:σ),VN F f k t=some o->VN F (f+1) k t=some o
 | 0,_,_,h=>xp
 |f+1,k,t,h=>by
  rw[VN]at h|-;cases a:F k t with
  |go k' t'=>rw[a]at h;exact Lx f k' t' h
  |fin t'=>rw[a]at h;exact h
  |err n t'=>rw[a]at h;exact h
  |bad=>rw[a]at h;exact h
def nj(hs:∀b d,E.sort b d<6)(f:∀x∈s.code,sg x.op x.k.length x.tg.length=true):∀(l:List uF) (k:Nat) (D:Nat->Option Nat),s.code.drop k=l->UO s.cs s.code k l D=true ->
  ∀(j:Nat) (r:ZJ τ),k<=j->j<s.code.length->D j=some r.stk.length->∃o,VN (Vj E s) l.length j r=some o
 |[],k,D,hd,_,j,r,q,m,_=>by
  rw[List.drop_eq_nil_iff]at hd;omega
 |i::l,k,D,hd,hv,j,r,q,m,h=>by
  have K:k<s.code.length:=J;have hc:=yd K;rw[hd]at hc;obtain⟨A,H⟩:=ZZ hc;rw[UO]at hv;cases c:D k with
  |none=>rw[c]at hv;cases hv
  |some d =>
   rw[c]at hv;simp only[zv]at hv;obtain⟨hf,hv⟩:=hv;cases t:jU i.op d with
   |none=>rw[t]at hv;cases hv
   |some d2 =>
    rw[t]at hv;simp only at hv;split at hv
    .cases hv
    rename_i w L;obtain⟨t1,t2⟩:=nu _ _ _ L;have G:=nj hs f l (k+1) w H.symm hv;by_cases p:j=k
    .subst p;rw[c]at h;obtain rfl:=zL h;have a:=yk2 (E:=E) (s:=s) (x:=i) (k:=j) (r:=r) (P:=λy=>j<y/\y<s.code.length/\w y=some d2) hs hf (f i (by rw[A];exact yf _)) t
      (λv=>by
       obtain⟨y,h1,h2,I,g⟩:=t1 (some (j+1)) (yex _ (by rw[yK v];exact zG.2 rfl));cases h1;exact⟨h2,J,g⟩)
      (λu C=>by
       obtain⟨y,h1,h2,I,g⟩:=t1 u (zy0 _ C);refine⟨y,h1,h2,?_,g⟩;obtain⟨z,_,F⟩:=uy.1 C;rw[h1]at F;exact Na _ _ _ _ F)
     have e:Vj E s j r=dI E s i j r:=(by simp only[Vj,zj m,A]);rw[zY,VN,e];cases B:dI E s i j r with
     |go k' r' =>
      rw[B]at a;obtain⟨⟨a1,a2,a3⟩,a4⟩:=a;exact G k' r' a1 a2 (by rw[a3,a4])
     |fin r'=>exact⟨_,rfl⟩
     |err n r'=>exact⟨_,rfl⟩
     |bad=>rw[B]at a;exact a.elim
    .obtain⟨o,hr⟩:=G j r J m (t2 j _ h);exact⟨o,Lx _ _ _ hr⟩
def zld(hs:∀b d,E.sort b d<6)(a:∀x∈s.code,sg x.op x.k.length x.tg.length=true)(hv:fg s.cs s.code=true)(h0:0<s.code.length)(g0:τ):∃o,VN (Vj E s) s.code.length 0 ⟨[],[],g0⟩=some o :=
 nj hs a s.code 0 _ rfl hv 0 ⟨[],[],g0⟩ (Y _) h0 (yK rfl)
end
def yc5{τ:Type}(G:Nat->Prop)(Inv:τ->z8->Prop)(res:Except (Nat×τ) (Wd×τ))(w:z8)(e:xX)(w':z8):Prop :=
 (match res with
  |.ok (o,g')=>e = .returned (.tuple #[zO o,.nilIface])/\Inv g' w'
  |.error (n,g')=>e = .returned (.tuple #[zO [],kQ n])/\Inv g' w')/\Fr G G w w'
section
variable {τ:Type} {w:z8} {A q mb g:Nat} {G:Nat->Prop} {vC vI:zx} {rs:List (zx×zx)} {E:jY τ} {F S:τ->Nat->Prop} {Inv:τ->z8->Prop}
def sJ{a:Fn}{g1 g2:Array zx}(d:Zu w (A+2) (A+2) G q mb g s vC vI rs (.func a g1 g2) E F S Inv)(hA:(w:Nat)=A){g0:τ}(hi:Inv g0 w)(c:∀k,F g0 k->G k) :
  u9 (A+2) (A+2) q g (.func a g1 g2) G F S Inv ⟨[],[],g0⟩ (rT w (q,0) (g,0) (.func a g1 g2)):=by
 have hf:Fr yH yH w (rT w (.pointer (some ⟨q,0,none⟩)) (g,0) (.func a g1 g2)):=(((Fr.refl _ _).alloc _).alloc _).alloc _;refine⟨.slice none 0 0,.slice none 0 0,[],?_,?_,rfl,d.get.fr hi hf (λ_ q=>q.elim),(by intro h;cases h),λk b=>(by cases b),λk b=>⟨.inl ?_,(λh=>xp),λh=>xp⟩,λk b=>b.elim (λh=>xp) (λh=>by cases h),c⟩
 .have h:=yuq ((w.alloc (.cells #[zO []] 9)).alloc (.cells #[.nilIface] 49)) (zQ q 0) (zQ g 0) (.func a g1 g2);rw[show((w.alloc (.cells #[zO []] 9)).alloc (.cells #[.nilIface] 49)).heap.size=A+2 by simp[hA]]at h;exact h
 .exact xz _ _ _ _
 .have:=d.get.NG g0 w k hi b;omega
def zlb(hv:fg s.cs s.code=true)(o:∀x∈s.code,sg x.op x.k.length x.tg.length=true)(h0:0<s.code.length){b:Fn}{g1 g2:Array zx}(c:Zu w (A+2) (A+2) G q mb g s vC vI rs (.func b g1 g2) E F S Inv)(u:zid s)(hc:s.code.length<=100000)(hA:(w:Nat)=A)(j:¬G A)(l:¬G (A+1)){g0:τ}(hi:Inv g0 w)(i:∀k,F g0 k->G k) :
  zE Tryz.prog 34 #[(q,0),(g,0),.func b g1 g2] w (yc5 G Inv (sK E s g0) w):=by
 have key:∀(fuel:Nat) (r:Except (Nat×ZJ τ) (ZJ τ)),fuel<=s.code.length->VN (Vj E s) fuel 0 ⟨[],[],g0⟩=some r ->
   zE Tryz.prog 34 #[(q,0),(g,0),.func b g1 g2] w (xl5 G (λr=>r.out) (λr W=>Inv r.gs W) r w):=by
  intro fuel r z hr;refine yud G (VmI w (A+2) (A+2) q g (.func b g1 g2) G F S Inv) (VmJ w (A+2) (A+2) q g (.func b g1 g2) G F S Inv) (NC Inv S (A+2)) (λr W=>Inv r.gs W) (λr=>r.out) (Vj E s) fuel ⟨[],[],g0⟩ r w (some ⟨q,0,none⟩) (some ⟨g,0,none⟩) b g1 g2 (by rw[hA];exact j) (by rw[hA];exact l) (λk a=>c.gA k (by rw[hA]at a;exact a)) ?_ ?_ ?_ ?_ hr
  .exact⟨sJ c hA hi i,(((Fr.refl _ _).alloc _).alloc _).alloc _,by show 0+fuel*5000<=_;omega,by show 0+fuel<=_;omega⟩
  .rintro t W ⟨⟨v,st,cs,p,C,y,d,B,D,hS,f,hF⟩,H⟩;rw[hA];refine⟨v,_,_,_,_,p,λk a=>f k (.inl a),by show t.out.length<=_;omega,λW' hf=>c.get.fr d hf λk a hs=>?_⟩;have h1:=hS k hs;rcases a with rfl|rfl|a
   .have:=h1.1;omega
   .have:=h1.1;omega
   .exact h1.2.1 a
  .rintro t W W' ⟨d,hS⟩ hf;rw[hA]at hf;refine c.get.fr d hf λk a hs=>?_
   have h1:=hS k hs;rcases a with rfl|rfl<;>omega
  .intro m k t W d hb;rw[hA];exact yq8 c u d hb
 obtain⟨r,hr⟩:=zld c.srt o hv h0 g0;refine(key _ r (Y _) hr).mono λe w' h=>?_
 unfold sK;rw[hr];rcases r with⟨n,r⟩|r<;>exact h
end
variable{mb:Nat}{vC vI:zx}
def all_nil:MkS.all .nil=⟨[],[⟨0,0,0,[],[]⟩],1⟩:=by
 simp[MkS.all,MkS.Zx,MkS.uw,MkS.start,MkS.put,xE,uA,ue]
def uf.below{rs:List (zx×zx)}(h:uf q s vC vI rs mb w)(hb:zR w w'):uf q s vC vI rs mb w':=by
 have hf:Fr yH yH w w':=Fr.of hb;exact⟨hf.cell h.q0 id,hf.cell h.q1 id,hf.cell h.q2 id,hf.own h.cC (λ_ _ q=>q),hf.own h.cI (λ_ _ q=>q),h.rows.fr hf (λ_ q=>q.elim),h.mp.keep (hb.block mb h.mp.lt)⟩
variable{E:jY Unit}{A:Nat}{w0:z8}
structure xzz{τ:Type}(w:z8)(g:Nat)(E:jY τ):Prop where
 wr:∀W nv n,Fr yH yH w W->fe (λ_=>False) W nv n->zE Tryz.prog 36 #[(g,0),nv] W λe w'=>e = .returned (zO (E.wr n))/\zR W w'
 wrl:∀n:uL,Ng n.2->(E.wr n).length<=5000
 set:∃cv ov,(∀W,Fr yH yH w W->zk W g 0 cv/\zk W g 1 ov) /\
  (∀W nv d,Fr yH yH w W->q9 W nv d->zE Tryz.prog 38 #[cv,nv] W λe w'=>e = .returned (.int .i64 (E.sort false d))/\zR W w') /\
  ∀W nv d,Fr yH yH w W->q9 W nv d->zE Tryz.prog 38 #[ov,nv] W λe w'=>e = .returned (.int .i64 (E.sort true d))/\zR W w'
 srt:∀b d,E.sort b d<6
structure JT{τ:Type}(P q g mb:Nat)(f:Fo)(vC vI:zx)(rs:List (zx×zx))(E:jY τ)(w:z8):Prop where
 p0:zk w P 0 (q,0)
 p1:zk w P 1 (g,0)
 prog:uf q (MkS.all f) vC vI rs mb w
 loc:xzz w g E
 msg:f.ya=true
 ver:fg (MkS.all f).cs (MkS.all f).code=true
 YD:f.YD
 sh:f.sh
 cw:f.cw<=90000
def yk3(f:Fo):0<(MkS.all f).code.length:=by
 rw[MkS.all,xy];simp
section
variable {P q g mb:Nat} {f:Fo} {vC vI:zx} {rs:List (zx×zx)} {w:z8}
def KV{w:z8}(h:Fr yH yH w w'):zR w w':=⟨h.os,h.tape,h.output,h.size,λk a=>h.keep k a id⟩
def JT.env(h:JT P q g mb f vC vI rs E w)(hf:Fr yH yH w w0)(hA:(w0:Nat)=A){b z:Nat}{fm:Wd->Option (Wd×Bool)} :
  Zu w0 (A+2) (A+2) (λk=>A+2<=k) q mb g (MkS.all f) vC vI rs (zl3 c) (sf E fm) (λ_=>yH) (λ_ k=>k=b\/k=c) (yqx b c n z fm):=by
 obtain⟨a1,a2,a3,a4,j⟩:=S1 h.YD h.sh h.cw;have e:∀W,Fr (λk=>A+2<=k) (λk=>A+2<=k) w0 W->Fr yH yH w W:=λW a=>hf.over a (λq r => .inr (by have:=hf.size;omega))
 obtain⟨cv,ov,m,o,p⟩:=h.loc.set;exact⟨λW a=>h.prog.below (KV (e W a)),λW i n a=>h.loc.wr W i n (e W a),h.loc.wrl,⟨cv,ov,λW a=>m W (e W a),λW i d a=>o W i d (e W a),λW i d a=>p W i d (e W a)⟩,h.loc.srt,S3 E b c n z fm,J,a3,a4,j,λk l=>l,Y _⟩
def yk4{τ:Type}(res:Except (Nat×τ) (Wd×τ))(a b:zx):Prop:=match res with |.ok (o,_)=>a=zO o/\b = .nilIface |.error (n,_)=>a=zO []/\b=kQ n
def ej{τ:Type}{G:Nat->Prop}{Inv:τ->z8->Prop}{c:Except (Nat×τ) (Wd×τ)}{w:z8}{e:xX}(h:yc5 G Inv c w e w'):∃a b,e = .returned (.tuple #[a,b])/\yk4 c a b/\Fr G G w w':=by
 obtain⟨h1,h2⟩:=h;match c,h1 with
 |.ok (o,g'),h1=>exact⟨_,_,h1.1,⟨rfl,rfl⟩,h2⟩
 |.error (n,g'),h1=>exact⟨_,_,h1.1,⟨rfl,rfl⟩,h2⟩
def vex(E:jY Unit)(f:Fo)(z:Nat)(fm:Wd->Option (Wd×Bool))(w:z8)(e:xX)(w':z8):Prop :=
 ∃a b,e = .returned (.tuple #[a,b])/\(Xt fm z/\yk4 (sK (sf E fm) (MkS.all f) ()) a b\/¬Xt fm z/\a=zO []/\b=kQ 11)/\Fr yH yH w w'
def Sj(h:JT P q g mb f vC vI rs E w){b z:Nat}{fm:Wd->Option (Wd×Bool)}(hm:fk w b n z fm)(K:∀m x,fm m=some x->m.length<=5000000/\x.1.length<=1000000)(L:z<=1000000000) :
  zE Tryz.prog 20 #[(P,0),.map (some b)] w (vex E f z fm w):=by
 have l:=Z h;have y:=Z (zl6 hm K L);clear h hm K L;go_enter func20,ntmps20;go_wp2_with fail;refine y.o.mono ?_;rintro e w1 ⟨⟨u,c,rfl,H,hc⟩|⟨t,rfl⟩,d⟩
 .have r:=Z d;have C:=Z u;have c0:=d.cell l.o.p0 id;have c1:=d.cell l.o.p1 id;have G:=l.o.env (w0:=w1.drew) d.drew (A:=(w1:Nat)) rfl (b:=b) (c:=c) (n:=n) (z:=z) (fm:=fm);have j:=S1 l.o.YD l.o.sh l.o.cw;have F:=Z (zlb l.o.ver (λx hx=>((Fx l.o.YD l.o.sh).1 x hx).2.2.2.2) (yk3 f) G j.1 j.2.1 rfl (show ¬(w1:Nat)+2<=(w1:Nat)by omega) (show ¬(w1:Nat)+2<=(w1:Nat)+1 by omega) (g0:=()) (show yqx b c n z fm () w1.drew from(S3 E b c n z fm).fr H ((Fr.refl yH w1).drew) (λ_ q=>q.elim)) (λk q=>q.elim));clear G j H hc y u d;go_wp2_with fail;refine Vy (λW':z8=>zk W' P 0 (.pointer (some ⟨q,0,none⟩))/\zk W' P 1 (zQ g 0)) (xH 9) 5 ⟨c0,c1⟩ ?_;refine gU 9 (λM I=>?_);go_simp;refine F.o.mono ?_;intro e w2 v;obtain⟨a,N,rfl,p,s⟩:=ej v;have i:Fr yH yH w1 w2:=((Fr.refl yH w1).drew).over s (λq v => .inr (by have:(w1:Nat)+2<=q:=v;omega));have d0:=i.cell c0 id;have d1:=i.cell c1 id;have D:=Z (zf p i);clear v p s i F;refine I.out _ _ ⟨d0,d1⟩ λ_=>?_
  clear I M;refine Ve [10,11,12,13] 0 ⟨d0,d1⟩ ?_;refine Y5 ?_ _;clear d0 d1 c0 c1;go_wp2;go_ret2
  exact⟨a,N,rfl,.inl ⟨C.o,D.o.1⟩,r.o.trans D.o.2⟩
 .have r:=Z d;have B:=Z t;clear d t y;go_wp2;go_ret2
  exact⟨_,_,rfl,.inr ⟨B.o,rfl,rfl⟩,r.o⟩
end
def CS{l:List Wd}(a:∀t∈l,t.length<=1000000):∀(p:Nat×(Wd->Option (Wd×Bool))),(∀m x,p.2 m=some x->m.length<=1000000/\x.1.length<=1000000)->∀m x,(jT l p).2 m=some x->m.length<=1000000/\x.1.length<=1000000:=by
 match l with
 |[]=>exactλp h=>h
 |[_]=>exactλp h=>h
 |[_,_]=>exactλp h=>h
 |k::d::t::r =>
  intro p h;rw[jT];refine CS (l:=r) (λu b=>a u (by simp[b])) _ λm x hx=>?_
  simp only at hx;split at hx
  .next e =>
   cases hx;exact⟨by rw[<-e];exact a k zV,a t zV⟩
  .exact h m x hx
def KU:∀(n:Nat) (l:List Wd),l.length<=n->∀(p:Nat×(Wd->Option (Wd×Bool))),(jT l p).1<=p.1+l.length
 |_,[],_,p=>kY _ _
 |_,[_],_,p=>kY _ _
 |_,[_,_],_,p=>kY _ _
 | 0,_::_::_::_,h,_=>Vr
 |n+1,k::d::t::r,h,p=>by
  obtain⟨q,a⟩:=zw ((if (p.2 k).isSome then p.1 else p.1+1));have b:q<=p.1+1:=by rw[<-a];split<;>omega
  rw[jT,a];have:=KU n r GV (q,λm=>if k=m then some (t,d==[110])else p.2 m);simp only[zY]at this|-;omega
def fk.FN{w:z8}{b z:Nat}{f:Wd->Option (Wd×Bool)}(h:fk w b n z f)(m:Wd)(hm:m.length<=5000000) :
  (Jr 61 (.map (some b)) (zO m) false).run Tryz.prog w = .ok (CJ ((f m).getD ([],false))) w:=by
 obtain⟨D,h1,-,e⟩:=h;obtain⟨v,ps,a,hv⟩:=h1.lookup (xf underlying9) underlying61 (z:=CJ ([],false)) K1 (zd:=VP ([],false)) (zp:=[]) (NM _ zV)
  (key:=zO m) (yT (s:=⟨m.toArray⟩) underlying9 Vi)
 rw[toList_mk]at hv;obtain⟨x,c,d,-⟩:=CG hv;have he:D.atKey (.string m) (VP ([],false))=VP x:=congrArg Prod.fst d;rw[(e m).2]at he;rw[a,c,CF he]
section
variable {P q g mb:Nat} {f:Fo} {vC vI:zx} {rs:List (zx×zx)} {w:z8}
def CT(E:jY Unit)(f:Fo)(z:Nat)(fm:Wd->Option (Wd×Bool))(s:Wd)(k:Nat):Prop :=
 Xt fm z/\(match sK (sf E fm) (MkS.all f) ()with |.ok (o,_)=>s=o/\k=0 |.error (n,_)=>s=[]/\k=n)\/¬Xt fm z/\s=[]/\k=11
def yk5{z:Nat}{fm:Wd->Option (Wd×Bool)}{a b:zx}(h:Xt fm z/\yk4 (sK (sf E fm) (MkS.all f) ()) a b\/¬Xt fm z/\a=zO []/\b=kQ 11) :
  ∃s k,CT E f z fm s k/\a=zO s/\(k=0/\b = .nilIface\/b=kQ k):=by
 rcases h with⟨h1,h2⟩|⟨h1,rfl,rfl⟩
 .unfold yk4 at h2;unfold CT;split at h2
  .next o g' he=>exact⟨o,0,.inl ⟨h1,by rw[he];exact⟨rfl,rfl⟩⟩,h2.1,.inl ⟨rfl,h2.2⟩⟩
  .next n g' he=>exact⟨[],n,.inl ⟨h1,by rw[he];exact⟨rfl,rfl⟩⟩,h2.1,.inr h2.2⟩
 .exact⟨[],11,.inr ⟨h1,rfl,rfl⟩,rfl,.inr rfl⟩
def sG{b:zx}(h:k=0/\b = .nilIface\/b=kQ k)(w:z8)(a:JM w):zE Tryz.prog 15 #[b] w (UH (k:Nat) 0 w):=by
 rcases h with⟨rfl,rfl⟩|rfl
 .exact UI w
 .exact ziy _ w a
def JT.fr{τ:Type}{E:jY τ}(h:JT P q g mb f vC vI rs E w)(hf:Fr yH yH w w'):JT P q g mb f vC vI rs E w':=by
 obtain⟨cv,ov,c,e,i⟩:=h.loc.set;exact⟨hf.cell h.p0 id,hf.cell h.p1 id,h.prog.below (KV hf),⟨λW b n a=>h.loc.wr W b n (hf.trans a),h.loc.wrl,⟨cv,ov,λW a=>c W (hf.trans a),λW b d a=>e W b d (hf.trans a),λW b d a=>i W b d (hf.trans a)⟩,h.loc.srt⟩,h.msg,h.ver,h.YD,h.sh,h.cw⟩
def CW{w:z8}(hb:zR w w'):Fr yH yH w w':=⟨hb.os,hb.tape,hb.output,hb.size,λk a _=>hb.block k a,λ_ q => .inl q⟩
def Yf(h:JT P q g mb f vC vI rs E w)(hR:JM w){l:List Wd}{a:Option yI}(ht:YC w a l)(hn:l.length=n)(hl:∀t∈l,t.length<=1000000)(T:n<=1000000) :
  zE Tryz.prog 10 #[(P,0),.slice a n c] w λe w'=>(∃s k,e = .returned (.tuple #[zO s,.int .i64 (k:Nat),.bool true])/\CT E f (jT l (0,λ_=>none)).1 (jT l (0,λ_=>none)).2 s k)/\Fr yH yH w w':=by
 obtain⟨z,hz⟩:=zw ((jT l (0,λ_=>none)).1);obtain⟨fm,b⟩:=zw ((jT l (0,λ_=>none)).2);have U:∀m x,fm m=some x->m.length<=1000000/\x.1.length<=1000000:=by rw[<-b];exact CS hl _ (λm x hx=>K3)
 have V:z<=1000000:=by rw[<-hz];have:=KU _ l (Y _) (0,λ_=>none);simp only at this;omega
 have HV:=Z (λ(W:z8) (hf:Fr yH yH w W)=>S9 (c:=c) (ht.fr hf) hn hl T);rw[hz,b]at HV;rw[hz,b];obtain⟨HH,HR,HS,HZ⟩:=hdd h hR U V;clear h hR ht hn hl T hz b U V;go_enter func10,ntmps10;go_wp2_with fail;refine(HV.o w (Fr.refl _ _)).mono ?_;rintro e w1 ⟨rfl,⟨N,hN,v⟩,B⟩;have HF:=Z (Sj (HH.o.fr B) v (λm x hx=>⟨zg (HS.o m x hx).1 J,(HS.o m x hx).2⟩) (by have:=HZ.o;omega));have H1:=Z (zf v B);obtain⟨b1,L⟩:=zw (w:Nat);rw[L]at HF H1|-;clear v B L hN;go_wp2_with fail;refine HF.o.mono ?_;rintro e w2 ⟨r1,r2,rfl,hr,C⟩;obtain⟨s,k,hs,rfl,hk⟩:=yk5 hr;have d:=H1.o.2.trans C;have H2:=Z (zf (H1.o.1.fr C id) d);have HT:=Z (sG hk w2 (HR.o.below (KV d)));have HQ:=Z hs;clear hr hs hk C d HF H1;go_wp2_with fail;refine HT.o.mono ?_;rintro e w3 ⟨rfl,A⟩;have O:=H2.o.2.trans (CW A);have H:=Z (zf (H2.o.1.fr (CW A) id) O);clear A O H2 HT;go_wp2_with fail;refine(HV.o w3 H.o.2).mono ?_;rintro e w4 ⟨rfl,⟨N4,hN4,m4⟩,p⟩;obtain⟨b4,M⟩:=zw (w3:Nat);rw[M]at m4|-;have v:=H.o.1.fr p id;have l1:=v.len 3;have l4:=m4.len 3;obtain⟨w5,hrg,y,D,hs5⟩:=m4.range;obtain⟨r,hr⟩:=zw (w4:Nat);rw[hr]at hrg y;have Q:=(H.o.2.trans p).over (jX D) (λq hq=>by cases hq);have hlb:=v.lt;have H5:=Z (zf y (zf (v.fr (jX D) (λq=>kG)) (zf Q (show b1≠r by omega))));have EC:=Z (zf hr (show (w:Nat)<=(w4:Nat) from(H.o.2.trans p).size));clear y D hs5 Q v m4 p M hlb H hr HV hN4;go_wp2_with fail;go_loopw [13] (λsv wr=>∃left cnt,sv = .bool true/\CD wr b4 r N4 fm left cnt/\fk wr b1 N z fm/\Fr yH yH w wr) (λ_ wr=>wr.rangeLeft b4 r)
 case atStart=>exact⟨_,_,rfl,H5.o.1,H5.o.2.1,H5.o.2.2.1⟩
 case round =>
  obtain⟨left,cnt,rfl,j,hm,hf⟩:=hrel;have u:=Z (zf j hf);rcases j.next 0 with⟨-,hno,i⟩|⟨m,x,w',ve9,hlm,b,i,K,S,F,Z0,hen⟩
  .have i:=λty=>(DW (r,0) ty 0 wr).trans i
   clear j hm hf hno;go_wp2;go_ret3
   exact⟨⟨s,k,rfl,HQ.o⟩,u.o.2⟩
  .have i:=λty=>(DW (r,0) ty 0 wr).trans i
   obtain⟨t,num⟩:=x;have R:Fr yH yH w w':=hf.over (jX F) (λq hq => .inr (by cases hq;have:=EC.o;omega));have G:fk w' b1 N z fm:=hm.fr (jX F) (λq=>H5.o.2.2.2 (zL q).symm);have TO:=λo=>(G.fr ((Fr.refl yH w').alloc o) id).FN m (by have:=(HS.o m _ b).1;omega)
   rw[b]at TO;have I:=Z (zf K (zf S (zf R G)));clear j hm hf K S F Z0 hlm b R G;go_wp2;go_roundw
   case measure =>
    rw[(I.o.1.fr ((Fr.refl yH w').alloc _) id id).left_eq,u.o.1.left_eq];exact I.o.2.1
   case rel =>
    exact⟨_,_,rfl,I.o.1.fr ((Fr.refl yH w').alloc _) id id,I.o.2.2.2.fr ((Fr.refl yH w').alloc _) id,I.o.2.2.1.alloc _⟩
end
variable{cv ov:zx}
def UP(h:uo l = .ok f):vv l = .ok f/\fD f=none:=by
 unfold uo at h;cases hp:vv l with
 |error e=>rw[hp]at h;cases h
 |ok g =>
  rw[hp]at h;dsimp only at h;cases hc:fD g with
  |some e=>rw[hc]at h;cases h
  |none=>rw[hc]at h;cases h;exact⟨rfl,hc⟩
def qg.below(h:qg w)(hb:zR w w'):qg w' :=
 h.fr (F:=yH) (F':=yH) (B:=2+1) (Fr.of hb) (λ_ q=>q.elim) (dK _)
structure Zr(w:z8):Prop where
 tabs:cJ w
 names:qu w
 Sg:qg w
def Zr.below(h:Zr w)(hb:zR w w'):Zr w':=⟨h.tabs.below hb,h.names.below hb,h.Sg.below hb⟩
structure CA(P q g mb:Nat)(f:Fo)(vC vI:zx)(rs:List (zx×zx))(mi po gr:Int)(fi ne:Nat)(dg:List UInt8)(cv ov:zx)(w:z8):Prop where
 p0:zk w P 0 (q,0)
 p1:zk w P 1 (g,0)
 prog:uf q (MkS.all f) vC vI rs mb w
 gl:g<(w:Nat)
 loc:Hd w g mi po gr fi ((if ne=0 then fi else ne:Nat):Int) (xk (Jy dg))
 g0:zk w g 0 cv
 g1:zk w g 1 ov
def CA.below{P g:Nat}{rs:List (zx×zx)}{ne:Nat}(h:CA P q g mb f vC vI rs mi po gr fi ne dg cv ov w)(hb:zR w w'):CA P q g mb f vC vI rs mi po gr fi ne dg cv ov w':=yb7
def xm7(kn:Bool)(r:Except (Nat×Nat) Fo)(mi po gr:Int)(fi ne:Nat)(dg:List UInt8)(Qc Qo:z8->zx->Prop)(w:z8)(e:xX)(w':z8):Prop :=
 zR w w' /\
 if kn=false then e = .returned (.tuple #[.pointer none,cX 8])
 else match r with
  |.error (n,a)=>∃b,e = .returned (.tuple #[.pointer none,.iface 72 (.pointer (some ⟨b,0,none⟩))])/\zk w' b 0 n/\zk w' b 1 a
  |.ok f=>∃P q g mb vC vI rs cv ov,e = .returned (.tuple #[.pointer (some ⟨P,0,none⟩),.nilIface])/\CA P q g mb f vC vI rs mi po gr fi ne dg cv ov w'/\(∀W,zR w' W->Qc W cv)/\∀W,zR w' W->Qo W ov
def Nc(s:ByteArray)(c o:zx)(ra rb:Bool)(mi po gr:Int)(fi ne:Nat)(dg:ByteArray)(M N:z8->zx->Prop)(w:z8)(hs:s.size<=1000000)(hd:dg.size<=1000000)(O:fi<=255)(P:ne<=255)
  (hc:ql w c ra M) (T:ql w o rb N) (A:(∃a n k,c = .slice a n k)/\∃a n k,o = .slice a n k) (Q:Zr w) :
  zE Tryz.prog 16 #[.string s,Hb c o mi po gr fi ne dg] w (xm7 (xl ra rb mi po gr fi ne dg.data.toList) (uo s.data.toList) mi po gr fi ne dg.data.toList M N w):=by
 obtain⟨V,HO,I,H⟩:=hdd hc T A Q;clear hc T A Q;go_enter func16,ntmps16;go_wp2_with fail;refine yw ?_;intro W hW;have hb:zR w W:=QB;clear hW;refine(Cd c o ra rb mi po gr fi ne dg M N W hd O P (V.o.later hb) (HO.o.later hb) I.o (H.o.below hb).tabs.rr).mono ?_;rintro e w1 ⟨qI,Dx⟩;have XR:zR w w1:=hb.trans (qI.mono hb.size);obtain⟨kn,x⟩:=zw (xl ra rb mi po gr fi ne dg.data.toList);rw[x]at Dx;have oH:=Z x;clear x;cases kn
 .exact zjg
 .rw[yK rfl]at Dx;obtain⟨g,cv,ov,rfl,hg0,FD,S,c0,c1,F,G⟩:=Dx;obtain⟨HX,HQC,HQO,HC0,HC1⟩:=G0 S F G c0 c1;clear S F G hb qI c0 c1;obtain⟨r,hr⟩:=zw (uo s.data.toList);have u:=Z (R9 s w1 J (H.o.below XR).tabs.rr (H.o.below XR).names);rw[hr]at u|-;have HR:=Z hr;clear hr;go_wp2_with fail;refine u.o.mono ?_;rintro e w2 ⟨U,j⟩;have d:=XR.trans (j.mono XR.size);clear u;cases r with
  |error en =>
   obtain⟨n,a⟩:=en;obtain⟨v,b,rfl,⟨va,vn,vk,rfl⟩,f0,f1⟩:=U;clear j;go_wp2;go_ret2
   refine⟨d,?_⟩;rw[yv zxg,HR.o];exact⟨b,rfl,f0,f1⟩
  |ok f =>
   obtain⟨⟨a,k,vs,rfl,t,B⟩,l⟩:=U;obtain⟨C,D⟩:=UP HR.o;obtain⟨k1,k2⟩:=CH C D;have h:=H.o.below d;have K:=Z (zeu f w2 a k vs t B (Y _) l.msg l.wf k1 (by have:=l.len;omega) J h.Sg h.names);obtain⟨L,R⟩:=zw f.len;rw[R]at K|-;clear t B l C D k1 k2 h R;go_wp2_with fail;refine K.o.mono ?_;rintro e w3 ⟨q,vC,vI,rs,mb,rfl,E,hq0,y⟩;have p:=j.trans (y.mono j.size);have m:=d.trans (y.mono d.size);have HPA:=Z E;clear E K;go_wp2;go_ret2
   obtain⟨z,hz⟩:=zw (w3:Nat);have LW:=λi=>zZ w3 #[(q,0),(g,0)] 59 (0,0) i
   have Ke:yE w3 w3 (w3.alloc (.cells #[(zQ q 0),(zQ g 0)] 59)):=(zu _ _).alloc (Y _) _;have LA:=p.trans (Ke.mono p.size);have yiy:Fr yH yH w1 _:=Fr.of LA;refine⟨m.trans (Ke.mono m.size),?_⟩;exact ydq
def zm0(b:Nat)(n a:Int)(w:z8)(h:JM w)(h0:zk w b 0 n)(h1:zk w b 1 a) :
  zE Tryz.prog 15 #[.iface 72 (b,0)] w (UH n a w):=by
 have k:=Z h;have i:=Z h0;have j:=Z h1;have f:b<(w:Nat):=X w _ h0;clear h h0 h1;go_enter func15,ntmps15;go_wp2_with fail;refine yw ?_;intro W hW;have hb:zR w W:=MY;have m:(w:Nat)+2<=(W:Nat):=by rw[hW];simp
 have hA:zk W (w:Nat) 0 (.pointer none)/\W.frozen? (zQ (w:Nat) 0)=false:=Wc;clear hW;refine(zi9 ⟨b,0,none⟩ ⟨(w:Nat),0,none⟩ _ W (k.o.below hb) hA.1 hA.2).mono ?_;rintro e w2 ⟨rfl,p1,p2,q,r,hw2⟩;have d:yE w W w2:=zd5;have c:=hb.trans d;have l:zk w2 (w:Nat) 0 (b,0):=by
  rw[hw2,zr,yK rfl];rw[zc _ _ _ yF,zc _ _ _ yF,zc _ _ _ yF,zc _ _ _ AL,hA.1];rfl
 have d0:=(c.cell (p:=(zQ b 0)) f).trans i.o;have d1:=(c.cell (p:=(zQ b 1)) f).trans j.o;clear hw2 d hA;have g:zk w2.drew (w:Nat) 0 (zQ b 0)/\zk w2.drew b 0 n/\zk w2.drew b 1 a:=⟨l,d0,d1⟩;go_wp2_with fail;refine Vy (λW':z8=>zk W' (w:Nat) 0 (zQ b 0)/\zk W' b 0 n/\zk W' b 1 a) [0,1,2,3,4,5,6,7,8,9] 0 g ?_;refine Y5 ?_ _;go_wp2;go_ret2
 exact⟨rfl,c.drew⟩
def xzy(kn:Bool)(r:Except (Nat×Nat) Fo)(mi po gr:Int)(fi ne:Nat)(dg:List UInt8)(Qc Qo:z8->zx->Prop)(w:z8)(e:xX)(w':z8):Prop :=
 zR w w' /\
 if kn=false then e = .returned (.tuple #[.pointer none,.int .i64 8,.int .i64 0])
 else match r with
  |.error (n,a)=>e = .returned (.tuple #[.pointer none,n,a])
  |.ok f=>∃P q g mb vC vI rs cv ov,e = .returned (.tuple #[.pointer (some ⟨P,0,none⟩),.int .i64 0,.int .i64 0])/\CA P q g mb f vC vI rs mi po gr fi ne dg cv ov w'/\(∀W,zR w' W->Qc W cv)/\∀W,zR w' W->Qo W ov
def Ni(s:ByteArray)(c o:zx)(ra rb:Bool)(mi po gr:Int)(fi ne:Nat)(dg:ByteArray)(y z:z8->zx->Prop)(w:z8)(hs:s.size<=1000000)(hd:dg.size<=1000000)(A:fi<=255)(B:ne<=255)
  (hc:ql w c ra y) (E:ql w o rb z) (p:(∃a n k,c = .slice a n k)/\∃a n k,o = .slice a n k) (D:Zr w) :
  zE Tryz.prog 7 #[.string s,Hb c o mi po gr fi ne dg] w (xzy (xl ra rb mi po gr fi ne dg.data.toList) (uo s.data.toList) mi po gr fi ne dg.data.toList y z w):=by
 obtain⟨F,G,x,C⟩:=hdd hc E p D;clear hc E p D;go_enter func7,ntmps7;go_wp2_with fail;refine yw ?_;intro W hW;have hb:zR w W:=QB;clear hW;refine(Nc s c o ra rb mi po gr fi ne dg y z W hs hd A B (F.o.later hb) (G.o.later hb) x.o (C.o.below hb)).mono ?_;rintro e w1 ⟨j,h⟩;have d:zR w w1:=hb.trans (j.mono hb.size);have i:=C.o.below d;obtain⟨I,m⟩:=zw (xl ra rb mi po gr fi ne dg.data.toList);rw[m]at h;have oH:=Z m;clear m;cases I
 .rw[yK rfl]at h;subst h;have l:=Z (Cg 8 w1 i.tabs.err);clear hb j i;go_wp2_with fail;refine l.o.mono ?_;rintro e w2 ⟨rfl,qX⟩;have QK:=d.trans (qX.mono d.size);clear l qX;go_wp2;go_ret3
  refine⟨QK,?_⟩;rw[yK oH.o];rfl
 .rw[yv zV]at h;obtain⟨r,hr⟩:=zw (uo s.data.toList);rw[hr]at h;have HR:=Z hr;clear hr;cases r with
  |error en =>
   obtain⟨n,a⟩:=en;obtain⟨b,rfl,f0,f1⟩:=h;have l:=Z (zm0 b n a w1 i.tabs.err f0 f1);clear hb j i f0 f1;go_wp2_with fail;refine l.o.mono ?_;rintro e w2 ⟨rfl,qX⟩;have QK:=d.trans (qX.mono d.size);clear l qX;go_wp2;go_ret3
   exact Ak
  |ok f =>
   obtain⟨P,q,g,mb,vC,vI,rs,cv,ov,rfl,t,u,v⟩:=h;have l:=Z (UI w1);have H:=Z t;have HQ:=Z (zf u v);clear hb j i t u v;go_wp2_with fail;refine l.o.mono ?_;rintro e w2 ⟨rfl,qX⟩;have QK:=d.trans (qX.mono d.size);have iO:=Z (H.o.below qX);clear l;go_wp2;go_ret3
   exact yb4
variable{W W':z8}
def bP.grown{row:Option Nat}(h:bP W q)(b:W.grownBy W' row)(a:some q≠row):bP W' q :=
 ⟨b.cell h.c0 a,b.cell h.c1 a,b.cell h.c2 a,(zU (b.block q h.lt a)).trans h.z0,(zU (b.block q h.lt a)).trans h.z1,(zU (b.block q h.lt a)).trans h.z2,zC h.lt b.size⟩
def bP.set(h:bP W q){a:yI}(ha:a.block≠q)(u:zx):bP (W.setCell a u) q :=
 have hb:(W.setCell a u).heap[q]? = W.heap[q]? := yX _ _ _ _ (λe=>ha e.symm);⟨(yD hb).trans h.c0,(yD hb).trans h.c1,(yD hb).trans h.c2,(zU hb).trans h.z0,(zU hb).trans h.z1,(zU hb).trans h.z2,by simpa[xu]using h.lt⟩
def Ca{p:yI}(h:yJ w (some p) (xB l)):∀j u,(vu l)[j]? = some u->w.cell? (p.add j)=some u:=by
 intro j u hu;have hj:j<(xB l).length:=Wb;obtain⟨b,hb,hc⟩:=h j hj;cases hb;rw[hc];exact Wy
def Sf(l:List UInt8):∀u∈vu l,u.oneCell'=true:=Wq
def Md{base g:Nat}{a:List UInt8}{b:Bool}(h:w.ownsRow base e 1 (.slice (g,0) n cap) n (vu a++xs))(ha:a≠[])(hc:zk w g 0 (.bool b)):False:=by
 cases a with
 |nil=>exact ha rfl
 |cons c t =>
  have hn:0<n:=by have:=h.1;simp[vu]at this;omega
  have:=h.cellAt 0 J;rw[hc]at this;simp[vu]at this
def yk6(v:zx)(x:Dg)(m:Nat)(w:z8)(h:q9 w v x)(hm:m<=1000000000)(hm0:0<m) :
  zE Tryz.prog 168 #[v,m] w (kl (xU (UG x.1 m),x.2) w):=by
 have L:=h.ok;have pj:=L.C9;have hl2:=L.Dk;have HH:=Z h;have HO:=Z L;obtain⟨b,g,go,cap,rfl,_,_,_,_,_⟩:=h;obtain⟨D,P⟩:=bY w (.cells #[.bool b,.slice (g,go) (x.1.length+x.2.length) cap,.int .i64 x.2.length] 99);have V:((w.alloc (.cells #[.bool b,.slice (g,go) (x.1.length+x.2.length) cap,.int .i64 x.2.length] 99)).alloc (.cells #[.bool false,.slice none 0 0,.int .i64 0] 99)).cell? (w,0)=some (.bool b) /\
   ((w.alloc (.cells #[.bool b,.slice (g,go) (x.1.length+x.2.length) cap,.int .i64 x.2.length] 99)).alloc (.cells #[.bool false,.slice none 0 0,.int .i64 0] 99)).cell? (w,1)=some (.slice (g,go) (x.1.length+x.2.length) cap) /\
   ((w.alloc (.cells #[.bool b,.slice (g,go) (x.1.length+x.2.length) cap,.int .i64 x.2.length] 99)).alloc (.cells #[.bool false,.slice none 0 0,.int .i64 0] 99)).cell? (w,2)=some (.int .i64 x.2.length):=⟨uK,uK,uK⟩
 clear L;go_enter func168,ntmps168;go_wp2_with fail;generalize (w.alloc (.cells #[.bool b,.slice (g,go) (x.1.length+x.2.length) cap,.int .i64 x.2.length] 99)).alloc (.cells #[.bool false,.slice none 0 0,.int .i64 0] 99)=W at D P V|-;obtain⟨k0,k1,k2⟩:=V;have H:(w:Nat)<(W:Nat):=X W _ k0;refine(Nf _ x _ (HH.o.below D)).mono ?_;rintro e w1 ⟨⟨ad',rY,rfl,VK,XY,hB⟩,qI⟩;have Q:=P.below qI;have E:zR w w1:=D.trans (qI.mono D.size);have j0:=(qI.cell (p:=(w,0)) H).trans k0;have j1:=(qI.cell (p:=(w,1)) H).trans k1;have j2:=(qI.cell (p:=(w,2)) H).trans k2;have HB:=Z hB;clear D P qI k0 k1 k2 hB H;have y:=λl=>zck l m hm0
 have N:=Z y;clear y;go_wp2_with fail;go_loop [5,12] (λr i=>∃k:Nat,k<=x.1.length/\i = .int .i64 k/\r = .int .i64 (UG (x.1.take k) m)) (λ_ i=>x.1.length - (intOf i).toNat)
 case atStart=>exact⟨0,zJ _,rfl,rfl⟩
 case round =>
  obtain⟨k,hk,rfl,rfl⟩:=hrel;by_cases y:k<x.1.length
  .obtain⟨p,rfl,hc⟩:=HB.o k (by rw[xW];exact y);have hvm:(xB x.1)[k]'(by rw[xW];exact y)=(x.1[k].toNat:Int) - 48:=(by simp[xB]);rw[hvm]at hc;have hd:=(vy _).1 (zm.1 HO.o.zcb _ (yf y));have hL:=N.o (x.1.take k);have hsn:UG (x.1.take (k+1)) m=(10*UG (x.1.take k) m+(x.1[k].toNat - 48)) % m:=(by rw[yj y,C5]);have T:=Z hsn;obtain⟨r,hr⟩:∃r,r=UG (x.1.take k) m:=⟨_,rfl⟩;obtain⟨d,hdd⟩:∃d:Nat,(d:Int)=(x.1[k].toNat:Int) - 48:=⟨x.1[k].toNat - 48,J⟩;have Ec:x.1[k].toNat - 48=d:=J;rw[<-hdd]at hc;rw[<-hr,Ec]at T;rw[<-hr]at hL|-;have hd9:d<=9:=J;have hmz:¬((m:Int)=0):=J;clear hsn hvm hd hr hdd Ec;go_wp2;exact⟨⟨k+1,J,uN,by rw[T.o];go_num⟩,by simp[intOf];omega⟩
  .obtain rfl:k=x.1.length:=(by omega);have D4:=N.o (x.1.take x.1.length);rw[YP]at D4|-;clear N HB;obtain⟨r,hr⟩:∃r,r=UG x.1 m:=⟨_,rfl⟩;have HR:=Z hr;rw[<-hr]at D4|-;clear hr;go_wp2_with fail;refine(X8 r _ J).mono ?_;rintro e w2 ⟨⟨g2,GJ,rfl,ho⟩,z⟩;have lu:=Q.below z;have M:zR w w2:=E.trans (z.mono E.size);have R:(w:Nat)<(w1:Nat):=X w1 _ j0;have i0:=(z.cell (p:=(w,0)) R).trans j0;have i1:=(z.cell (p:=(w,1)) R).trans j1;have i2:=(z.cell (p:=(w,2)) R).trans j2;have Ik:=(ho.lt g2 rfl);have yby:=Z Q.lt;clear z j0 j1 j2 Q E;go_wp2_with (fail);have F:∃j,j=w2.alloc (.cells #[.bool false,.slice (g2,0) (xU r).length GJ,.int .i64 0] 99)/\zR w2 j/\j.heap.size=(w2:Nat)+1 /\
     j.cell? (w2,0)=some (.bool false)/\zk j (w2:Nat) 1 (.slice (g2,0) (xU r).length GJ)/\j.cell? (w2,2)=some (.int .i64 0) /\
     j.frozen? (w2,0)=false/\j.frozen? (w2,1)=false/\j.frozen? (w2,2)=false /\
     j.ownsRow (w1:Nat) 5 1 (.slice (g2,0) (xU r).length GJ) (xU r).length (vu (xU r)) :=
    ⟨_,rfl,(zu _ _).alloc (Y _) _,zV,uK,uK,uK,uK,by go_simp,by go_simp,ho.alloc _⟩
   obtain⟨j,U,A,hs3,q0,q1,q2,y0,y1,y2,I⟩:=F;rw[<-U];have f:=lu.below A;have G:(w:Nat)<(w2:Nat):=X w2 _ i0;have S:=(A.cell (p:=(zQ (w:Nat) 0)) G).trans i0;have o1:=(A.cell (p:=(zQ (w:Nat) 1)) G).trans i1;have o2:=(A.cell (p:=(zQ (w:Nat) 2)) G).trans i2;have t:zR w j:=M.trans (A.mono M.size);have aC:(w1:Nat)<=(w2:Nat):=J;clear U A lu i0 i1 i2 ho;obtain⟨B,O⟩:∃B,B=(w:Nat):=⟨_,rfl⟩;obtain⟨q,hq⟩:∃q,q=(w2:Nat):=⟨_,rfl⟩;rw[<-O]at S o1 o2 f G|-;rw[<-hq]at q0 q1 q2 y0 y1 y2 G hs3|-;have HBq:=Z O;have HQ:=Z hq;clear O hq;have s:zk j.drew B 0 (.bool b)/\zk j.drew B 1 (.slice (g,go) (x.1.length+x.2.length) cap)/\zk j.drew B 2 (.int .i64 x.2.length):=⟨S,o1,o2⟩;refine qh (λW':z8=>zk W' B 0 (.bool b)/\zk W' B 1 (.slice (g,go) (x.1.length+x.2.length) cap)/\zk W' B 2 (.int .i64 x.2.length))
    [0,2,5,6] 7 ZW yg yg s ?_
   (iterate 4 ((first|refine ty ?_|refine tn ?_);try simp only[pl]))
   refine yW ?_;refine wpAnyH_ready (rs:=[1,3]) yg zV (ub rfl (λK hK=>?_) (ub rfl (λK hK=>?_) XV))
   .go_simp;refine hK.out _ _ s λ_=>?_;clear hK K;refine gU 3 (λK hK=>?_);go_simp;refine(F4 _ x _ (HH.o.below t.drew)).mono ?_;rintro e w4 ⟨⟨p4,C,rfl,IK,DL,hB4⟩,c⟩;have u:B<(j:Nat):=X j _ S;have n:q<(j:Nat):=X j _ q1;have a0:=(c.cell (p:=(zQ B 0)) u).trans s.1;have a1:=(c.cell (p:=(zQ B 1)) u).trans s.2.1;have a2:=(c.cell (p:=(zQ B 2)) u).trans s.2.2;have p1:=(c.cell (p:=(zQ q 1)) n).trans q1;have p0:=(c.cell (p:=(zQ q 0)) n).trans q0;have p2:=(c.cell (p:=(zQ q 2)) n).trans q2;have x0:=(c.frozen (p:=(zQ q 0)) n).trans y0;have x1:=(c.frozen (p:=(zQ q 1)) n).trans y1;have x2:=(c.frozen (p:=(zQ q 2)) n).trans y2;have B8:=dn (FG I) c;have Eh:=(show bP j.drew (B+1) from⟨f.c0,f.c1,f.c2,f.z0,f.z1,f.z2,f.lt⟩).below c;have Ea:zR w w4:=t.drew.trans (c.mono t.size);have Ow:(j:Nat)<=(w4:Nat):=c.size;refine hK.out _ _ ⟨a0,a1,a2⟩ λ_=>?_;clear hK K s S o1 o2 q0 q1 q2 y0 y1 y2 I f c;refine gU 4 (λK hK=>?_);rw[yK xG];obtain⟨i,hi,hz,h2,h3⟩:=xI.info;refine wp_append_own w4 _ _ 34 rfl (w1:Nat) 5 i _ 1 1 xI.under hi hz h2 h3 xI.QF xI.pos _ _ _ rfl B8 p4 x.2.length C (vu x.2) rfl BI (Ca hB4) (Sf x.2)
      zfg (by have:=jN 9 r J;omega) (by have:=HQ.o;omega) ?_
    exact zk6
   .skip
    go_simp;refine(F4 _ x _ (HH.o.below t.drew)).mono ?_;rintro e w4 ⟨⟨p4,C,rfl,IK,DL,hB4⟩,c⟩;have u:B<(j:Nat):=X j _ S;have n:q<(j:Nat):=X j _ q1;have a0:=(c.cell (p:=(zQ B 0)) u).trans s.1;have a1:=(c.cell (p:=(zQ B 1)) u).trans s.2.1;have a2:=(c.cell (p:=(zQ B 2)) u).trans s.2.2;have p1:=(c.cell (p:=(zQ q 1)) n).trans q1;have p0:=(c.cell (p:=(zQ q 0)) n).trans q0;have p2:=(c.cell (p:=(zQ q 2)) n).trans q2;have x0:=(c.frozen (p:=(zQ q 0)) n).trans y0;have x1:=(c.frozen (p:=(zQ q 1)) n).trans y1;have x2:=(c.frozen (p:=(zQ q 2)) n).trans y2;have B8:=dn (FG I) c;have Eh:=(show bP j.drew (B+1) from⟨f.c0,f.c1,f.c2,f.z0,f.z1,f.z2,f.lt⟩).below c;have Ea:zR w w4:=t.drew.trans (c.mono t.size);have Ow:(j:Nat)<=(w4:Nat):=c.size;refine hK.out _ _ ⟨a0,a1,a2⟩ λ_=>?_;clear hK K s S o1 o2 q0 q1 q2 y0 y1 y2 I f c;refine gU 1 (λK hK=>?_);go_simp;refine hK.out _ _ ⟨a0,a1,a2⟩ λ_=>?_;clear hK K;refine gU 4 (λK hK=>?_);rw[yK xG];obtain⟨i,hi,hz,h2,h3⟩:=xI.info;refine wp_append_own w4 _ _ 34 rfl (w1:Nat) 5 i _ 1 1 xI.under hi hz h2 h3 xI.QF xI.pos _ _ _ rfl B8 p4 x.2.length C (vu x.2) rfl BI (Ca hB4) (Sf x.2)
      zfg (by have:=jN 9 r J;omega) (by have:=HQ.o;omega) ?_
    exact zk6
variable{hi hi' lo lo':Nat}{T:gy}
def j9(lo hi:Nat)(w:z8)(v:zx)(T:gy):Prop :=
 ∃k cap,v = .func (.func k) #[] cap/\(∀args w,(callFunc k args).run Tryz.prog w = .ok (.enter k args) w) /\
  ∀W,vx lo hi w W->∀nv x,q9 W nv x->zE Tryz.prog k (#[nv]++cap) W λe W'=>e = .returned (.bool (T x))/\zR W W'
def OpR(lo hi:Nat)(w:z8)(v:zx)(F:Dg->Dg):Prop :=
 ∃k cap,v = .func (.func k) #[] cap/\(∀args w,(callFunc k args).run Tryz.prog w = .ok (.enter k args) w) /\
  ∀W,vx lo hi w W->∀nv x,q9 W nv x->zE Tryz.prog k (#[nv]++cap) W (kl (F x) W)
def j9.keep(h:j9 lo hi w v T)(hk:vx lo hi w w')(h1:lo'<=lo)(h2:hi<=hi'):j9 lo' hi' w' v T:=zvj
def OpR.keep{F:Dg->Dg}(h:OpR lo hi w v F)(hk:vx lo hi w w')(h1:lo'<=lo)(h2:hi<=hi'):OpR lo' hi' w' v F:=zvj
def sF(v:zx)(x:Dg)(a b:Nat)(br:Bool)(P pb pc:Nat)(w:z8)(h:q9 w v x)(ha:a<=1000000000)(hb:b<=1000000000)(ca:zk w P 0 a)(I:zk w pb 0 b)(cc:zk w pc 0 (.bool br)) :
  zE Tryz.prog 235 #[v,(P,0),(pb,0),(pc,0)] w λe w'=>e = .returned (.bool (fQ a b br x))/\zR w w':=by
 have M:=λW m (j:q9 W v x) (hm:m<=1000000000)=>FW v x m W j hm
 have hK:=λW (j:q9 W v x)=>Cx v x W j
 obtain⟨r,hr⟩:=zw (fQ a b br x);rw[hr];unfold fQ at hr;obtain⟨c1,y⟩:∃c,Gh x a=c:=⟨_,rfl⟩;obtain⟨c2,z⟩:∃c,Gh x b=c:=⟨_,rfl⟩;obtain⟨k,O⟩:=zw (brk x.2);have h1:=λW (j:q9 W v x)=>M W a j ha
 have h2:=λW (j:q9 W v x)=>M W b j hb
 rw[y,z,O]at hr;simp only[y]at h1;simp only[z]at h2;simp only[O]at hK;obtain⟨U,V,HK,HH,Q⟩:=G0 h1 h2 hK h hr;obtain⟨R,g,go,cap,rfl,_,_,_,_,_⟩:=h;clear M hK h1 h2 hr y z O;have F:∃W,W=w.alloc (.cells #[.bool R,.slice (zQ g go) (x.1.length+x.2.length) cap,.int .i64 x.2.length] 99)/\zR w W/\W.heap.size=(w:Nat)+1/\zk W (w:Nat) 0 (.bool R)/\zk W (w:Nat) 1 (.slice (zQ g go) (x.1.length+x.2.length) cap)/\W.cell? (zQ (w:Nat) 2)=some (.int .i64 x.2.length) /\
   W.cell? (P,0)=some (.int .i64 a)/\zk W pb 0 b/\W.cell? (pc,0)=some (.bool br) :=
  ⟨_,rfl,(zu _ _).alloc (Y _) _,zV,uK,uK,uK,by rw[bJ _ _ _ (by rw[ca];rfl)];exact ca,by rw[bJ _ _ _ (by rw[I];rfl)];exact I,by rw[bJ _ _ _ (by rw[cc];rfl)];exact cc⟩
 obtain⟨W,j,E,hs,d0,d1,d2,da,db,D⟩:=F;have C:=Z (HH.o.below E);rw[j]at da db D;go_enter func235,ntmps235;go_wp2_with fail;rw[<-j]at da db D|-;clear j ca I cc;refine(U.o _ C.o).mono ?_;rintro e w1 ⟨rfl,d⟩;have A:(w:Nat)<(W:Nat):=J;have K:=(d.cell (p:=(w,0)) A).trans d0;have S:=(d.cell (p:=(w,1)) A).trans d1;have T:=(d.cell (p:=(w,2)) A).trans d2;have eb:=(d.cell (p:=(pb,0)) (X W _ db)).trans db;have L:=(d.cell (p:=(pc,0)) (X W _ D)).trans D;have s:zR w w1:=E.trans (d.mono J);have B:=Z (C.o.below d);have l:(w:Nat)<(w1:Nat):=X w1 _ K;clear d0 d1 d2 da db D d;by_cases g1:0<=c1
 .have t:decide (0<=c1)=true:=decide_eq_true g1;have hr:=Q.o;rw[t,jd]at hr;have n:=Z hr;clear hr;go_wp2_with fail;refine(V.o _ B.o).mono ?_;rintro e w2 ⟨rfl,f⟩;have f0:=(f.cell (p:=(zQ (w:Nat) 0)) l).trans K;have f1:=(f.cell (p:=(zQ (w:Nat) 1)) l).trans S;have f2:=(f.cell (p:=(zQ (w:Nat) 2)) l).trans T;have fc:=(f.cell (p:=(zQ pc 0)) (X w1 _ L)).trans L;have i:zR w w2:=s.trans (f.mono J);have H:=Z (B.o.below f);clear K S T eb L f;by_cases g2:c2<=0
  .have u:decide (c2<=0)=true:=decide_eq_true g2;have hr:=n.o;rw[u,jd]at hr;have q:=Z hr;clear hr;cases br
   .go_wp2_with fail;refine(HK.o _ H.o).mono ?_;rintro e w3 ⟨rfl,N⟩;have G:zR w w3:=i.trans (N.mono i.size);go_wp2;go_ret;exact⟨by rw[<-q.o];rfl,G⟩
   .go_wp2;go_ret;exact⟨by rw[<-q.o];rfl,i⟩
  .have u:decide (c2<=0)=false:=decide_eq_false g2;have hr:=n.o;rw[u,oK]at hr;have q:=Z hr;clear hr;go_wp2;go_ret;exact⟨by rw[<-q.o];rfl,i⟩
 .have t:decide (0<=c1)=false:=decide_eq_false g1;have hr:=Q.o;rw[t,oK]at hr;have n:=Z hr;clear hr;go_wp2;go_ret;exact⟨by rw[<-n.o];rfl,s⟩
def Dh(a b:Nat)(br:Bool)(w:z8)(ha:a<=1000000000)(hb:b<=1000000000) :
  zE Tryz.prog 209 #[a,b,.bool br] w λe w'=>(∃v,e = .returned v/\j9 (w:Nat) w'.heap.size w' v (fQ a b br))/\zR w w':=by
 have d:∀(fn:Fn) (first cap:Array zx) (w:z8),(qA fn first cap).run Tryz.prog w = .ok (.func fn first cap) w:=λ_ _ _ _=>rfl
 go_enter func209,ntmps209;go_wp2;go_ret;have hs:(((w.alloc (.cells #[a] 3)).alloc (.cells #[b] 3)).alloc (.cells #[.bool br] 4)).heap.size=(w:Nat)+3:=zV;refine⟨⟨_,rfl,235,_,rfl,λargs w=>enters_of func235 yg rfl args w,λW c f x hx=>?_⟩,(((zu _ _).alloc (Y _) _).alloc zV _).alloc yF _⟩;refine sF f x a b br _ _ _ W hx ha hb ((c.cell (Y _) ?_).trans ?_) ((c.cell ?_ ?_).trans ?_) ((c.cell ?_ ?_).trans ?_);all_goals first|(show w.heap.size<=w.heap.size+1;omega)|(show w.heap.size<=w.heap.size+1+1;omega)|(rw[hs];simp;done)|(rw[hs];simp;omega)|(show w.heap.size<=_;simp;done)|(show w.heap.size<=_;omega)|(go_simp;done)
def ef(v:zx)(q:Nat)(w:z8)(l:zx)(x:Dg)(T:gy)(lo hi:Nat)(h:j9 lo hi w v T)(d:hi<=(w:Nat))(hn:q9 w l x)(cs:Array zx)(c:l = .agg cs)
  (hc:∀j u,cs[j]? = some u->zk w q j u) :
  zE Tryz.prog 163 #[v,(q,0)] w λe w'=>e = .returned (.bool (T x))/\zR w w':=by
 have m:=Z hn;obtain⟨b,g,go,cap,n,k,rfl⟩:=hn.form;cases c;have c0:=hc 0 _ rfl;have c1:=hc 1 _ rfl;have c2:=hc 2 _ rfl;obtain⟨K,r,rfl,i,a⟩:=h;have f:=a w (vH d) _ x m.o;have p:=Z f;clear a f hc;go_enter func163,ntmps163;go_wp2_with fail;refine p.o.mono ?_;rintro e w1 ⟨rfl,hb⟩;go_wp2;go_ret;exact⟨rfl,hb⟩
variable{Ts:List gy}{vs:List zx}
def ed(w:z8)(a:Option yI)(vs:List zx):Prop:=∀j (h:j<vs.length),∃b,a=some b/\w.cell? (b.add j)=some vs[j]
def ed.below{a:Option yI}(h:ed w a vs)(hb:zR w w'):ed w' a vs:=λj c=>by
 obtain⟨b,h1,h2⟩:=h j c;exact⟨b,h1,zqx⟩
def Zs(lo hi:Nat)(w:z8)(a:Option yI)(Ts:List gy):Prop :=
 ∀j (h:j<Ts.length),∃b v,a=some b/\w.cell? (b.add j)=some v/\lo<=b.block/\b.block<hi/\j9 lo hi w v Ts[j]
def Zs.keep{a:Option yI}(h:Zs lo hi w a Ts)(c:vx lo hi w w')(h1:lo'<=lo)(h2:hi<=hi'):Zs lo' hi' w' a Ts:=λj k=>by
 obtain⟨b,v,d,e,f,g,i⟩:=h j k;exact⟨b,v,d,by rw[c.cell (p:=b.add j) (by rw[addr_add];exact f) (by rw[addr_add];exact g)];exact e,J,J,i.keep c h1 h2⟩
structure Nl(w:z8)(q:Nat)(nv:zx):Prop where
 lt:q<(w:Nat)
 cells:∃b s k,nv = .agg #[b,s,k]/\zk w q 0 b/\zk w q 1 s/\zk w q 2 k
def Nl.below{c:zx}(h:Nl w q c)(hb:zR w w'):Nl w' q c:=by
 obtain⟨a,b,s,k,h1,h2,d,e⟩:=h;exact⟨zC a hb.size,b,s,k,h1,(hb.cell a).trans h2,(hb.cell a).trans d,(hb.cell a).trans e⟩
def eZ(v:zx)(q:Nat)(w:z8)(d:zx)(x:Dg)(T:gy)(lo hi:Nat)(h:j9 lo hi w v T)(c:hi<=(w:Nat))(hn:q9 w d x)(hb:Nl w q d) :
  zE Tryz.prog 163 #[v,(q,0)] w λe w'=>e = .returned (.bool (T x))/\zR w w':=by
 obtain⟨_,b,s,k,h1,h2,f,g⟩:=hb;refine ef v q w d x T lo hi h c hn #[b,s,k] h1 (λj u a=>?_);match j,a with
 | 0,a=>cases a;exact h2
 | 1,a=>cases a;exact f
 | 2,a=>cases a;exact g
 |n+3,a=>simp at a
def yk7{x:Dg}(h:k<Ts.length)(a:Ts[k] x=true):Zn Ts x=true:=List.any_eq_true.2 ⟨Ts[k],yf h,a⟩
def sD{x:Dg}(h:k<Ts.length)(h0:Zn (Ts.take k) x=false)(hT:Ts[k] x=false):Zn (Ts.take (k+1)) x=false:=by
 unfold Zn at *;exact zud
def eY(Ts:List gy)(a:Option yI)(c:Nat)(q:Nat)(s:zx)(x:Dg)(lo hi:Nat)(w:z8)(E:Ts.length<=1000000)(u:Zs lo hi w a Ts)(h:hi<=(w:Nat))(hn:q9 w s x)(hb:Nl w q s) :
  zE Tryz.prog 199 #[.slice a Ts.length c,.func (.func 163) #[] #[(q,0)]] w
   λe w'=>(∃n:Int,e = .returned n/\decide (0<=n)=Zn Ts x)/\zR w w':=by
 have B:=Z u;have A:=Z hn;have y:=Z hb;clear u hn hb;go_enter func199,ntmps199;go_wp2;go_loopw [8] (λi wr=>∃k:Nat,k<=Ts.length/\i = .int .i64 k/\Zn (Ts.take k) x=false/\zR w wr) (λi _=>Ts.length - (intOf i).toNat)
 case atStart=>exact⟨0,zJ _,rfl,rfl,zu _ _⟩
 case round =>
  obtain⟨k,D,rfl,l,d⟩:=hrel;have m:=Z l;clear l;by_cases j:k<Ts.length
  .obtain⟨b,v,rfl,hc,h1,h2,t⟩:=B.o k j;have C:wr.cell? (b.add k)=some v:=(by rw[d.cell (X w _ hc)];exact hc);have r:=vY (lo:=lo) d h h;have f:=eZ v q wr s x Ts[k] lo hi (t.keep r (Y _) (Y _)) (zg h d.size) (A.o.below d) (y.o.below d);have z:=Z f;clear hc f t;go_wp2_with fail;refine z.o.mono ?_;rintro e w1 ⟨rfl,p⟩;have OM:=d.trans (p.mono d.size);cases g:Ts[k] x
   .have HF:=Z (sD j m.o g);clear g;exact AK
   .have HF:=Z (yk7 j g);clear g;go_wp2;go_ret;exact⟨⟨_,rfl,by rw[HF.o];simp⟩,OM⟩
  .obtain rfl:k=Ts.length:=(by omega);have l:=m.o;rw[YP]at l;have HF:=Z l;clear l m;go_wp2;go_ret;exact⟨⟨_,rfl,gJ⟩,d⟩
def Hi(Ts:List gy)(a:Option yI)(c:Nat)(q:Nat)(d:zx)(x:Dg)(lo hi:Nat)(w:z8)(j:Ts.length<=1000000)(g:Zs lo hi w a Ts)(b:hi<=(w:Nat))(hn:q9 w d x)(hb:Nl w q d) :
  zE Tryz.prog 162 #[.slice a Ts.length c,.func (.func 163) #[] #[(q,0)]] w
   λe w'=>e = .returned (.bool (Zn Ts x))/\zR w w':=by
 have f:=eY Ts a c q d x lo hi w j g b hn hb;have i:=Z f;clear g hn hb f;go_enter func162,ntmps162;go_wp2_with fail;refine i.o.mono ?_;rintro e w1 ⟨⟨n,rfl,hn⟩,hb⟩;have h:=Z hn;clear hn;go_wp2;go_ret;exact⟨by rw[<-h.o];rfl,hb⟩
def sB(Ts:List gy)(a:Option yI)(c:Nat)(pl:Nat)(m:zx)(x:Dg)(lo hi:Nat)(w:z8)(r:Ts.length<=1000000)(l:Zs lo hi w a Ts)(f:hi<=(w:Nat))(hn:q9 w m x)(hc:zk w pl 0 (.slice a Ts.length c)) :
  zE Tryz.prog 161 #[m,(pl,0)] w λe w'=>e = .returned (.bool (Zn Ts x))/\zR w w':=by
 have s:∀(fn:Fn) (first cap:Array zx) (w:z8),(qA fn first cap).run Tryz.prog w = .ok (.func fn first cap) w:=λ_ _ _ _=>rfl
 have p:=Z hn;obtain⟨h,g,go,cap,j,k',rfl⟩:=hn.form;have F:∃W,W=w.alloc (.cells #[.bool h,.slice (g,go) j cap,k'] 99)/\zR w W/\W.heap.size=(w:Nat)+1/\Nl W (w:Nat) (.agg #[.bool h,.slice (g,go) j cap,k'])/\(w.alloc (.cells #[.bool h,.slice (g,go) j cap,k'] 99)).cell? (pl,0)=some (.slice a Ts.length c) :=
  ⟨_,rfl,(zu _ _).alloc (Y _) _,zV,⟨zV,_,_,_,rfl,uK,uK,uK⟩,AN⟩
 obtain⟨W,q,b,hs,d,t⟩:=F;have k:=Hi Ts a c (w:Nat) _ x lo hi W r (l.keep (vY b f f) (Y _) (Y _)) J (p.o.below b) d;have n:=Z k;clear k l hn d;go_enter func161,ntmps161;go_wp2_with fail;rw[<-q];refine n.o.mono ?_;rintro e w1 ⟨rfl,hb⟩;have i:zR w w1:=b.trans (hb.mono J);go_wp2;go_ret;exact⟨rfl,i⟩
def Sd(Ts:List gy)(a:Option yI)(c:Nat)(lo:Nat)(w:z8)(i:Ts.length<=1000000)(b:lo<=(w:Nat))(g:Zs lo (w:Nat) w a Ts) :
  zE Tryz.prog 124 #[.slice a Ts.length c] w λe w'=>(∃v,e = .returned v/\j9 lo w'.heap.size w' v (Zn Ts))/\zR w w':=by
 have j:∀(fn:Fn) (first cap:Array zx) (w:z8),(qA fn first cap).run Tryz.prog w = .ok (.func fn first cap) w:=λ_ _ _ _=>rfl
 have h:=Z g;clear g;go_enter func124,ntmps124;go_wp2;go_ret;have hb:yE w w (w.alloc (.cells #[.slice a Ts.length c] 290)):=(zu _ _).alloc (Y _) _;refine⟨⟨_,rfl,161,_,rfl,λargs w=>enters_of func161 yg rfl args w,λW d k x hx=>?_⟩,hb⟩;have f:vx lo w.heap.size w W:=d.via (vY hb (Y _) (Y _)) (Y _) hb.size;refine sB Ts a c _ k x lo w.heap.size W i (h.o.keep f (Y _) (Y _)) f.1 hx ((d.cell b zV).trans uK)
def yk8{x:Dg}(h:k<Ts.length)(a:Ts[k] x=false):allT Ts x=false:=by
 unfold allT;rw[List.all_eq_false];exact⟨Ts[k],yf h,by simp[a]⟩
def sC{x:Dg}(h:k<Ts.length)(h0:allT (Ts.take k) x=true)(a:Ts[k] x=true):allT (Ts.take (k+1)) x=true:=by
 unfold allT at *;rw[yj h,uJ,h0];simp[a]
def zm1(Ts:List gy)(a:Option yI)(c:Nat)(pl:Nat)(L:zx)(x:Dg)(lo hi:Nat)(w:z8)(hl:Ts.length<=1000000)(I:Zs lo hi w a Ts)(u:hi<=(w:Nat))(hn:q9 w L x)(hc:zk w pl 0 (.slice a Ts.length c)) :
  zE Tryz.prog 164 #[L,(pl,0)] w λe w'=>e = .returned (.bool (allT Ts x))/\zR w w':=by
 have O:=Z hn;obtain⟨A,g,go,cap,D,k',rfl⟩:=hn.form;have F:∃W,W=w.alloc (.cells #[.bool A,.slice (g,go) D cap,k'] 99)/\zR w W/\W.heap.size=(w:Nat)+1/\Nl W (w:Nat) (.agg #[.bool A,.slice (g,go) D cap,k'])/\(w.alloc (.cells #[.bool A,.slice (g,go) D cap,k'] 99)).cell? (pl,0)=some (.slice a Ts.length c) :=
  ⟨_,rfl,(zu _ _).alloc (Y _) _,zV,⟨zV,_,_,_,rfl,uK,uK,uK⟩,AN⟩
 obtain⟨W,G,m,hs,s,Q⟩:=F;have P:=Z (I.keep (vY m u u) (Y _) (Y _));have y:=Z (O.o.below m);have j:hi<=(W:Nat):=J;clear I hn;go_enter func164,ntmps164;go_wp2_with fail;rw[<-G];clear G Q hc;obtain⟨B,hB⟩:∃B,B=(w:Nat):=⟨_,rfl⟩;rw[<-hB]at s|-;have M:=Z hB;clear hB;go_loopw [8] (λi wr=>∃k:Nat,k<=Ts.length/\i = .int .i64 k/\allT (Ts.take k) x=true/\zR W wr) (λi _=>Ts.length - (intOf i).toNat)
 case atStart=>exact⟨0,zJ _,rfl,rfl,zu _ _⟩
 case round =>
  obtain⟨k,V,rfl,p,d⟩:=hrel;have z:=Z p;clear p;have f:zR w wr:=m.trans (d.mono J);by_cases n:k<Ts.length
  .obtain⟨b,v,rfl,hc,h1,h2,E⟩:=P.o k n;have S:wr.cell? (b.add k)=some v:=(by rw[d.cell (X W _ hc)];exact hc);have C:=vY (lo:=lo) d j j;obtain⟨K,U,rfl,H,h⟩:=E.keep C (Y _) (Y _);have t:=h wr (vH (zg j d.size)) _ x (y.o.below d);have N:=Z t;obtain⟨_,T,ss,kk,R,c0,c1,c2⟩:=s.below d;cases R;clear hc h t E;go_wp2_with fail;refine N.o.mono ?_;rintro e w1 ⟨rfl,q⟩;have OM:=d.trans (q.mono d.size);have r:zR w w1:=f.trans (q.mono f.size);cases l:Ts[k] x
   .have HF:=Z (yk8 n l);clear l;go_wp2;go_ret;exact⟨gJ,r⟩
   .have HF:=Z (sC n z.o l);clear l;exact AK
  .obtain rfl:k=Ts.length:=(by omega);have p:=z.o;rw[YP]at p;have HF:=Z p;clear p z;go_wp2;go_ret;exact⟨gJ,f⟩
def yk9(Ts:List gy)(a:Option yI)(c:Nat)(lo:Nat)(w:z8)(i:Ts.length<=1000000)(b:lo<=(w:Nat))(g:Zs lo (w:Nat) w a Ts) :
  zE Tryz.prog 126 #[.slice a Ts.length c] w λe w'=>(∃v,e = .returned v/\j9 lo w'.heap.size w' v (allT Ts))/\zR w w':=by
 have j:∀(fn:Fn) (first cap:Array zx) (w:z8),(qA fn first cap).run Tryz.prog w = .ok (.func fn first cap) w:=λ_ _ _ _=>rfl
 have h:=Z g;clear g;go_enter func126,ntmps126;go_wp2;go_ret;have hb:yE w w (w.alloc (.cells #[.slice a Ts.length c] 290)):=(zu _ _).alloc (Y _) _;refine⟨⟨_,rfl,164,_,rfl,λargs w=>enters_of func164 yg rfl args w,λW d k x hx=>?_⟩,hb⟩;have f:vx lo w.heap.size w W:=d.via (vY hb (Y _) (Y _)) (Y _) hb.size;refine zm1 Ts a c _ k x lo w.heap.size W i (h.o.keep f (Y _) (Y _)) f.1 hx ((d.cell b zV).trans uK)
end Go.Proofs.YtpggmjffejgakaaGreatDoor
