import Derived.Test.YtpggmjffejgakaaGreatDoorJG4
import Derived.Laws.RangeAny
import Derived.Laws.BitsAll
import Derived.Laws.IdiomStrings
import Derived.Recover
import Derived.WalkSmall
import Derived.Deep.LoopGhost
import Derived.Maps.AppendAt
import Derived.WalkMore
import Derived.Defers
set_option linter.defProp false
set_option maxHeartbeats 64000000
open Go renaming Addr->yM,Calls->zC,Ending->xU,Leaves->UA,Oper->jk,PanicEntry->Eg,Program->VI,TypeId->xm,World->z8,bodyPost_ret->yK,callsD_of_wpS->EL,heap_alloc_new->kU,leaves_cons->qb,results->yN,rounds_succ->xL,run_underlying->kQ,settle->Eu,wpAnyH->Ua,wpAnyH_ready->ep,wpList->Ek,wp_loop_rounds->gY
open Go.Addr renaming add->bW
open Go.AllReadyH renaming cons->vo,nil->Zq
open And renaming intro->zg
open Array renaming getElem?_eq_none->Zu,getElem?_modify->vp,replicate->xl,toList_append->zzk
open Go.RowKit renaming Below->yD
open Go.RowKit.Below renaming heap_alloc->xZ,heap_setCell->yZ,refl->zv
open BitVec renaming ofInt->yeg
open Bool renaming and_eq_false_iff->iu,and_eq_true->zx,false_and->oq,false_eq_true->Vx,or_eq_false_iff->zr1,true_and->gR
open ByteArray renaming mk->vO
open Classical renaming byContradiction->yu
open Go.Exit renaming thenS->Fq
open Go.Instr renaming index->Y2,lookup->TZ,makeFunc->uV,next->zr0,slice->Vu,sliceBound->yfz,sliceBounds->yzv,typeAssert->zA
open Go.IntKind renaming i64->vH
open Go.Lib renaming atoiAll->Fv,decFrom->yf9,encodeRune->yA,encodeRuneZ->TQ,hasPrefix->yW,hid->Z,strCells->xu5,trimPrefix->vD
open List renaming all_append->uJ,all_cons->vh,all_eq_true->zi,any_eq_true->vq2,append_assoc->yk,append_nil->jJ,cons_append->xX,dropWhile_cons_of_neg->fJ,dropWhile_cons_of_pos->Vq,drop_eq_getElem_cons->yY,drop_eq_nil_of_le->bn,drop_left->oY,drop_left'->yff,eq_nil_of_length_eq_zero->zN,find?_append->zr2,flatMap_append->yn,flatMap_cons->zh,foldl_append->TX,foldl_cons->vB,foldl_nil->dc,getD_eq_getElem?_getD->ze,getElem?_append_left->za,getElem?_append_right->xq,getElem?_eq_getElem->zk,getElem?_eq_some_iff->zF,getElem?_map->og,getElem_append_left->zzu,getElem_mem->yf,idxOf_le_length->xrj,isPrefixOf->uS,isPrefixOf_iff_prefix->gL,length->xD,length_append->zy,length_cons->zY,length_drop->yh,length_map->vg,length_nil->yF,length_pos_iff->yv,length_tail->OS,length_take->uK,map_cons->vE,map_nil->zpd,map_toArray->JA,mem_append->zS,mem_append_right->zzg,mem_cons->yX,mem_cons_of_mem->uk,mem_cons_self->qI,mem_map->uQ,mem_of_getElem?->zW,mem_of_mem_drop->dV,mem_of_mem_tail->xi,mem_singleton->zJ,nil_append->xK,not_mem_nil->Hn,range->xB,replicate->zX,setIfInBounds_toArray->QL,takeWhile_append_dropWhile->ZB,takeWhile_cons_of_neg->dU,takeWhile_cons_of_pos->vZ,take_append_drop->Xx,take_left->oZ,take_left'->yfg,take_length->fE,take_of_length_le->yr,take_succ_eq_append_getElem->yj,take_zero->yej
open List.cons renaming inj->Zf
open Go.Maps renaming string_keyed->xE
open Nat renaming add_assoc->kh,add_mul->ki,add_sub_cancel->Z1,le_add_right->bA,le_refl->Y,le_trans->zj,lt_irrefl->kD,lt_of_lt_of_le->zD,lt_or_ge->uM,lt_succ_self->dQ,mod_lt->xu1,mul_assoc->LY,mul_comm->dY,mul_le_mul->Z2,mul_le_mul_right->qp,not_lt_zero->KV,pow_succ->Zw,zero_add->uE,zero_le->zQ
open Go.Obj.cells renaming injEq->TA
open Go.Op renaming equalIn->VF
open Go.Oper renaming wp->kd
open Option renaming bind_some->yzq,map_some->QM
open Option.some renaming inj->zL,injEq->vA
open Prod.mk renaming injEq->Hi
open Go.Region renaming Mode->kG
open Go.Result renaming andThen_ok->Xg
open Go.Sem renaming run_bind->js,run_pure->wj
open UInt8 renaming toNat_inj->dW
open Go.Utf8 renaming decode->ja
open Go.Value renaming int->yb,ownBlock->yl,pointer->qH,slice->vL
open Go.WideMaps renaming keyOf_string_mk->xu
open Go.World renaming block_lt_of_cell?->X,cell?_alloc_lt->zc,cell?_alloc_some->bQ,cell?_of_block->yE,cell?_setCell_other->yC,cell?_setCell_same->uX,frozen?_of_block->zV,frozen?_setCell->zO,iterPos_iter->wY,ownsRow_nil->xx,setCell->xg
open Go.World.ownsRow renaming drew->Fj
open Go.Proofs.Tryz
namespace Go.Proofs.YtpggmjffejgakaaGreatDoor
open Go Go.RowKit
set_option maxRecDepth 10000
variable{r:Nat}
def DD(h:128<=r):qU (r:Int)=false/\vF (r:Int)=false:=by
 constructor
 .simp only[qU,zr1,iu,decide_eq_false_iff_not,beq_eq_false_iff_ne,ne_eq];omega
 .simp only[vF,iu,decide_eq_false_iff_not];omega
def Io(t:Wd)(w:z8)(F:t.length<=5000000):zC Tryz.prog 61 #[zM t] w λe w'=>e = .returned (.bool (kV t))/\Fr yH yH w w':=by
 obtain⟨s,hs⟩:=zr (vO t.toArray);have p:s.size=t.length:=by rw[<-hs,size_mk]
 have u:∀(k:Nat) (h:k<s.size),∃c,t[k]? = some c/\s[k]'h=c:=by
  intro k h;subst hs;exact⟨_,zk (by rw[size_mk]at h;exact h),xV⟩
 obtain⟨n,hn⟩:=zr t.length;obtain⟨y,H,D,I⟩:=hdd u p hn F;rw[show zM t = .string s from congrArg Value.string hs];have v:s.size=n:=p.trans hn;have A:=Z v;clear hs p hn F v u;go_enter func61,ntmps61;go_wp2_with fail;go_loopw [] (λwr=>∃pos,wr=w.iter s pos/\pos<=n/\Hu 0 t=Hu pos (t.drop pos)) (λwr=>n - wr.iterPos (w:Nat))
 case atStart=>exact⟨0,rfl,zQ _,rfl⟩
 case round =>
  obtain⟨pos,rfl,hp,E⟩:=hrel;have C:=Z E;clear E;by_cases a:pos<s.size
  .obtain⟨c,hc,hsc⟩:=y.o pos a;have d:t.drop pos=c::t.drop (pos+1):=by
    obtain⟨h1,h2⟩:=zF.1 hc;rw[yY h1,h2]
   have m:=C.o;rw[d,Hu]at m;have q:=Z m;clear d m;by_cases ha:c.toNat<128
   .have f:=λty=>run_next_ascii (P:=Tryz.prog) w s pos ty a (by rw[hsc];exact ha)
    rw[hsc]at f;obtain⟨l,x⟩:∃b,qU (c.toNat:Int)=b:=⟨_,rfl⟩;obtain⟨dg,EY⟩:∃b,vF (c.toNat:Int)=b:=⟨_,rfl⟩;obtain⟨r,hr⟩:∃r:Int,(c.toNat:Int)=r:=⟨_,rfl⟩;rw[hr]at f x EY;have j:=λW=>Z (x▸Qs r W)
    have i:=λW=>Z (EY▸Us r W)
    have B:=Z (show Hu 0 t=((l ||(!decide (pos=0) && dg)) && Hu (pos+1) (t.drop (pos+1)))by have:=q.o;rw[hr,x,EY]at this;exact this);have g:=Z (show pos+1<=n by have:=A.o;omega);clear x EY hr hsc hc ha a;have HB:l=false->(pos=0\/dg=false)->kV t=false:=λh1 h2=>by
     unfold kV;rw[B.o,h1];rcases h2 with h2|h2<;>simp[h2]
    have HB:=Z HB;go_wp2_with fail;refine(j _).out.mono ?_;rintro e w' ⟨rfl,rfl⟩;cases l with
    |true =>
     go_wp2;go_roundw
     case measure=>simp only[wY];have:=g.o;omega
     case rel=>exact⟨pos+1,rfl,g.o,by rw[B.o];simp⟩
    |false =>
     by_cases h0:pos=0
     .subst h0;exact zfx
     .have g0:((pos:Int)=0)=False:=(by simp;omega);go_wp2_with fail;refine(i _).out.mono ?_;rintro e w' ⟨rfl,rfl⟩;cases dg with
      |false =>
       exact zfx
      |true =>
       go_wp2;go_roundw
       case measure=>simp only[wY];have:=g.o;omega
       case rel=>exact⟨pos+1,rfl,g.o,by rw[B.o];simp[h0]⟩
   .have f:=λty=>run_next_any (P:=Tryz.prog) w s pos ty a
    obtain⟨h1,-⟩:=decode_high s pos a (by rw[hsc];omega);obtain⟨r,hr⟩:=zr ((ja s pos).1);obtain⟨z,G⟩:=zr ((ja s pos).2);rw[hr,G]at f;rw[hr]at h1;have j:=λW=>Z ((DD h1).1▸Qs r W)
    have i:=λW=>Z ((DD h1).2▸Us r W)
    have HB:=Z (show kV t=false by
     unfold kV;rw[q.o,(DD (r:=c.toNat) J).1,(DD (r:=c.toNat) J).2];simp)
    clear hr G hsc hc ha a h1;go_wp2_with fail;refine(j _).out.mono ?_;rintro e w' ⟨rfl,rfl⟩;by_cases h0:pos=0
    .subst h0;exact zud
    .have g0:((pos:Int)=0)=False:=(by simp;omega);go_wp2_with fail;refine(i _).out.mono ?_;rintro e w' ⟨rfl,rfl⟩;exact zud
  .have f:=λty=>run_next_end (P:=Tryz.prog) w s pos ty a
   have HB:=Z (show kV t=(decide (0<n) && decide (n<=16)) by
    unfold kV;rw[C.o,bn (by have:=A.o;have:=D.o;omega),D.o];rfl)
   clear a hp;have e:=A.o;subst e;by_cases h0:0<s.size
   .have g0:(0:Int)<(s.size:Int):=(by omega);by_cases h1:s.size<=16
    .have g1:(s.size:Int)<=16:=(by omega);exact zu8
    .have g1:¬(s.size:Int)<=16:=(by omega);exact zu8
   .have g0:¬(0:Int)<(s.size:Int):=(by omega);go_wp2;go_ret;exact⟨by rw[HB.o];simp[h0],(Fr.refl yH w).alloc _⟩
variable{n:Nat}{w w':z8}
def DB(p:Value)(ty a:xm)(w:z8):(zr0 p false ty).run Tryz.prog w=(zr0 p false a).run Tryz.prog w:=rfl
def jb{row:Option Nat}(a:w.grownBy w' row):Fr (λk=>row=some k) (λk=>row=some k) w w' :=
 ⟨a.os,a.tape,a.output,a.size,λk b hn=>a.block k b (λe=>hn e.symm),λ_ q => .inl q⟩
def Xi(f:Wd->Option (Wd×Bool))(z:Nat):Prop:=z<=16/\∀m x,f m=some x->kV m=true/\bj x.1 x.2=true
def xm1(b n z:Nat)(f:Wd->Option (Wd×Bool))(w:z8)(e:xU)(w':z8):Prop :=
 ((Xi f z/\∃c,e = .returned (.tuple #[zib c,.bool true])/\yqz b c n z f () w'/\(w:Nat)<=c)\/(¬Xi f z/\e = .returned (.tuple #[.nilFunc,.bool false])))/\Fr yH yH w w'
def zl2{b z:Nat}{f:Wd->Option (Wd×Bool)}(h:fk w b n z f)(T:∀m x,f m=some x->m.length<=5000000/\x.1.length<=1000000)(S:z<=1000000000) :
  zC Tryz.prog 33 #[.map (some b)] w (xm1 b n z f w):=by
 have hmf:∀(fn:Fn) (first cap:Array Value) (w:z8),(uV fn first cap).run Tryz.prog w = .ok (.func fn first cap) w:=λ_ _ _ _=>rfl
 have P:=h.lt;obtain⟨W,hW⟩:=zr (w.alloc (.cells #[.map (some b)] 61));have p:Fr yH yH w W:=by rw[<-hW];exact(Fr.refl yH w).alloc _
 have A:fk W b n z f:=h.fr p id;have H:zu W (w:Nat) 0 (.map (some b)):=by rw[<-hW];exact zf w #[.map (some b)] _ (0,0) 0
 have D:(W:Nat)=(w:Nat)+1:=by rw[<-hW];simp
 have Z4:=A.len 3;obtain⟨w2,hrg,hR,v,Ym⟩:=A.range;obtain⟨c,hc⟩:=zr (w:Nat);rw[hc]at H D;rw[D]at hrg hR;have L:Fr yH yH w w2:=p.over (jb v) (λq hq=>by cases hq);have c2:=(jb v).cell H (λq=>kK);obtain⟨VE,EF,HMA,HR,HC,HL,HLT,HC2⟩:=OJ L p h hR hc T P c2;clear A p v Ym L hR T P D h c2;by_cases U:z<=16
 .have g1:¬(16:Int)<(z:Int):=by omega
  have HZ:=Z U;clear U S;go_enter func33,ntmps33;go_wp2_with fail;go_loopw [] (λwr=>∃left cnt,Cg wr b (c+1) n f left cnt/\Fr yH yH w wr/\zu wr c 0 (.map (some b))/\∀m x,f m=some x->left m=false->kV m=true/\bj x.1 x.2=true) (λwr=>wr.rangeLeft b (c+1))
  case atStart=>exact⟨_,_,HR.o,VE.o,HC2.o,λm x hm T=>by simp[hm]at T⟩
  case round =>
   obtain⟨left,cnt,i,hf,I,C⟩:=hrel;have a:=Z (zg i (zg hf C));rcases i.next 0 with⟨-,R,j⟩|⟨m,x,w',ve7,hlm,u,j,G,O,y,bh,hen⟩
   .have j:=λty=>(DB (c+1,0) ty 0 wr).trans j
    have HNO:=Z R;clear i hf C R;go_wp2;go_ret2
    have i:=a.o.1;refine⟨.inl ⟨⟨HZ.o,λm x hm=>a.o.2.2 m x hm (HNO.o m)⟩,c,rfl,⟨?_,I,λm x hm=>(HL.o m x hm).2⟩,by rw[HC.o];exact Y _⟩,a.o.2.1⟩;exact HMA.o.fr a.o.2.1 id
   .have j:=λty=>(DB (c+1,0) ty 0 wr).trans j
    obtain⟨t,num⟩:=x;obtain⟨l1,l2⟩:=HL.o m _ u;obtain⟨d,hd⟩:=zr (w':Nat);obtain⟨V,hV⟩:=zr (w'.alloc (.cells #[zM t,.bool num] 65));have d0:zu V d 0 (zM t):=(by rw[<-hV,<-hd];exact zf w' #[zM t,.bool num] _ (0,0) 0);have d1:zu V d 1 (.bool num):=(by rw[<-hV,<-hd];exact zf w' #[zM t,.bool num] _ (0,0) 1);have fV:Fr yH yH w' V:=(by rw[<-hV];exact(Fr.refl yH w').alloc _);have N:Fr yH yH w w':=hf.over (jb y) (λq hq => .inr (by cases hq;have:=HC.o;omega));have K:zu w' c 0 (.map (some b)):=(jb y).cell I (λq=>kK);obtain⟨nm,B⟩:∃q,kV m=q:=⟨_,rfl⟩;obtain⟨vd,E⟩:∃q,bj t num=q:=⟨_,rfl⟩;have HNM:=λW=>Z (B▸Io m W l1)
    have ig:=λW=>Z (E▸IM t num W l2)
    have l:=Z (zg G (zg O (zg fV (zg N K))));have s:=Z (zg u (zg B E));have HD:=Z (zg d0 d1);clear i hf C G O fV N K y bh hlm u B E l1 l2 d0 d1;go_wp2_with fail;refine(HNM _).out.mono ?_;rintro e w3 ⟨rfl,r⟩;have e0:=r.cell HD.o.1 id;have e1:=r.cell HD.o.2 id;have F:=Z r;clear r;cases nm with
    |false =>
     go_wp2;go_ret2
     refine⟨.inr ⟨λq=>?_,rfl⟩,l.o.2.2.2.1.trans (l.o.2.2.1.trans F.o)⟩;have:=(q.2 m _ s.o.1).1;rw[s.o.2.1]at this;cases this
    |true =>
     go_wp2_with fail;refine(ig _).out.mono ?_;rintro e w4 ⟨rfl,hb⟩;have M:Fr yH yH w3 w4:=⟨hb.os,hb.tape,hb.output,hb.size,λk hk _=>hb.block k hk,λ_ q => .inl q⟩;have g:=Z (l.o.2.2.1.trans (F.o.trans M));clear hb M;cases vd with
     |false =>
      go_wp2;go_ret2
      refine⟨.inr ⟨λq=>?_,rfl⟩,l.o.2.2.2.1.trans g.o⟩;have:=(q.2 m _ s.o.1).2;rw[s.o.2.2]at this;cases this
     |true =>
      go_wp2;go_roundw
      case measure =>
       rw[(l.o.1.fr g.o id id).left_eq,a.o.1.left_eq];exact l.o.2.1
      case rel =>
       refine⟨_,_,l.o.1.fr g.o id id,l.o.2.2.2.1.trans g.o,g.o.cell l.o.2.2.2.2 id,λm' x' Q hl'=>?_⟩;by_cases he:m'=m
       .subst he;have:=s.o.1;rw[Q]at this;cases this;exact⟨s.o.2.1,s.o.2.2⟩
       .exact a.o.2.2 m' x' Q (by simpa[he]using hl')
 .have g1:(16:Int)<(z:Int):=by omega
  have HZ:=Z U;clear U S;go_enter func33,ntmps33;go_wp2;go_ret2
  exact⟨.inr ⟨λq=>by have:=q.1;have:=HZ.o;omega,rfl⟩,EF.o⟩
variable{c:Nat}
def jS:List Wd->Nat×(Wd->Option (Wd×Bool))->Nat×(Wd->Option (Wd×Bool))
 |k::d::t::r,p=>jS r (if (p.2 k).isSome then p.1 else p.1+1,λm=>if k=m then some (t,d==[110])else p.2 m)
 |_,p=>p
def cG{l:List Wd}(h:l.length<3)(p:Nat×(Wd->Option (Wd×Bool))):jS l p=p:=by
 match l,h with
 |[],_=>rfl
 |[_],_=>rfl
 |[_,_],_=>rfl
 |_::_::_::_,h=>simp at h;omega
def YG(w:z8)(a:Option yM)(l:List Wd):Prop:=l≠[]->∃g o,a=some ⟨g,o,none⟩/\∀j t,l[j]? = some t->zu w g (o+j) (zM t)
def YG.fr{a:Option yM}{l:List Wd}(h:YG w a l)(hf:Fr yH yH w w'):YG w' a l:=λb=>by
 obtain⟨g,o,ha,hc⟩:=h b;exact⟨g,o,ha,λj t c=>hf.cell (hc j t c) id⟩
def S6{l:List Wd}{a:Option yM}(h:YG w a l)(hn:l.length=n)(E:∀t∈l,t.length<=1000000)(u:n<=1000000) :
  zC Tryz.prog 19 #[.slice a n c] w λe w'=>e = .returned (.map (some (w:Nat)))/\(∃N,N<=2000000/\fk w' (w:Nat) N (jS l (0,λ_=>none)).1 (jS l (0,λ_=>none)).2)/\Fr yH yH w w':=by
 have U:=@run_makeMap Tryz.prog;obtain⟨b,hb⟩:=zr (w:Nat);have h0:=fk.made w;have f0:Fr yH yH w (w.alloc (.map #[] 0)):=(Fr.refl yH w).alloc _;rw[hb]at h0;obtain⟨H,O,j,K,I⟩:=Jl (zg h0 f0) h (zg hn u) E hb;clear h hn E u h0 f0;go_enter func19,ntmps19;go_wp2;go_loopw [4] (λi wr=>∃k N z f,i = .int .i64 (k:Nat)/\k<=n+3/\N<=k/\fk wr b N z f/\jS l (0,λ_=>none)=jS (l.drop k) (z,f)/\Fr yH yH w wr) (λi _=>n+3 - (intOf i).toNat)
 case atStart=>exact⟨0,0,0,_,rfl,zQ _,Y _,H.o.1,rfl,H.o.2⟩
 case round =>
  obtain⟨k,N,z,f,rfl,hk,T,hm,hv,hf⟩:=hrel;by_cases F:k+2<n
  .obtain⟨g,o,rfl,hc⟩:=O.o (λe=>by have:=j.o.1;rw[e]at this;simp at this;omega);obtain⟨t0,g0⟩:∃t,l[k]? = some t:=⟨_,zk (by have:=j.o.1;omega)⟩;obtain⟨t1,g1⟩:∃t,l[k+1]? = some t:=⟨_,zk (by have:=j.o.1;omega)⟩;obtain⟨t2,g2⟩:∃t,l[k+2]? = some t:=⟨_,zk (by have:=j.o.1;omega)⟩;have c0:=hf.cell (hc k t0 g0) id;have c1:=hf.cell (hc (k+1) t1 g1) id;have c2:=hf.cell (hc (k+2) t2 g2) id;have hd:l.drop k=t0::t1::t2::l.drop (k+3):=by
    obtain⟨h1,C⟩:=zF.1 g0;obtain⟨h2,D⟩:=zF.1 g1;obtain⟨S,R⟩:=zF.1 g2;rw[yY h1,C,yY h2,D,yY S,R]
   have l0:=K.o t0 (zW g0);have l2:=K.o t2 (zW g2);obtain⟨B,hB⟩:=zr ((t1==[110]));obtain⟨w2,v,s,d⟩:=(hm.keep (w':=wr.drew) rfl).put t0 J (t2,B) (by show t2.length<=_;omega) (by have:=j.o.2;omega);rw[hd,jS,hB]at hv;have r:Fr yH yH w w2:=(hf.drew).over (jb d) (λq V=>by cases V;exact .inr (by rw[I.o];exact Y _));have m:b≠g:=λe=>by
    have:=X w _ (hc k t0 g0);rw[<-e,I.o]at this;exact kD _ this
   have Q:=(jb d).cell (w:=wr.drew) c0 (λe=>m (zL e));have C:=(jb d).cell (w:=wr.drew) c1 (λe=>m (zL e));have D:=(jb d).cell (w:=wr.drew) c2 (λe=>m (zL e));have A:=Z (zg s (zg hv r));clear hc g0 g1 g2 hd l0 l2 hm hv hf s d r m;have k1:(k:Int)+2<(n:Int):=J;have k0:k<n:=J;have k01:k+1<n:=J;have k2:(k:Int)+1<(n:Int):=J;have p:n<=1000000:=j.o.2;have G:vH.wrap ((k:Int)+2)=(k:Int)+2:=Yy;have W:vH.wrap ((k:Int)+1)=(k:Int)+1:=Yy;have hw3:vH.wrap ((k:Int)+3)=(k:Int)+3:=Yy;have x:=Z F;have q2:(0:Int)<=(k:Int)+2:=J;have q1:(0:Int)<=(k:Int)+1:=J;have u2:((k:Int)+2).toNat=k+2:=J;have u1:((k:Int)+1).toNat=k+1:=J;clear p;go_wp2_with fail;refine V1 (λW':z8=>zu W' g (o+k) (zM t0)/\zu W' g (o+(k+1)) (zM t1)/\zu W' g (o+(k+2)) (zM t2)) (xB 17) 1 ⟨c0,c1,c2⟩ ?_;refine gX 17 (λP M=>?_);go_simp;refine M.out _ _ ⟨Q,C,D⟩ λ_=>?_
   clear M P;refine Y3 ?_ _;clear v;go_wp2;go_roundw
   case rel =>
    obtain⟨m1,m2,m3⟩:=A.o;have E:=x.o;exact⟨k+3,N+1,_,_,uN,J,J,m1,m2,m3⟩
   case measure=>simp only[intOf];omega
  .have A:=Z (show jS l (0,λ_=>none)=(z,f)by rw[hv,cG (by rw[yh,j.o.1];omega)]);have L:=Z (zg hm hf);have k1:¬(k:Int)+2<(n:Int):=(by omega);have p:n<=1000000:=j.o.2;have G:vH.wrap ((k:Int)+2)=(k:Int)+2:=Yy;have y:=Z (show N<=2000000 by have:=j.o.2;omega);clear hv hm hf p;go_wp2;go_ret;exact⟨rfl,⟨N,y.o,by rw[A.o];exact L.o.1⟩,L.o.2⟩
def yqk(h:Nat)(c:UInt8):Nat:=(h ^^^ c.toNat)*16777619 % 4294967296
def Xl(b:Wd):Nat:=b.foldl yqk 2166136261
def fF(b:Wd):Nat:=b.foldl (λv c=>v*256+c.toNat) 0
def qJ:Wd:=[80,72,49]
def NC(b:Wd):Bool := !qJ.isPrefixOf b ||decide (65535<b.length) ||decide (b.length<7) ||decide (fF (b.drop (b.length - 4))≠Xl (b.take (b.length - 4)))
def yqj(h:Nat)(c:UInt8):yqk h c<4294967296:=xu1 _ zR
def yqg(b:Wd):∀h,h<4294967296->b.foldl yqk h<4294967296:=by
 induction b with
 |nil=>exactλ_ h=>h
 |cons c b a=>exactλh _=>a _ (yqj h c)
def JC(b:Wd):Xl b<4294967296:=yqg b _ zR
variable{cap k:Nat}{F F':Nat->Prop}
def jE(w:z8)(a:Option yM)(l:Wd):Prop:=∀j (h:j<l.length),∃b,a=some b/\w.cell? (b.add j)=some (.int .u8 l[j].toNat)
def jE.fr{a:Option yM}{l:Wd}(h:jE w a l)(hf:Fr F F' w w')(ha:∀b,a=some b->¬F b.block):jE w' a l:=λj c=>by
 obtain⟨b,e,hc⟩:=h j c;exact⟨b,e,hf.cell hc (by rw[addr_add];exact ha b e)⟩
def zl3{l:Wd}(h:k<l.length):Xl (l.take (k+1))=(Xl (l.take k) ^^^ l[k].toNat)*16777619 % 4294967296:=by
 unfold Xl;rw[yj h,TX,vB,dc,yqk]
def zl4:∃S:Wd->Nat,S=Xl/\S []=2166136261/\(∀l,S l<4294967296)/\∀(l:Wd) k (h:k<l.length),S (l.take (k+1))=(S (l.take k) ^^^ l[k].toNat)*16777619 % 4294967296 :=
 ⟨Xl,rfl,by unfold Xl;rw[dc],JC,λ_ _ h=>zl3 h⟩
def NH{a:Option yM}{l:Wd}(h:jE w a l)(hn:l.length=n)(C:n<=2000000000) :
  zC Tryz.prog 31 #[.slice a n cap] w λe w'=>e = .returned (.int .u32 (Xl l:Nat))/\w=w':=by
 obtain⟨S,hS,s0,u,v⟩:=zl4;rw[<-hS];have y:=Z h;have HN:=Z hn;have q:=Z (zg s0 (zg u v));clear h hn hS s0 u v;go_enter func31,ntmps31;go_wp2;go_loop [3,8] (λh i=>∃k:Nat,k<=n/\i = .int .i64 k/\h = .int .u32 (S (l.take k):Nat)) (λ_ i=>n - (intOf i).toNat)
 case atStart=>exact⟨0,zQ _,rfl,by rw[yej,q.o.1];rfl⟩
 case round =>
  obtain⟨k,B,rfl,rfl⟩:=hrel;by_cases r:k<n
  .have p:k<l.length:=(by rw[HN.o];exact r);obtain⟨⟨g,o,f⟩,rfl,hc⟩:=y.o k p;have b:=Z (q.o.2.2 l k p);obtain⟨c,j⟩:=zr (l[k]);rw[j]at hc b;obtain⟨s,hs⟩:=zr (S (l.take k));have t:s<4294967296:=hs▸q.o.2.1 _;rw[hs]at b|-;have d:=c.toNat_lt;have HX:=Z (show yb .u32 (bits .xor .u32 (s:Int) ((c.toNat:Int) % 4294967296)*16777619 % 4294967296) = .int .u32 (S (l.take (k+1)):Nat) by
    rw[b.o,show(c.toNat:Int) % 4294967296=(c.toNat:Int)by omega,u32_xor_nat s c.toNat t J];generalize s ^^^ c.toNat=x;exact congrArg (yb .u32) J)
   clear d;have z:=Z hs;clear hs j;exact zf9
  .have m:k=n:=(by omega);have A:¬(k:Int)<(n:Int):=J;have HR:=Z (show l.take k=l by rw[m];exact yr Ln);clear m;exact Az
structure EE(w:z8)(r g:Nat)(l:Wd):Prop where
 ex:∃b cap,zu w r 0 (.slice (some b) l.length cap)/\l.length<=cap/\cap<=maxLen/\jE w (some b) l/\b.block=g
 ne:g≠r
 fz:w.frozen? (r,0)=false
structure FrR(r:Nat)(w w':z8):Prop extends Fr (· = r) (· = r) w w' where
 r1:w'.cell? (r,1)=w.cell? (r,1)
 z1:w'.frozen? (r,1)=w.frozen? (r,1)
 tp:jh w' r=jh w r
def Bz(b:yM)(n cap:Nat):yM:=if n=cap then b else b.add n
def UG(b:yM)(m n cap:Nat)(h:n<=m)(hc:m<=cap)(hm:cap<=maxLen)(w:z8):(Vu 34 (.slice (some b) m cap) none (some (.int .i64 (n:Int))) none).run Tryz.prog w = .ok (.slice (some b) n cap) w:=by
 unfold maxLen at hm;have h1:(n:Int)<=(cap:Int):=J;simp[Vu,yzv,yfz,kQ underlying34,asIntOf,go_sem];intro q;omega
def S7(b:yM)(m n cap:Nat)(h:n<=m)(hc:m<=cap)(hm:cap<=maxLen)(w:z8):(Vu 34 (.slice (some b) m cap) (some (.int .i64 (n:Int))) none none).run Tryz.prog w = .ok (.slice (some (Bz b n cap)) (m - n) (cap - n)) w:=by
 unfold maxLen at hm;have h1:(n:Int)<=(m:Int):=J;simp[Vu,yzv,yfz,kQ underlying34,asIntOf,go_sem,Bz];rw[yV h];by_cases e:n=cap
 .rw[yV e,yV e.symm]
 .rw[yz e,yz (λq=>e q.symm)]
def jE.take{a:Option yM}{l:Wd}(h:jE w a l)(n:Nat):jE w a (l.take n):=λj c=>by
 rw[uK]at c;obtain⟨b,e,hc⟩:=h j J;exact⟨b,e,by rw[hc];simp⟩
def jE.drop{b:yM}{l:Wd}(h:jE w (some b) l)(hc:l.length<=cap):jE w (some (Bz b n cap)) (l.drop n):=λj c=>by
 rw[yh]at c;obtain⟨d,e,a⟩:=h (n+j) J;cases e;refine⟨_,rfl,?_⟩;rw[Bz,yz J,show(b.add n).add j=b.add (n+j)by simp[Addr.add_add],a];simp
def Ur(b:yM)(n cap:Nat):(Bz b n cap).block=b.block:=by
 unfold Bz;split
 .rfl
 .rw[addr_add]
def S8{g:Nat}{l:Wd}(h:EE w r g l)(hn:n<=l.length) :
  zC Tryz.prog 58 #[(r,0),n] w λe w'=>(∃b cap,e = .returned (.slice (some b) n cap)/\jE w' (some b) (l.take n))/\EE w' r g (l.drop n)/\FrR r w w':=by
 obtain⟨⟨b,cap,c0,h1,h2,hb,c⟩,d,fz⟩:=h;have j:=UG b l.length n cap hn h1 h2;have i:=S7 b l.length n cap hn h1 h2;have s:l.length<=9223372036854775807:=Lr;obtain⟨m,hm⟩:=zr l.length;rw[hm]at c0 h1 j i hn s;have k1:¬(m:Int)<(n:Int):=J;have k:=Z hm;have a:=Z (zg hb (zg c d));have p:=Z (zg h1 (zg h2 hn));clear hm hb c d h1 h2 hn;go_enter func58,ntmps58;go_wp2;go_ret;have f:Fr (· = r) (· = r) w (w.setCell (zU r 0) (.slice (some (Bz b n cap)) (m - n) (cap - n))):=(Fr.refl _ _).set _ (.inl rfl);have hb:=a.o.1.fr f (λu e q=>a.o.2.2 (by cases e;rw[<-a.o.2.1];exact q));have t:(l.drop n).length=m - n:=by rw[yh,k.o]
 have hc:=p.o;refine⟨⟨b,⟨cap,rfl⟩,hb.take n⟩,⟨⟨Bz b n cap,cap - n,?_,J,J,hb.drop (by rw[k.o];exact hc.1),?_⟩,a.o.2.2,?_⟩,f,?_,?_,?_⟩
 .rw[t];exact yw c0 _
 .rw[Ur];exact a.o.2.1
 .rw[zO];exact fz
 .rw[zo,yz zZ]
 .rw[zO]
 .rw[qQ]
def wrap_small(n:Nat)(h:n<9223372036854775808):vH.wrap (n:Int)=(n:Int):=Yy
def yqf(v:Nat)(c:UInt8)(h:v<1099511627776):bits .or .i64 ((v:Int)*256) (c.toNat:Int)=((v*256+c.toNat:Nat):Int):=by
 have hc:=c.toNat_lt;rw[show(v:Int)*256=((v*256:Nat):Int)by omega];show vH.wrap ((yeg 64 ((v*256:Nat):Int) |||yeg 64 ((c.toNat:Nat):Int)).toNat:Int)=_;rw[BitVec.toNat_or,ofInt_u64 _ J,ofInt_u64 _ J,nat_join8 _ _ J J];exact wrap_small _ J
def su{l:Wd}(h:k<l.length):fF (l.take (k+1))=fF (l.take k)*256+l[k].toNat:=by
 unfold fF;rw[yj h,TX,vB,dc]
def mN:∀(l:Wd) (v:Nat),l.foldl (λv c=>v*256+c.toNat) v+1<=(v+1)*256 ^ l.length
 |[],v=>zZ
 |c::l,v=>by
  have h:=mN l (v*256+c.toNat);have hc:=c.toNat_lt;rw[vB,zY,Zw];refine zj h ?_;rw[dY (256 ^ l.length),<-LY];exact qp _ J
def Kz{l:Wd}(h:l.length<=4):fF l<4294967296:=by
 have h1:=mN l 0;have h2:256 ^ l.length<=256 ^ 4:=Nat.pow_le_pow_right zR h;unfold fF;omega
def NI{g:Nat}{l:Wd}(h:EE w r g l)(hn:n<=l.length)(F:n<=4) :
  zC Tryz.prog 57 #[(r,0),n] w λe w'=>e = .returned (fF (l.take n):Nat)/\EE w' r g (l.drop n)/\FrR r w w':=by
 have x:=Z (S8 h hn);have p:=Z (show(l.take n).length=n by rw[uK];omega);clear h hn;obtain⟨L,z⟩:=zr (l.take n);rw[z]at x p|-;obtain⟨N,A,n0,n1,n2⟩:∃N:Wd->Nat,N=fF/\N []=0/\(∀k,N (L.take k)<4294967296)/\∀k (h:k<L.length),N (L.take (k+1))=N (L.take k)*256+L[k].toNat :=
  ⟨fF,rfl,rfl,λk=>Kz (by rw[uK,p.o];omega),λ_ h=>su h⟩
 rw[<-A];have q:=Z (zg n0 (zg n1 n2));clear A z n0 n1 n2;go_enter func57,ntmps57;go_wp2_with fail;refine x.o.mono ?_;rintro e w1 ⟨⟨b,cap,rfl,hb⟩,hr,hf⟩;have B:=Z hb;have C:=Z (zg hr hf);clear hb hr hf x;go_wp2;go_loop [4,11] (λv i=>∃k:Nat,k<=n/\i = .int .i64 k/\v = .int .i64 (N (L.take k):Nat)) (λ_ i=>n - (intOf i).toNat)
 case atStart=>exact⟨0,zQ _,rfl,by rw[yej,q.o.1];rfl⟩
 case round =>
  obtain⟨k,G,rfl,rfl⟩:=hrel;by_cases y:k<n
  .have j:k<L.length:=(by rw[p.o];exact y);obtain⟨⟨g,o,f⟩,D,hc⟩:=B.o k j;cases D;have u:=Z (q.o.2.2 k j);obtain⟨c,a⟩:=zr (L[k]);rw[a]at hc u;have m:=q.o.2.1 k;obtain⟨s,hs⟩:=zr (N (L.take k));rw[hs]at u m|-;have HX:=Z (show yb .i64 (bits .or .i64 ((s:Int)*256) (wrap64 (c.toNat:Int))) = .int .i64 (N (L.take (k+1)):Nat)by rw[u.o,show wrap64 (c.toNat:Int)=(c.toNat:Int) from(by have:=c.toNat_lt;unfold wrap64;omega),yqf s c J]);have hw:vH.wrap ((s:Int)*256)=(s:Int)*256:=(by rw[IntKind.wrap_i64];omega);clear hs a m;exact zf9
  .have d:k=n:=(by omega);have E:¬(k:Int)<(n:Int):=J;have t:=Z (show L.take k=L by rw[d];exact yr (by rw[p.o];exact Y _));clear d;go_wp2;go_ret;rw[t.o];exact⟨rfl,C.o⟩
def xz8(e:xU):Prop:=∃ZI:List Eg,e = .panicked ({ v := .iface 149 (.agg #[]),recovered:=false }::ZI)/\ZI.dropWhile (!·.goexit)=[]
def uY(n:Nat)(l:Wd):Option (Nat×Wd):=if n<=l.length then some (fF (l.take n),l.drop n)else none
def CY{g:Nat}{l:Wd}(h:EE w r g l)(hn:¬n<=l.length)(d:n<=1000000) :
  zC Tryz.prog 58 #[(r,0),n] w λe w'=>xz8 e/\w=w':=by
 obtain⟨⟨b,cap,c0,h1,h2,hb,a⟩,c,fz⟩:=h;obtain⟨m,hm⟩:=zr l.length;rw[hm]at c0 hn;have k1:(m:Int)<(n:Int):=J;clear hm hb a c h1 h2 hn;go_enter func58,ntmps58;go_wp2;refine⟨rfl,?_⟩;exact⟨⟨_,rfl,rfl⟩,rfl⟩
def yc4(r g:Nat)(n:Nat)(l:Wd)(w:z8)(e:xU)(w':z8):Prop :=
 (match uY n l with|some (x,l')=>e = .returned x/\EE w' r g l' |none=>xz8 e)/\FrR r w w'
def fW{g:Nat}{l:Wd}(h:EE w r g l)(n:Nat)(i:n<=4) :
  zC Tryz.prog 57 #[(r,0),n] w (yc4 r g n l w):=by
 unfold yc4 uY;by_cases hn:n<=l.length
 .rw[yV hn];refine(NI h hn i).mono ?_;rintro e w' ⟨h1,h2,f⟩;exact⟨⟨h1,h2⟩,f⟩
 .rw[yz hn];have b:=Z (CY h hn J);clear h;go_enter func57,ntmps57;go_wp2_with fail;refine b.o.mono ?_;rintro e w1 ⟨⟨a,rfl,c⟩,rfl⟩;have d:=Z c;clear c b;go_wp2;refine⟨rfl,?_⟩;exact⟨⟨a,rfl,d.o⟩,Fr.refl _ _,rfl,rfl,rfl⟩
variable{q:Nat}{v2:Value}{l':Wd}
def TM:Nat->List Nat->List Nat->Wd->Option ((List Nat×List Nat)×Wd)
 | 0,k,t,l=>some ((k,t),l)
 |m+1,k,t,l=>match uY 2 l with|none=>none|some (x,l1)=>match uY 2 l1 with|none=>none|some (y,l2)=>TM m (k++[x]) (t++[y]) l2
def D5:Wd->Nat->List Nat->List Nat->Wd->Option ((Nat×List Nat×List Nat)×Wd)
 |[],v,k,t,l=>some ((v,k,t),l)
 |c::f,v,k,t,l =>
  if c=107\/c=110 then match uY 2 l with|none=>none|some (x,l1)=>D5 f v (k++[x]) t l1
  else if c=118 then match uY 4 l with|none=>none|some (x,l1)=>D5 f x k t l1
  else if c=116 then match uY 2 l with|none=>none|some (x,l1)=>D5 f v k (t++[x]) l1
  else match uY 2 l with|none=>none|some (m,l1)=>match TM m k t l1 with|none=>none|some ((k1,t1),l2)=>match uY 2 l2 with|none=>none|some (y,l3)=>D5 f v k1 (t1++[y]) l3
def cD(op pos:Nat):Option ((Nat×List Nat×List Nat)×Wd)->Option (uG×Wd)
 |none=>none
 |some ((v,k,t),l2)=>some (⟨op,pos,v,k,t⟩,l2)
def YA(full:Nat)(l:Wd):Option (uG×Wd) :=
 match uY 1 l with
 |none=>none
 |some (op,l1)=>if 12<=op then none else cD op (full - l.length) (D5 (uW op) 0 [] [] l1)
def X3{w:z8}{a b:yM}(u:Value)(hn:b.block≠a.block):(w.setCell b u).cell? a=w.cell? a:=by rw[zo,yz (λe=>hn (by rw[e]))]
structure dN(A r g op pos v:Nat)(k t:List Nat)(l:Wd)(kv tv:Value)(w0 w:z8):Prop where
 a0:zu w A 0 op
 a1:zu w A 1 pos
 a2:zu w A 2 v
 a3:zu w A 3 kv
 a4:zu w A 4 tv
 z:∀j,w.frozen? ⟨A,j,none⟩=false
 rd:EE w r g l
 kr:uq w kv k
 tr:uq w tv t
 tA:jh w A=some 87
 lo:∀q,zH kv q\/zH tv q->(w0:Nat)<=q
 Jm:g<(w0:Nat)
 KT:r<(w0:Nat)
 WY:(w0:Nat)<=A
 r1:w.cell? (r,1)=w0.cell? (r,1)/\jh w r=jh w0 r
 cE:∀q,zH kv q->¬zH tv q
 fr:Fr (· = r) (λq=>q=r\/q=A\/zH kv q\/zH tv q) w0 w
def mO(r g full:Nat)(l:Wd)(w:z8)(e:xU)(w':z8):Prop :=
 (match YA full l with
  |none=>xz8 e
  |some (x,l')=>(∃kv tv,e = .returned (.agg #[x.op,x.pos,x.v,kv,tv])/\uq w' kv x.k/\uq w' tv x.tg/\(∀q,zH kv q->¬zH tv q)/\∀q,zH kv q\/zH tv q->(w:Nat)<=q)/\EE w' r g l'/\w'.cell? (r,1)=w.cell? (r,1)/\jh w' r=jh w r) /\
 Fr (· = r) (λq=>q=r\/(w:Nat)<=q) w w'
section
variable {A r g op pos v:Nat} {k t:List Nat} {l:Wd} {kv tv:Value} {w0 w w':z8}
def dN.NL(h:dN A r g op pos v k t l kv tv w0 w)(a:zH kv q):q≠A/\q≠r:=⟨λe=>by have h1:=xA h.kr a;rw[e,h.tA]at h1;exact absurd h1 zR,by have:=h.lo q (.inl a);have:=h.KT;omega⟩
def dN.CX(h:dN A r g op pos v k t l kv tv w0 w)(a:zH tv q):q≠A/\q≠r:=⟨λe=>by have h1:=xA h.tr a;rw[e,h.tA]at h1;exact absurd h1 zR,by have:=h.lo q (.inr a);have:=h.KT;omega⟩
def dN.read(h:dN A r g op pos v k t l kv tv w0 w)(hr:EE w' r g l')(hf:FrR r w w'):dN A r g op pos v k t l' kv tv w0 w':=by
 have hA:A≠r:=Lm;have lA:A<(w:Nat):=X _ _ h.a0;exact⟨hf.cell h.a0 hA,hf.cell h.a1 hA,hf.cell h.a2 hA,hf.cell h.a3 hA,hf.cell h.a4 hA,λj=>(hf.frozen (a:=⟨A,j,none⟩) lA hA).trans (h.z j),hr,hf.own h.kr (λq hq=>(h.NL hq).2),hf.own h.tr (λq hq=>(h.CX hq).2),
  (yc (hf.keep A lA hA)).trans h.tA,h.lo,h.Jm,h.KT,h.WY,⟨hf.r1.trans h.r1.1,hf.tp.trans h.r1.2⟩,h.cE,h.fr.tr hf.toFr (λq hq => .inl hq) |>.tg (λq hq=>zg2)⟩
def EE.fr(h:EE w r g l)(hf:Fr F F' w w')(hr:¬F r)(d:¬F g):EE w' r g l:=by
 obtain⟨⟨b,cap,c0,h1,h2,hb,a⟩,c,fz⟩:=h;exact⟨⟨b,cap,hf.cell c0 hr,h1,h2,hb.fr hf (λf e=>by cases e;rw[a];exact d),a⟩,c,(hf.frozen (X _ _ c0) hr).trans fz⟩
def dN.push(h:dN A r g op pos v k t l kv tv w0 w){x:Nat}(hf:Fr (zH kv) (zH v2) w w')(ho:w'.ownsRow 0 3 1 v2 (k.length+1) (bo k++[.int .i64 (x:Nat)])) :
  dN A r g op pos v (k++[x]) t l v2 tv w0 (w'.setCell (A,3) v2):=by
 have nA:¬zH kv A:=λq=>(h.NL q).1 rfl
 have nr:¬zH kv r:=λq=>(h.NL q).2 rfl
 have p:¬zH kv g:=λq=>by have:=h.lo g (.inl q);have:=h.Jm;omega
 have lA:A<(w:Nat):=X _ _ h.a0;have hA:A≠r:=Lm;have gA:g≠A:=WM;have o:¬zH v2 A:=λq=>(hf.fp A q).elim nA (λe=>J)
 have d:∀q,zH v2 q->(w0:Nat)<=q:=λq f=>(hf.fp q f).elim (λe=>h.lo q (.inl e)) (λe=>by have:=h.fr.size;omega)
 have f2:Fr (λq=>q=A) (λq=>q=A) w' (w'.setCell (A,3) v2):=(Fr.refl _ _).set _ (.inl rfl);have ne:∀j,j≠3->¬((⟨A,3,none⟩:yM)=⟨A,j,none⟩):=λj hj e=>hj (congrArg Addr.off e).symm
 have c:∀j u,j≠3->zu w A j u->zu (w'.setCell (zU A 3) v2) A j u:=λj u hj hc=>zq0
 have m:uq w' v2 (k++[x]):=zqx;have s:∀q,zH tv q->¬zH kv q:=λq a b=>h.cE q b a
 have n:=hf.own h.tr s;have i:∀q,zH v2 q->¬zH tv q:=λq a b=>(hf.fp q a).elim (λe=>h.cE q e b) (λe=>by have:=uj h.tr b;omega)
 refine⟨c 0 _ zR h.a0,c 1 _ zR h.a1,c 2 _ zR h.a2,yw (hf.cell h.a3 nA) _,c 4 _ zR h.a4,λj=>?_,(h.rd.fr hf nr p).fr f2 (λq=>hA q.symm) gA,f2.own m (λq a b=>o (b▸a)),f2.own n (λq a b=>(h.CX a).1 b),?_,?_,h.Jm,h.KT,h.WY,⟨(X3 _ hA).trans ((yE (hf.keep r (zD h.KT h.fr.size) nr)).trans h.r1.1),(qQ _ _ _ _).trans ((yc (hf.keep r (zD h.KT h.fr.size) nr)).trans h.r1.2)⟩,i,?_⟩
 .exact zvb
 .rw[qQ];exact(yc (hf.keep A lA nA)).trans h.tA
 .rintro q (a|a)
  .exact d q a
  .exact h.lo q (.inr a)
 .refine((h.fr.tr hf (λq f => .inr (h.lo q (.inl f)))).set (a:=(A,3)) _ (.inr h.WY)).tg (λq f=>?_);rcases f with e|e|e|e
  .exact .inl e
  .exact Ll
  .exact .inr (d q e)
  .exact .inr (h.lo q (.inr e))
def dN.zl5(h:dN A r g op pos v k t l kv tv w0 w){x:Nat}(hf:Fr (zH tv) (zH v2) w w')(ho:w'.ownsRow 0 3 1 v2 (t.length+1) (bo t++[.int .i64 (x:Nat)])) :
  dN A r g op pos v k (t++[x]) l kv v2 w0 (w'.setCell (A,4) v2):=by
 have nA:¬zH tv A:=λq=>(h.CX q).1 rfl
 have nr:¬zH tv r:=λq=>(h.CX q).2 rfl
 have p:¬zH tv g:=λq=>by have:=h.lo g (.inr q);have:=h.Jm;omega
 have lA:A<(w:Nat):=X _ _ h.a0;have hA:A≠r:=Lm;have gA:g≠A:=WM;have o:¬zH v2 A:=λq=>(hf.fp A q).elim nA (λe=>J)
 have d:∀q,zH v2 q->(w0:Nat)<=q:=λq f=>(hf.fp q f).elim (λe=>h.lo q (.inr e)) (λe=>by have:=h.fr.size;omega)
 have f2:Fr (λq=>q=A) (λq=>q=A) w' (w'.setCell (A,4) v2):=(Fr.refl _ _).set _ (.inl rfl);have ne:∀j,j≠4->¬((⟨A,4,none⟩:yM)=⟨A,j,none⟩):=λj hj e=>hj (congrArg Addr.off e).symm
 have c:∀j u,j≠4->zu w A j u->zu (w'.setCell (zU A 4) v2) A j u:=λj u hj hc=>zq0
 have n:uq w' v2 (t++[x]):=zqx;have m:=hf.own h.kr (λq a b=>h.cE q a b);have i:∀q,zH kv q->¬zH v2 q:=λq a b=>(hf.fp q b).elim (λe=>h.cE q a e) (λe=>by have:=uj h.kr a;omega)
 refine⟨c 0 _ zR h.a0,c 1 _ zR h.a1,c 2 _ zR h.a2,c 3 _ zR h.a3,yw (hf.cell h.a4 nA) _,λj=>?_,(h.rd.fr hf nr p).fr f2 (λq=>hA q.symm) gA,f2.own m (λq a b=>(h.NL a).1 b),f2.own n (λq a b=>o (b▸a)),?_,?_,h.Jm,h.KT,h.WY,⟨(X3 _ hA).trans ((yE (hf.keep r (zD h.KT h.fr.size) nr)).trans h.r1.1),(qQ _ _ _ _).trans ((yc (hf.keep r (zD h.KT h.fr.size) nr)).trans h.r1.2)⟩,i,?_⟩
 .exact zvb
 .rw[qQ];exact(yc (hf.keep A lA nA)).trans h.tA
 .rintro q (a|a)
  .exact h.lo q (.inl a)
  .exact d q a
 .refine((h.fr.tr hf (λq f => .inr (h.lo q (.inr f)))).set (a:=(A,4)) _ (.inr h.WY)).tg (λq f=>?_);rcases f with e|e|e|e
  .exact .inl e
  .exact Ll
  .exact .inr (h.lo q (.inl e))
  .exact .inr (d q e)
end
def NM(x:Nat):(bt x).toNat=x % 256:=by have:=Mr x;omega
def zl6(x:Nat)(h:x<65536):fF (vy x)=x:=by
 simp only[fF,vy,vB,dc,NM];omega
def Ip(x:Nat)(h:x<4294967296):fF (j7 x)=x:=by
 simp only[fF,j7,vB,dc,NM];omega
def CV(a l:Wd)(ha:a.length=n):uY n (a++l)=some (fF a,l):=by
 unfold uY;rw[yV Da,yfg ha,yff ha]
def fe(x:Nat)(l:Wd)(h:x<65536):uY 2 (vy x++l)=some (x,l):=by rw[CV (n:=2) _ _ rfl,zl6 x h]
def sk(x:Nat)(l:Wd)(h:x<4294967296):uY 4 (j7 x++l)=some (x,l):=by rw[CV (n:=4) _ _ rfl,Ip x h]
def Hq:Wd->Nat->Nat->Bool
 |[],a,b=>decide (a=0) && decide (b=0)
 |c::f,a,b =>
  if c=107\/c=110 then decide (0<a) && Hq f (a - 1) b
  else if c=118 then Hq f a b
  else if c=116 then decide (0<b) && Hq f a (b - 1)
  else decide (a<b) && Hq f 0 (b - (a+1))
def mP:∀(k t K T:List Nat) (l:Wd),k.length<t.length->(∀x∈k,x<65536)->(∀x∈t,x<65536) ->
  TM k.length K T (YU k t++l)=some ((K++k,T++t.take k.length),vy ((t.drop k.length).headD 0)++l)
 |[],t,K,T,l,_,_,_=>by simp[TM,YU]
 |a::k,[],K,T,l,h,_,_=>Va
 |a::k,b::t,K,T,l,h,c,d=>by
  have e:=mP k t (K++[a]) (T++[b]) l QY (λx hx=>c x (.tail _ hx)) (λx hx=>d x (.tail _ hx));show TM (k.length+1) K T ((vy a++(vy b++YU k t))++l)=_;unfold TM;rw[yk,yk,fe a _ (c a (.head _))];simp only;rw[fe b _ (d b (.head _))];simp only;rw[e];simp
def JE:∀(f:Wd) (v0 v:Nat) (k t K T:List Nat) (l:Wd),Hq f k.length t.length=true->(∀x∈k,x<65536)->(∀x∈t,x<65536)->v<4294967296->k.length<65536 ->
  D5 f v0 K T (ua f v k t++l)=some ((if 118∈f then v else v0,K++k,T++t),l)
 |[],v0,v,k,t,K,T,l,h,_,_,_,_=>by
  simp only[Hq,zx,vJ,List.length_eq_zero_iff]at h;obtain⟨rfl,rfl⟩:=h;simp[D5,ua]
 |c::f,v0,v,k,t,K,T,l,h,j,b,hv,m=>by
  unfold Hq at h;unfold D5 ua;by_cases h1:c=107\/c=110
  .rw[yV h1]at h;rw[yV h1,yV h1];have hc:(118:UInt8)≠c:=(by rcases h1 with rfl|rfl<;>decide);cases k with
   |nil=>simp at h
   |cons a k =>
    simp only[zY,Z1,zx]at h;have d:=JE f v0 v k t (K++[a]) T l h.2 (λx hx=>j x (.tail _ hx)) b hv (by simp only[zY]at m;omega);rw[yk,List.headD_cons,fe a _ (j a (.head _))];simp only[List.tail_cons];rw[d];simp[hc]
  .rw[yz h1]at h;rw[yz h1,yz h1];by_cases h2:c=118
   .rw[yV h2]at h;rw[yV h2,yV h2];have d:=JE f v v k t K T l h j b hv m;rw[yk,sk v _ hv];simp only;rw[d];simp[h2]
   .rw[yz h2]at h;rw[yz h2,yz h2];have hc:(118:UInt8)≠c:=λe=>h2 e.symm
    by_cases g:c=116
    .rw[yV g]at h;rw[yV g,yV g];cases t with
     |nil=>simp at h
     |cons a t =>
      simp only[zY,Z1,zx]at h;have d:=JE f v0 v k t K (T++[a]) l h.2 j (λx hx=>b x (.tail _ hx)) hv m;rw[yk,List.headD_cons,fe a _ (b a (.head _))];simp only[List.tail_cons];rw[d];simp[hc]
    .rw[yz g]at h;rw[yz g,yz g];simp only[zx,vJ]at h;have hd:t.drop k.length=(t.drop k.length).headD 0::t.drop (k.length+1):=by
      rw[yY h.1];rfl
     have hy:(t.drop k.length).headD 0<65536:=b _ (dV (i:=k.length) (by rw[hd];simp));have d:=JE f v0 v [] (t.drop (k.length+1)) (K++k) ((T++t.take k.length)++[(t.drop k.length).headD 0]) l (by rw[yh];exact h.2) (λx hx=>Qe) (λx hx=>b x (dV hx)) hv zZ;rw[yk,fe _ _ m];simp only;rw[yk,mP k t K T _ h.1 j b];simp only;rw[fe _ _ hy];simp only;rw[d,jJ,yk,yk,List.singleton_append,<-hd,Xx];simp[hc]
structure cH(i:uG):Prop where
 op:i.op<12
 v:i.v<4294967296
 k:∀x∈i.k,x<65536
 t:∀x∈i.tg,x<65536
 len:i.k.length<65536
 ex:Hq (uW i.op) i.k.length i.tg.length=true
 v0:(118:UInt8) ∉ uW i.op->i.v=0
def zl7(full:Nat)(i:uG)(l:Wd)(h:cH i)(hp:i.pos=full - (xF i++l).length):YA full (xF i++l)=some (i,l):=by
 unfold YA;have h1:uY 1 (xF i++l)=some (i.op,ua (uW i.op) i.v i.k i.tg++l):=by
  show uY 1 ([bt i.op]++(ua (uW i.op) i.v i.k i.tg++l))=_;rw[CV (n:=1) _ _ rfl];have:=h.op;simp only[fF,vB,dc,NM];rw[show 0*256+i.op % 256=i.op by omega]
 rw[h1];simp only;rw[yz (by have:=h.op;omega),JE _ 0 i.v i.k i.tg [] [] l h.ex h.k h.t h.v h.len,<-hp];obtain⟨op,pos,v,k,tg⟩:=i;by_cases hv:(118:UInt8)∈uW op
 .simp[cD,hv]
 .have:=h.v0 hv;simp only at this;simp[cD,hv,this]
def Xm(c:UInt8)(x:Nat)(h:x % 256=c.toNat):bt x=c:=by
 apply dW.1;rw[NM,h]
def fQ{l:Wd}{x:Nat}(h:uY 2 l=some (x,l')):l=vy x++l'/\x<65536:=by
 unfold uY at h;split at h
 .rename_i c;cases h;obtain⟨a,b,l,rfl⟩:∃a b r,l=a::b::r:=by
   match l,c with
   |a::b::r,_=>exact⟨a,b,r,rfl⟩
  have ha:=a.toNat_lt;have hb:=b.toNat_lt;have e:fF ((a::b::l).take 2)=a.toNat*256+b.toNat:=by simp[fF]
  rw[e];refine⟨?_,J⟩;rw[vy,Xm a _ J,Xm b _ J];rfl
 .cases h
def sj{l:Wd}{x:Nat}(h:uY 4 l=some (x,l')):l=j7 x++l'/\x<4294967296:=by
 unfold uY at h;split at h
 .rename_i f;cases h;obtain⟨a,b,c,d,l,rfl⟩:∃a b c d r,l=a::b::c::d::r:=by
   match l,f with
   |a::b::c::d::r,_=>exact⟨a,b,c,d,r,rfl⟩
  have ha:=a.toNat_lt;have hb:=b.toNat_lt;have hc:=c.toNat_lt;have hd:=d.toNat_lt;have e:fF ((a::b::c::d::l).take 4)=((a.toNat*256+b.toNat)*256+c.toNat)*256+d.toNat:=by simp[fF]
  rw[e];refine⟨?_,J⟩;rw[j7,Xm a _ J,Xm b _ J,Xm c _ J,Xm d _ J];rfl
 .cases h
def mR:∀(m:Nat) (K T:List Nat) (l:Wd) (b c:List Nat) (d:Wd),TM m K T l=some ((b,c),d) ->
  ∃k t,k.length=m/\t.length=m/\b=K++k/\c=T++t/\(∀x∈k,x<65536)/\(∀x∈t,x<65536)/\∀y ts a,d=vy y++a->l=YU k (t++y::ts)++a
 | 0,K,T,l,b,c,d,h=>by
  cases h;exact⟨[],[],rfl,rfl,zZ,zZ,(λx hx=>by cases hx),(λx hx=>by cases hx),λy ts a e=>by simpa[YU]using e⟩
 |m+1,K,T,l,b,c,d,h=>by
  unfold TM at h;cases h1:uY 2 l with
  |none=>rw[h1]at h;cases h
  |some p =>
   obtain⟨x,n⟩:=p;rw[h1]at h;simp only at h;cases f:uY 2 n with
   |none=>rw[f]at h;cases h
   |some q =>
    obtain⟨y,o⟩:=q;rw[f]at h;simp only at h;obtain⟨k,t,a1,a2,a3,a4,a5,g,i⟩:=mR m _ _ _ _ _ _ h;obtain⟨b1,b2⟩:=fQ h1;obtain⟨b3,j⟩:=fQ f;refine⟨x::k,y::t,by simp[a1],by simp[a2],by rw[a3];simp,by rw[a4];simp,λz hz=>?_,λz hz=>?_,λz ts a e=>?_⟩
    .exact zq9
    .rcases yX.1 hz with rfl|hz
     .exact j
     .exact g z hz
    .rw[b1,b3,i z ts a e];simp[YU]
def sg:Wd->Bool
 |[]=>true
 |c::f=>if c=107\/c=110 then sg f else if c=118 then decide ((118:UInt8) ∉ f) && sg f else if c=116 then sg f else decide (f=[])
def DC:∀(f:Wd) (v0:Nat) (K T:List Nat) (l:Wd) (v:Nat) (n o:List Nat) (l':Wd),sg f=true->D5 f v0 K T l=some ((v,n,o),l') ->
  ∃k t,n=K++k/\o=T++t/\Hq f k.length t.length=true/\(∀x∈k,x<65536)/\(∀x∈t,x<65536)/\((118:UInt8) ∉ f->v=v0)/\((118:UInt8)∈f->v<4294967296)/\l=ua f v k t++l'
 |[],v0,K,T,l,v,n,o,l',_,h=>by
  cases h;exact⟨[],[],zZ,zZ,rfl,(λx hx=>by cases hx),(λx hx=>by cases hx),λ_=>rfl,(λq=>kK),rfl⟩
 |c::f,v0,K,T,l,v,n,o,l',a,h=>by
  unfold D5 at h;unfold sg at a;unfold Hq ua;by_cases h1:c=107\/c=110
  .have hc:(118:UInt8)≠c/\(42:UInt8)≠c:=(by rcases h1 with rfl|rfl<;>decide);rw[yV h1]at h a;cases h2:uY 2 l with
   |none=>rw[h2]at h;cases h
   |some p =>
    obtain⟨x,r⟩:=p;rw[h2]at h;simp only at h;obtain⟨k,t,a1,a2,a3,a4,a5,d,i,j⟩:=DC f _ _ _ _ _ _ _ _ a h;obtain⟨b1,b2⟩:=fQ h2;refine⟨x::k,t,by rw[a1];simp,a2,by rw[yV h1];simpa using a3,λz hz=>?_,a5,λq=>d (λe=>q (.tail _ e)),λq=>i (by simpa[hc.1]using q),?_⟩
    .rcases yX.1 hz with rfl|hz
     .exact b2
     .exact a4 z hz
    .rw[yV h1,b1,j];simp
  .rw[yz h1]at h a;by_cases h2:c=118
   .rw[yV h2]at h a;simp only[zx,vJ]at a;cases b:uY 4 l with
    |none=>rw[b]at h;cases h
    |some p =>
     obtain⟨x,r⟩:=p;rw[b]at h;simp only at h;obtain⟨k,t,a1,a2,a3,a4,a5,d,i,j⟩:=DC f _ _ _ _ _ _ _ _ a.2 h;obtain⟨b1,b2⟩:=sj b;have hv:=d a.1;refine⟨k,t,a1,a2,by rw[yz h1,yV h2];exact a3,a4,a5,λq=>absurd (by rw[h2];exact qI) q,λ_=>by rw[hv];exact b2,?_⟩;rw[yz h1,yV h2,b1,j,hv,yk]
   .have hc:(118:UInt8)≠c:=λe=>h2 e.symm
    rw[yz h2]at h a;by_cases b:c=116
    .rw[yV b]at h a;cases g:uY 2 l with
     |none=>rw[g]at h;cases h
     |some p =>
      obtain⟨x,r⟩:=p;rw[g]at h;simp only at h;obtain⟨k,t,a1,a2,a3,a4,a5,d,i,j⟩:=DC f _ _ _ _ _ _ _ _ a h;obtain⟨b1,b2⟩:=fQ g;refine⟨k,x::t,a1,by rw[a2];simp,by rw[yz h1,yz h2,yV b];simpa using a3,a4,λz hz=>?_,λq=>d (λe=>q (.tail _ e)),λq=>i (by simpa[hc]using q),?_⟩
      .exact zq9
      .rw[yz h1,yz h2,yV b,b1,j];simp
    .rw[yz b]at h a;simp only[vJ]at a;subst a;cases g:uY 2 l with
     |none=>rw[g]at h;cases h
     |some p =>
      obtain⟨m,r⟩:=p;rw[g]at h;simp only at h;cases s:TM m K T r with
      |none=>rw[s]at h;cases h
      |some q =>
       obtain⟨⟨k1,t1⟩,A⟩:=q;rw[s]at h;simp only at h;cases u:uY 2 A with
       |none=>rw[u]at h;cases h
       |some q =>
        obtain⟨y,B⟩:=q;rw[u]at h;simp only[D5]at h;cases h;obtain⟨k,t,a1,a2,a3,a4,a5,d,i⟩:=mR _ _ _ _ _ _ _ s;obtain⟨b1,b2⟩:=fQ g;obtain⟨b3,w⟩:=fQ u;refine⟨k,t++[y],a3,by rw[a4,yk],?_,a5,λz hz=>?_,λ_=>rfl,λq=>?_,?_⟩
        .rw[yz h1,yz h2,yz b];simp[Hq,a1,a2]
        .rcases zS.1 hz with hz|hz
         .exact d z hz
         .rw[zJ.1 hz];exact w
        .rcases yX.1 q with q|q
         .exact absurd q hc
         .cases q
        .rw[yz h1,yz h2,yz b,b1,i y [] _ b3,a1];simp[ua]
def zl8(op:Nat):sg (uW op)=true:=by
 unfold uW;split<;>decide
def JH:∀(k t:List Nat),4*k.length+2=(YU k t).length
 |[],t=>rfl
 |a::k,t=>by
  have:=JH k t.tail;simp only[YU,zy,zY,vy,yF];omega
def Qy:∀(f:Wd) (v:Nat) (k t:List Nat),Hq f k.length t.length=true->2*k.length<=(ua f v k t).length
 |[],v,k,t,h=>by
  simp only[Hq,zx,vJ]at h;omega
 |c::f,v,k,t,h=>by
  unfold Hq at h;unfold ua;by_cases h1:c=107\/c=110
  .rw[yV h1]at h|-;simp only[zx,vJ]at h;have:=Qy f v k.tail t Mb;rw[OS]at this;simp only[zy,vy,zY,yF];omega
  .rw[yz h1]at h|-;by_cases h2:c=118
   .rw[yV h2]at h|-;have:=Qy f v k t h;exact Da
   .rw[yz h2]at h|-;by_cases a:c=116
    .rw[yV a]at h|-;simp only[zx,vJ]at h;have:=Qy f v k t.tail Mb;exact Da
    .rw[yz a];have:=JH k t;simp only[zy];omega
def S9{full:Nat}{l:Wd}{i:uG}(n:l.length<=65535)(h:YA full l=some (i,l')):l=xF i++l'/\cH i/\i.pos=full - l.length:=by
 unfold YA at h;cases h1:uY 1 l with
 |none=>rw[h1]at h;cases h
 |some p =>
  obtain⟨op,a⟩:=p;rw[h1]at h;simp only at h;split at h
  .cases h
  .rename_i m;obtain⟨c,r,rfl⟩:∃c r,l=c::r:=by
    cases l with
    |nil=>simp[uY]at h1
    |cons c r=>exact⟨c,r,rfl⟩
   have hc:=c.toNat_lt;have b:op=c.toNat/\a=r:=by
    unfold uY at h1;rw[yV zZ]at h1;cases h1;simp[fF]
   obtain⟨rfl,rfl⟩:=b;cases h2:D5 (uW c.toNat) 0 [] [] a with
   |none=>rw[h2]at h;cases h
   |some q =>
    obtain⟨⟨v,k,t⟩,o⟩:=q;rw[h2]at h;cases h;obtain⟨k',t',a1,a2,a3,a4,g,d,j,e⟩:=DC _ _ _ _ _ _ _ _ _ (zl8 _) h2;rw[xK]at a1 a2;subst a1 a2;have f:=Qy _ v k t a3;have hx:(c::a)=xF ⟨c.toNat,full - (c::a).length,v,k,t⟩++l':=by
     show c::a=bt c.toNat::(ua (uW c.toNat) v k t++l');rw[<-e,Xm c _ J]
    refine⟨hx,⟨by show c.toNat<12;omega,?_,a4,g,?_,a3,d⟩,rfl⟩
    .show v<4294967296;by_cases hm:(118:UInt8)∈uW c.toNat
     .exact j hm
     .rw[d hm];decide
    .show k.length<65536;have:=congrArg xD e;rw[zy]at this;rw[zY]at n;omega
variable{ops:Array jk}{Q:Exit->Act->z8->Prop}{size:Nat}{P:VI}{α:Type}{e:xm}{v:Value}
def qZ(cs:List Wd):Wd:=cs.flatMap λc=>vy c.length++c
def xQ(code:List uG):Wd:=code.flatMap xF
def jZ(s:MkS):Wd:=qJ++vy s.cs.length++qZ s.cs++vy (xQ s.code).length++xQ s.code
def qG(s:MkS):Wd:=jZ s++j7 (Xl (jZ s))
def Ir(f:α->Wd){l:List α}{k:Nat}{x:α}(h:l[k]? = some x):(l.take (k+1)).flatMap f=(l.take k).flatMap f++f x:=by
 obtain⟨h1,h2⟩:=zF.1 h;rw[yj h1,yn,h2];simp
def mS(f:α->Wd)(l:List α)(k:Nat):((l.take k).flatMap f).length<=(l.flatMap f).length:=by
 have h:(l.flatMap f)=(l.take k).flatMap f++(l.drop k).flatMap f:=by rw[<-yn,Xx]
 rw[h,zy];omega
def Gs(f:α->Wd)(hf:∀x,0<(f x).length):∀l:List α,l.length<=(l.flatMap f).length
 |[]=>zZ
 |a::l=>by
  have h1:=Gs f hf l;have h2:=hf a;exact zq1
def fP.bys{w:z8}{l:Wd}(h:fP w v l):∃a cap,v = .slice a l.length cap/\jE w a l:=by
 by_cases c:0<l.length
 .obtain⟨g,cap,hv,-,-,hc⟩:=xf h c;exact⟨_,cap,hv,λj b=>⟨_,rfl,by rw[vS,hc j J];simp[gp,b]⟩⟩
 .obtain⟨a,cap,hv⟩:=zn h;exact⟨a,cap,hv,λj b=>absurd b J⟩
section
variable {q mb k:Nat} {s:MkS} {vC vI:Value} {rs:List (Value×Value)} {w:z8}
def ug.xm3{x:uG}(h:ug q s vC vI rs mb w)(hk:s.code[k]? = some x):∃I d kv tv,vI = .slice (some ⟨I,0,none⟩) s.code.length d/\IV w I (k*5) x kv tv/\jh w I=some 87/\(∀g,zH kv g->jh w g=some 3/\g<(w:Nat))/\∀g,zH tv g->jh w g=some 3/\g<(w:Nat):=by
 have e:=(zF.1 hk).1;obtain⟨⟨kv,tv⟩,hr⟩:∃r,rs[k]? = some r:=⟨_,zk GY⟩;obtain⟨h1,h2⟩:=h.rows.k k x _ hk hr;obtain⟨I,d,b,-,f,yn6⟩:=xf h.cI J;have c:∀j,j<5->w.cell? ⟨I,k*5+j,none⟩=(Jg x (kv,tv))[j]? := λj hj=>AU
 exact⟨I,d,kv,tv,b,⟨c 0 J,c 1 J,c 2 J,c 3 J,c 4 J,uq.pJ h1,uq.pJ h2⟩,xA h.cI (by rw[b];rfl),λg a=>⟨xA h1 a,uj h1 a⟩,λg a=>⟨xA h2 a,uj h2 a⟩⟩
def cL{l:Wd}(h:fP w v l){g:Nat}{t:xm}(b:jh w g=some t)(a:t≠5):¬zH v g:=λq=>a (zL (b.symm.trans (xA h q)))
def zl9{t:xm}{z:Value}{bytes:Nat}(E:Y7 P t e z size bytes){w:z8}{rest:List jk}{o:jk}{a:Act}
  (d c:List Value) (n m:Nat) {s x:Operand} {b:yM} (f:d.length=n*size) (holds:∀j u,d[j]? = some u->w.cell? (b.add j)=some u) (hm:0<m) (y:n+m<=2147483648)
  (h:∀v' w',w'.ownsRow 0 e size v' (n+m) (d++c)->Fr yH (zH v') w w'->Ek P ops Q rest (a.put o.dst v') w')
  (B:o.guard=none:=by rfl) (I:o.op = .call { callee := .builtin .append,args:=#[s,x],argTypes:=#[t,t] }:=by rfl) (hs:a.eval s = .slice (some b) n n:=by rfl) (hx:a.eval x = .slice (w,0) m m:=by rfl)
  (v:c.length=m*size:=by rfl):Ek P ops Q (o::rest) a (w.alloc (.cells c.toArray e)):=by
 refine wpList_plain B λK hK=>?_
 obtain⟨i,hi,L,h2,G⟩:=E.info;have C:=E.small;have p:=Z2 y C;subst h2 G;have F:=run_append_grow (P:=P) (w.alloc (.cells c.toArray e)) t o.type e i z E.under hi L b n n d f (λj u D=>yy (holds j u D) _) ⟨(w:Nat),0,none⟩ m m c v (λj u D=>by rw[vS,zf];simpa using D) J J (growslice_fits J (zj p zR));obtain⟨g,A⟩:=zr (grownCap (w.alloc (.cells c.toArray e)) (n+m) n e);have q:=grownCap_ge (w.alloc (.cells c.toArray e)) (n+m) n e;have l:=grownCap_le_maxLen (w.alloc (.cells c.toArray e)) (n+m) n e (by unfold maxLen;omega);rw[A]at F q l;unfold kd execOp;simp only[I,resolve,invoke,builtin,js,wj,Xg,JA,vE,zpd,hs,hx,F];refine hK _ _ (h _ _ ⟨by rw[zy,f,v,ki],.inr ⟨_,g,_,rfl,zQ _,kU (w.alloc (.cells c.toArray e)).drew _,q,l,?_,?_⟩⟩ ?_)
 .simp only[Array.size_append,List.size_toArray,size_zeroCells,E.Qg,f,v,<-ki];congr 1;omega
 .have r:(d++c).length=(n+m)*i.size:=by rw[zy,f,v,ki]
  simp only[zzk,yk];rw[<-yk,<-r];exact oZ
 .refine(((Fr.refl yH w).alloc _).drew.alloc _).tg (λk H=>?_);cases H;exact .inr zZ
def CU(w:z8):∃W,(convert 34 34 (.slice (w,0) 3 3)).run Tryz.prog (w.alloc (.cells #[.int .u8 80,.int .u8 72,.int .u8 49] 5)) = .ok (.slice (w,0) 3 3) W/\Fr yH yH w W /\
  ∀j u,(gp qJ)[j]? = some u->W.cell? ((⟨(w:Nat),0,none⟩:yM).add j)=some u:=by
 have c:(w.alloc (.cells #[.int .u8 80,.int .u8 72,.int .u8 49] 5)).shape? (w:Nat)=some (5,3):=by
  have:(w.alloc (.cells #[.int .u8 80,.int .u8 72,.int .u8 49] 5)).heap[(w:Nat)]? = some (.cells #[.int .u8 80,.int .u8 72,.int .u8 49] 5):=Wf;unfold World.shape?;rw[this];rfl
 have b:(w.alloc (.cells #[.int .u8 80,.int .u8 72,.int .u8 49] 5)).freeze ⟨(w:Nat),3,none⟩ 1=w.alloc (.cells #[.int .u8 80,.int .u8 72,.int .u8 49] 5 (3,4)):=by
  have hm:∀(a:Array Obj) (x:Obj) (f:Obj->Obj),(a.push x).modify a.size f=a.push (f x):=by
   intro a x f;apply Array.ext
   .simp
   .intro i h1 h2;simp only[Array.getElem_modify,Array.getElem_push];by_cases h:a.size=i
    .subst h;simp
    .have hi:i<a.size:=(by simp at h1;omega);simp[h,hi]
  unfold World.freeze;rw[yz zR];show({ w.alloc (.cells _ _)with heap:=(w.heap.push _).modify (w:Nat) _ }:z8)=_;rw[hm];rfl
 refine⟨w.alloc (.cells #[.int .u8 80,.int .u8 72,.int .u8 49] 5 (3,4)),?_,(Fr.refl _ _).alloc _,λj u d=>?_⟩
 .simp[convert,kQ underlying34,kQ underlying5,markStringish,c];exact b
 .rw[vS,World.cell?_alloc_mark];simpa[gp,qJ]using d
def zlz(b:yM)(x:Nat)(w:z8)(h:∀j u,(gp qJ)[j]? = some u->w.cell? (b.add j)=some u)(hx:x<=4000000000) :
  zC Tryz.prog 28 #[.slice (some b) 3 3,x] w λe w'=>∃v',e = .returned v'/\fP w' v' (qJ++vy x)/\Fr yH (zH v') w w':=by
 have g:=Z (show[yb .u8 ((x:Int) / 256 % 256),.int .u8 ((x:Int) % 256)]=gp (vy x)by simp[gp,vy,Mr]);have d:=Z h;clear h;go_enter func28,ntmps28;go_wp2_with (at_builtin;refine zl9 Uu (gp qJ) [_,_] 3 2 rfl d.o zR zR ?_);intro v' w' a hf;obtain⟨na,i,rfl⟩:=zn a;have f:=Z a;have c:=Z hf;clear a hf;go_wp2;go_ret;refine⟨_,rfl,?_,c.o⟩;have:=f.o;rw[g.o,<-Uq]at this;exact this
def sf(h:ug q s vC vI rs mb w)(hI:∀x∈s.code,IU x)(hF:qj w)(hl:(jZ s).length<=1000000000)(hcb:(xQ s.code).length<=1000000)(K:s.code≠[]) :
  zC Tryz.prog 17 #[(q,0)] w λe w'=>∃v,e = .returned v/\fP w' v (qG s)/\Fr yH (zH v) w w':=by
 obtain⟨i0,hi,wL,hz1,EV⟩:=JG;have A:(qZ s.cs).length<=1000000000/\(xQ s.code).length<=1000000:=⟨by simp only[jZ,zy]at hl;omega,hcb⟩;have IQ:s.cs.length<=1000000000:=zj (Gs _ (λc=>by simp[vy]) s.cs) A.1;have QU:s.code.length<=1000000:=zj (Gs _ (λc=>by simp[xF]) s.code) A.2;obtain⟨n,hn⟩:=zr s.cs.length;obtain⟨m,hm⟩:=zr s.code.length;have HH:=Z h;have HI:=Z hI;have HL:=Z (zg hl A);have q0:=h.q0;have q1:=h.q1;obtain⟨ca,cc,rfl⟩:=zn h.cC;obtain⟨ia,ic,rfl⟩:=zn h.cI;rw[hn]at q0 IQ;rw[hm]at q1 QU;have HN:=Z (zg hn hm);have HF:=Z hF;have HNE:=Z K;clear h hI hl A hn hm hF K hcb;go_enter func17,ntmps17;obtain⟨W,hcv,hfW,hcW⟩:=CU w;have q0W:=hfW.cell q0 id;have O:=Z (zlz ⟨(w:Nat),0,none⟩ n W hcW J);have Vc:=Z hfW;clear hfW hcW;go_wp2_with fail;refine O.o.mono ?_;rintro e w1 ⟨v1,rfl,Dk,H⟩;have H:Fr yH (zH v1) w w1:=Vc.o.trans H;have q0:=H.cell q0 id;have OI:=Z Dk;have EF:=Z H;have HC:=Z (show ∀k (c:Wd),s.cs[k]? = some c->∃C,ca=some ⟨C,0,none⟩/\zu w C k (zM c)from λk c hk=>by
  obtain⟨C,cc',e1,e2,-⟩:=HH.o.con hk;have:=HH.o.q0;rw[e1]at this;cases this;exact⟨C,rfl,e2⟩)
 clear O Dk H q0W hcv Vc;go_wp2;go_loopw [3,21] (λb i wr=>∃(k:Nat) (v:Value),v=b/\k<=n/\i = .int .i64 k/\fP wr b (qJ++vy n++qZ (s.cs.take k))/\Fr yH (zH b) w wr) (λ_ i _=>n - (intOf i).toNat)
 case atStart=>exact⟨0,_,rfl,zQ _,rfl,by simpa[qZ]using OI.o,EF.o⟩
 case round =>
  obtain⟨k,v,rfl,hk,rfl,hr,hf⟩:=hrel;by_cases uo:k<n
  .obtain⟨c,hc⟩:∃c,s.cs[k]? = some c:=⟨_,zk (by rw[HN.o.1];exact uo)⟩;obtain⟨C,rfl,hcc⟩:=HC.o k c hc;have hcw:=hf.cell hcc id;have a:qZ (s.cs.take (k+1))=qZ (s.cs.take k)++(vy c.length++c):=Ir _ hc;have Q:(qZ (s.cs.take (k+1))).length<=1000000000:=zj (mS _ s.cs (k+1)) HL.o.2.1;rw[a,zy,zy]at Q;obtain⟨D,T⟩:=zr (qJ++vy n++qZ (s.cs.take k));have hDl:D.length=5+(qZ (s.cs.take k)).length:=(by rw[<-T];simp[qJ,vy];omega);rw[T]at hr;have hts:(⟨c.toArray⟩:ByteArray).size=c.length:=size_mk _;have O:=Z (DU v D c.length wr hr J J);have H3:=Z (zg a (zg T (zg hDl Q)));have B:=Z hf;have ht2:(vy c.length).length=2:=rfl;clear hc hcc a T hDl hr hf;have k1:(k:Int)<(n:Int):=J;go_wp2_with fail;refine O.o.mono ?_;rintro e w2 ⟨v2,rfl,z,f⟩;have G:=Z z;have oR:=Z (B.o.trans f);clear O z f hcw;go_wp2_with (at_builtin;refine QF rfl _ _ 34 9 rfl 5 i0 underlying34 underlying9 hi wL hz1 EV v2 (D++vy c.length).length (gp (D++vy c.length)) rfl G.o ⟨c.toArray⟩ rfl (by rw[hts];unfold maxLen;have:=H3.o;simp only[zy]at *;omega) (by rw[hts];have:=H3.o;simp only[zy]at *;omega) ?_);intro v3 w3 y PD _;have N:=Z (show fP w3 v3 (qJ++vy n++qZ (s.cs.take (k+1))) by
    have h1:xu5 ⟨c.toArray⟩=gp c:=rfl;obtain⟨a1,a2,-⟩:=H3.o;rw[a1,<-yk,a2,<-yk];show w3.ownsRow _ _ _ _ _ _;rw[zy,Uq,<-h1];rw[zy,ht2];exact y)
   have HF4:=Z (oR.o.trans PD);clear y PD;go_wp2;go_roundw
   case rel=>exact⟨k+1,v3,rfl,J,uN,N.o,HF4.o⟩
   case measure=>simp only[intOf];omega
  .have hk2:k=n:=(by omega);have hkn:¬(k:Int)<(n:Int):=J;have a:s.cs.take k=s.cs:=(by rw[hk2];exact yr (by rw[HN.o.1];exact Y _));rw[a]at hr;have HRB:=Z hr;have M:=Z hf;have q1:=hf.cell q1 id;have HI2:=Z (show ∀k (x:uG),s.code[k]? = some x->∃I kv tv,ia=some ⟨I,0,none⟩/\IV w I (k*5) x kv tv/\jh w I=some 87/\(∀g,zH kv g->jh w g=some 3/\g<(w:Nat))/\∀g,zH tv g->jh w g=some 3/\g<(w:Nat)from λk x hk=>by
    obtain⟨I,ic',kv,tv,e1,e2⟩:=HH.o.xm3 hk;cases e1;exact⟨I,kv,tv,rfl,e2⟩)
   obtain⟨w4,e4⟩:∃w4,w4=wr:=⟨_,rfl⟩;subst e4;clear hr hf a hk2 OI EF;go_wp2;go_loopw [6,37] (λb i wr=>∃(j:Nat) (u:Value),u=b/\j<=m/\i = .int .i64 j/\fP wr u (xQ (s.code.take j))/\Fr yH (zH u) w4 wr) (λ_ i _=>m - (intOf i).toNat)
   case atStart=>exact⟨0,_,rfl,zQ _,rfl,xx _ _ _ _,(Fr.refl _ _).tg (λk hk=>YX)⟩
   case round =>
    obtain⟨j,u,rfl,hj,rfl,hr,hf⟩:=hrel;by_cases uo:j<m
    .obtain⟨x,hx⟩:∃x,s.code[j]? = some x:=⟨_,zk (by rw[HN.o.2];exact uo)⟩;obtain⟨I,kv,tv,rfl,p,hI,P,R⟩:=HI2.o j x hx;have a:xQ (s.code.take (j+1))=xQ (s.code.take j)++xF x:=Ir _ hx;have Q:(xQ (s.code.take (j+1))).length<=1000000:=zj (mS _ s.code (j+1)) HL.o.2.2;have d:Fr yH (zH u) w wr:=M.o.tr hf (λ_ q=>q.elim);have q1w:=hf.cell q1 id;have tk:∀g t,jh w g=some t->g<(w:Nat)->jh wr g=some t:=λg t h1 h2=>(yc (d.keep g h2 id)).trans h1
     have lj:=X w _ (HF.o 0 zR);have HA:=Z (BW I (j*5) x kv tv u (xQ (s.code.take j)) wr ⟨d.cell p.c0 id,d.cell p.c1 id,d.cell p.c2 id,d.cell p.c3 id,d.cell p.c4 id,p.k.fr d (λ_ _=>id),p.t.fr d (λ_ _=>id)⟩ (HI.o x (zW hx)) hr
      (cL hr (tk I _ hI (uO hI)) zR) (λq hq=>⟨zD (P q hq).2 d.size,cL hr (tk q _ (P q hq).1 (P q hq).2) zR⟩) (λq hq=>⟨zD (R q hq).2 d.size,cL hr (tk q _ (R q hq).1 (R q hq).2) zR⟩)
      (HF.o.fr d (λ_ q=>q.elim) (dQ _)) (λq=>(hf.fp _ q).elim (λe=>e) (λr=>by have:=M.o.size;dsimp only at lj;omega)) (by rw[<-a];omega))
     have H4:=Z (zg a hf);have k1:(j:Int)<(m:Int):=J;clear hx p hI P R a Q d hr hf tk lj;go_wp2_with fail;refine HA.o.mono ?_;rintro e w5 ⟨u2,rfl,z,f⟩;have G:=Z (show fP w5 u2 (xQ (s.code.take (j+1)))by rw[H4.o.1];exact z);have B:=Z (H4.o.2.trans f);clear z f HA;go_wp2;go_roundw
     case rel=>exact⟨j+1,u2,rfl,J,uN,G.o,B.o⟩
     case measure=>simp only[intOf];omega
    .have hj2:j=m:=(by omega);have hjn:¬(j:Int)<(m:Int):=J;have a:s.code.take j=s.code:=(by rw[hj2];exact yr (by rw[HN.o.2];exact Y _));rw[a]at hr;have hrb:=hf.own HRB.o (λ_ _=>id);obtain⟨D,T⟩:=zr (qJ++vy n++qZ s.cs);rw[T]at hrb;have hb:jZ s=D++vy (xQ s.code).length++xQ s.code:=(by unfold jZ;rw[HN.o.1,T]);have lV:D.length+(2+(xQ s.code).length)<=1000000000:=by
      have:=HL.o.1;rw[hb]at this;simp only[zy]at this;rw[show(vy (xQ s.code).length).length=2 from rfl]at this;omega
     obtain⟨E,hE⟩:=zr (xQ s.code);have hE0:0<E.length:=by
      rw[<-hE];cases hc:s.code with
      |nil=>exact absurd hc HNE.o
      |cons x l=>simp[xQ,xF]
     rw[hE]at hr hb lV;obtain⟨g,cap,rfl,-,hgl,hgc⟩:=xf hr hE0;have O:=Z (DU v D E.length wr hrb J J);have hge:jh wr g=some 5:=xA hr rfl;have HG:=Z (zg hr hgc);have HB:=Z (zg hb lV);have F:=Z (M.o.tr hf (λ_ q=>q.elim));have HVG:=Z (show ¬zH v g from λq=>by
      have h1:=uj HRB.o q;have h2:=hf.fp g rfl;exact h2.elim (λx=>x.elim) (λx=>absurd h1 J))
     have HV:=Z (show Fr yH (zH v) w wr from⟨F.o.os,F.o.tape,F.o.output,F.o.size,F.o.keep,M.o.fp⟩);obtain⟨L,hL⟩:=zr E.length;rw[hL]at O;have V:=Z hL;rw[hL]at hE0 lV|-;clear hr hf a hj2 hrb T hb hE hgc hL hge;go_wp2_with fail;refine O.o.mono ?_;rintro e w6 ⟨v2,rfl,z,f⟩;have Pd:=f.own HG.o.1 (λx hx=>by cases hx;exact HVG.o);have U:∀j u,(gp E)[j]? = some u->w6.cell? ((⟨g,0,none⟩:yM).add j)=some u:=by
      intro j u hu;rw[vS];have lY:j<E.length:=(by simpa[gp] using(zF.1 hu).1);exact f.cell ((HG.o.2 j J).trans hu) HVG.o
     have HNW:=Z U;have G:=Z z;have B:=Z (HV.o.trans f);clear z f O Pd U;go_wp2_with (at_builtin;refine zy0 Uu rfl _ _ rfl 0 v2 (D.length+2) (gp (D++vy L)) rfl (by have:=G.o;dsimp only[fP]at this;rw[zy]at this;exact this) ⟨g,0,none⟩ L cap (gp E) rfl (by simp[gp,V.o]) HNW.o (by simp[gp,Value.oneCell']) J (zQ _) ?_);intro v3 w7 y hgb K;have N:=Z (show fP w7 v3 (jZ s) by
      rw[HB.o.1,V.o];dsimp only[fP];rw[zy,zy,Uq,V.o];exact y)
     have oR:=Z (B.o.trans (Fr.app hgb K));obtain⟨a3,c3,e3,dD⟩:=N.o.bys;subst e3;have HS:=Z (NH (cap:=c3) dD rfl (by have:=HL.o.1;omega));obtain⟨S,hS⟩:=zr (Xl (jZ s));have hS1:S<4294967296:=hS▸JC _;rw[hS]at HS;have HFO:=Z (R9 _ (jZ s) S w7 N.o hS1 (by have:=HL.o.1;omega));have HPB:=Z (show qG s=jZ s++j7 S by unfold qG;rw[hS]);clear y hgb K dD hS HNW;go_wp2_with fail;refine HS.o.mono ?_;rintro e w8 ⟨rfl,rfl⟩;go_wp2_with fail;refine HFO.o.mono ?_;rintro e w9 ⟨v4,rfl,El,GO⟩;have HR4:=Z (show fP w9 v4 (qG s)by rw[HPB.o];exact El);have HF4:=Z (oR.o.trans GO);clear El GO HFO HS;go_wp2;go_ret;exact⟨v4,rfl,HR4.o,HF4.o⟩
end
def bO:Nat->List Wd->Wd->Option (List Wd×Wd)
 | 0,cs,l=>some (cs,l)
 |m+1,cs,l=>match uY 2 l with
  |none=>none
  |some (n,l1)=>if n<=1000/\n<=l1.length then bO m (cs++[l1.take n]) (l1.drop n)else none
def ft(full:Nat):Nat->Wd->Option (List uG)
 |_,[]=>some []
 | 0,_::_=>none
 |n+1,c::l=>match YA full (c::l) with
  |none=>none
  |some (i,l')=>(ft full n l').map (i :: ·)
def CQ:∀(cs a:List Wd) (l:Wd),(∀c∈cs,c.length<=1000)->bO cs.length a (qZ cs++l)=some (a++cs,l)
 |[],a,l,_=>by simp[bO,qZ]
 |c::cs,a,l,h=>by
  have hc:=h c (.head _);have b:=CQ cs (a++[c]) l (λx hx=>h x (.tail _ hx));have e:qZ (c::cs)++l=vy c.length++(c++(qZ cs++l)):=by simp[qZ]
  rw[e];show bO (cs.length+1) _ _=_;unfold bO;rw[fe _ _ J];simp only;rw[yV ⟨J,by rw[zy];omega⟩,oZ,oY,b];simp
def Gt:Nat->List uG->Prop
 |_,[]=>True
 |p,i::r=>i.pos=p/\Gt (p+(xF i).length) r
def CK:∀(n full p:Nat) (code:List uG),(∀i∈code,cH i)->Gt p code->p+(xQ code).length=full->(xQ code).length<=n->ft full n (xQ code)=some code
 |n,full,p,[],_,_,_,_=>by cases n<;>rfl
 | 0,full,p,i::r,_,_,_,h=>by
  simp[xQ,xF]at h
 |n+1,full,p,i::r,hi,hp,hf,hn=>by
  have e:xQ (i::r)=xF i++xQ r:=by simp[xQ]
  have f:0<(xF i).length:=by simp[xF]
  rw[e,zy]at hf hn;have d:i.pos=p:=hp.1;have b:p+(xF i).length+(xQ r).length=full:=J;have g:=CK n full (p+(xF i).length) r (λx hx=>hi x (.tail _ hx)) hp.2 b J;have a:=zl7 full i (xQ r) (hi i (.head _)) (by rw[zy,d];exact(Nat.sub_eq_of_eq_add J).symm);rw[e];cases hc:xF i++xQ r with
  |nil=>have:=congrArg xD hc;rw[zy,yF]at this;omega
  |cons c l =>
   rw[hc]at a;unfold ft;rw[a];simp only;rw[g];rfl
def Is:∀(n full:Nat) (l:Wd) (code:List uG),l.length<=65535->l.length<=full->ft full n l=some code->l=xQ code/\(∀i∈code,cH i)/\Gt (full - l.length) code
 |n,full,[],code,_,_,h=>by
  have:code=[]:=by cases n<;>(cases h;rfl)
  subst this;exact⟨rfl,(λi hi=>by cases hi),trivial⟩
 | 0,full,c::l,code,_,_,h=>xc
 |n+1,full,c::l,code,b,hf,h=>by
  unfold ft at h;cases h1:YA full (c::l) with
  |none=>rw[h1]at h;cases h
  |some p =>
   obtain⟨i,l'⟩:=p;rw[h1]at h;simp only at h;obtain⟨b1,b2,b3⟩:=S9 b h1;have a:(c::l).length=(xF i).length+l'.length:=(by rw[b1,zy]);cases h2:ft full n l' with
   |none=>rw[h2]at h;cases h
   |some r =>
    rw[h2]at h;cases h;obtain⟨a1,a2,a3⟩:=Is n full l' r J J h2;refine⟨?_,λx hx=>?_,b3,?_⟩
    .rw[b1];show _=xF i++xQ r;rw[<-a1]
    .rcases yX.1 hx with rfl|hx
     .exact b2
     .exact a2 x hx
    .rw[show full - (c::l).length+(xF i).length=full - l'.length by omega];exact a3
def Hk(b:Wd):Wd:=(b.drop 3).take (b.length - 7)
def Sz(b:Wd):Option (List Wd×List uG) :=
 if NC b=true then none else
 match uY 2 (Hk b) with
 |none=>none
 |some (m,l1)=>match bO m [] l1 with
  |none=>none
  |some (cs,l2)=>match uY 2 l2 with
   |none=>none
   |some (full,l3)=>if full=l3.length/\full≠0 then (ft full l3.length l3).map (λc=>(cs,c))else none
def zly(s:MkS):Hk (qG s)=vy s.cs.length++(qZ s.cs++(vy (xQ s.code).length++xQ s.code)):=by
 have e:qG s=qJ++((vy s.cs.length++(qZ s.cs++(vy (xQ s.code).length++xQ s.code)))++j7 (Xl (jZ s))):=by simp[qG,jZ]
 obtain⟨m,hm⟩:=zr (vy s.cs.length++(qZ s.cs++(vy (xQ s.code).length++xQ s.code)));rw[hm]at e|-;unfold Hk;rw[e,yff (i:=3) (l₁:=qJ) rfl];refine yfg ?_;simp[qJ,j7]
def sZ(s:MkS)(h:(qG s).length<=65535):NC (qG s)=false:=by
 have d:(qG s).length - 4=(jZ s).length:=by simp[qG,j7]
 unfold NC;rw[d];have a:qJ.isPrefixOf (qG s)=true:=by
  rw[gL];exact⟨(vy s.cs.length++(qZ s.cs++(vy (xQ s.code).length++xQ s.code)))++j7 (Xl (jZ s)),by simp[qG,jZ]⟩
 have b:¬(qG s).length<7:=by
  simp[qG,jZ,qJ,j7];omega
 rw[a];have c:fF ((qG s).drop (jZ s).length)=Xl ((qG s).take (jZ s).length):=by
  unfold qG;rw[oY,oZ,Ip _ (JC _)]
 simp only[c,Bool.not_true,Bool.false_or,zr1,decide_eq_false_iff_not];exact⟨⟨J,b⟩,λq=>q rfl⟩
structure zlx(s:MkS):Prop where
 c:∀c∈s.cs,c.length<=1000
 i:∀i∈s.code,cH i
 p:Gt 0 s.code
 ne:s.code≠[]
 len:(qG s).length<=65535
def cM(s:MkS)(h:zlx s):Sz (qG s)=some (s.cs,s.code):=by
 have d:=h.len;have b:s.cs.length<=(qZ s.cs).length:=by
  have:∀cs:List Wd,cs.length<=(qZ cs).length:=by
   intro cs;induction cs with
   |nil=>simp
   |cons c cs f =>
    have e:qZ (c::cs)=vy c.length++(c++qZ cs):=(by simp[qZ]);rw[e];simp only[zy,zY,vy,yF];omega
  exact this _
 have hb:(qG s).length=11+(qZ s.cs).length+(xQ s.code).length:=by
  simp[qG,jZ,qJ,j7,vy];omega
 have a:(xQ s.code).length≠0:=by
  cases hc:s.code with
  |nil=>exact absurd hc h.ne
  |cons i r=>simp[xQ,xF]
 unfold Sz;rw[sZ s d,zly];simp only[Vx,if_false];rw[fe _ _ J];simp only;rw[CQ _ _ _ h.c];simp only;rw[fe _ _ J];simp only;rw[yV (by first|exact⟨rfl,a⟩|exact⟨trivial,a⟩),CK _ _ 0 _ h.i h.p J (Y _)];rfl
def UF:∀(f:Wd) (v:Nat) (k t t':List Nat),(ua f v k t).length=(ua f v k t').length
 |[],_,_,_,_=>rfl
 |c::f,v,k,t,t'=>by
  unfold ua;by_cases h1:c=107\/c=110
  .rw[yV h1,yV h1,zy,zy,UF f v k.tail t t']
  .rw[yz h1,yz h1];by_cases h2:c=118
   .rw[yV h2,yV h2,zy,zy,UF f v k t t']
   .rw[yz h2,yz h2];by_cases a:c=116
    .rw[yV a,yV a,zy,zy,UF f v k t.tail t'.tail];rfl
    .rw[yz a,yz a];simp only[zy,<-JH];rw[UF f v [] (t.drop (k.length+1)) (t'.drop (k.length+1))]
def zlv(i:uG)(t:List Nat):(xF { i with tg:=t }).length=(xF i).length:=by
 simp only[xF,zY];rw[UF]
def Sy:∀(p:Nat) (a b:List uG),Gt p (a++b) ↔ Gt p a/\Gt (p+(xQ a).length) b
 |p,[],b=>by simp[Gt,xQ]
 |p,i::a,b=>by
  have e:(xQ (i::a)).length=(xF i).length+(xQ a).length:=by simp[xQ]
  show(i.pos=p/\Gt (p+(xF i).length) (a++b)) ↔ (i.pos=p/\Gt (p+(xF i).length) a)/\_;rw[Sy _ a b,e,kh,and_assoc]
def Sv:∀(n p j q:Nat) (l:List uG),Gt p l->Gt p (l.modify n λx=>{ x with tg:=x.tg.set j q })/\(xQ (l.modify n λx=>{ x with tg:=x.tg.set j q })).length=(xQ l).length
 |n,p,j,q,[],h=>by cases n<;>exact⟨h,rfl⟩
 | 0,p,j,q,i::l,h=>by
  have e:(i::l).modify 0 (λx=>{ x with tg:=x.tg.set j q })={ i with tg:=i.tg.set j q }::l:=rfl;rw[e];have c:=zlv i (i.tg.set j q);refine⟨⟨h.1,by rw[c];exact h.2⟩,?_⟩;simp only[xQ,zh,zy,c]
 |n+1,p,j,q,i::l,h=>by
  have e:(i::l).modify (n+1) (λx=>{ x with tg:=x.tg.set j q })=i::l.modify n (λx=>{ x with tg:=x.tg.set j q }):=rfl;rw[e];obtain⟨a,b⟩:=Sv n (p+(xF i).length) j q l h.2;refine⟨⟨h.1,a⟩,?_⟩;have d:((l.modify n λx=>{ x with tg:=x.tg.set j q }).flatMap xF).length=(l.flatMap xF).length:=b;simp only[xQ,zh,zy,d]
def xm5(s:MkS):Prop:=Gt 0 s.code/\s.pos=(xQ s.code).length
def zlu:qi xm5:=by
 refine⟨λs op v k tg h=>?_,λs t h=>?_,λs i j h=>?_⟩
 .refine⟨?_,?_⟩
  .rw[yp,Sy];exact⟨h.1,h.2.trans (uE _).symm,trivial⟩
  .rw[yp];show s.pos+_=_;rw[h.2];simp[xQ]
 .obtain⟨-,h1,h2⟩:=xM s t;unfold xm5;rw[h1,h2];exact h
 .obtain⟨a,b⟩:=Sv i 0 j s.pos s.code h.1;exact⟨a,h.2.trans b.symm⟩
variable{f:Fo}{s:MkS}{op:Nat}
structure gz(P:MkS->Prop):Prop where
 put:∀s op v k tg,(v=0\/op=4\/op=7)->P s->P (s.put op v k tg)
 const:∀s t,P s->P (s.const t)
 xH:∀s i j,P s->P (s.xH i j)
section
variable {P:MkS->Prop} (I:gz P)
include I
def gz.one(op:Nat)(t:Wd)(h:P s):P (s.one op t):=I.put _ _ _ _ _ (.inl rfl) (I.const _ _ h)
def gz.vN:∀(f:Fo) (s:MkS) (acc:List Nat),P s->P (MkS.vN f s acc).1
 |.xR k _ _ r,s,acc,h=>by
  rw[MkS.vN];split
  .exact gz.vN r s acc h
  .exact gz.vN r _ _ (I.const _ _ h)
 |.nil,_,_,h=>h
 |.text _ _,_,_,h=>h
 |.hash _,_,_,h=>h
 |.put _ _ _,_,_,h=>h
 |.num _ _ _,_,_,h=>h
 |.br _ _ _ _ _ _ _,_,_,h=>h
def gz.vq:∀(f:Fo) (s:MkS) (acc:List (Wd×Nat)),P s->P (MkS.vq f s acc).1
 |.xR k _ _ r,s,acc,h=>by
  rw[MkS.vq];split
  .exact gz.vq r _ _ (I.put _ _ _ _ _ Hr h)
  .exact gz.vq r s acc h
 |.nil,_,_,h=>h
 |.text _ _,_,_,h=>h
 |.hash _,_,_,h=>h
 |.put _ _ _,_,_,h=>h
 |.num _ _ _,_,_,h=>h
 |.br _ _ _ _ _ _ _,_,_,h=>h
def gz.plu(n o:Wd)(bs:Fo)(s0:MkS)(k:Wd)(h:P s):P (MkS.kZ n o bs s0 k s):=zxy
def gz.go:∀(f:Fo) (a:Wd->MkS->MkS) (s:MkS) (ls:List Nat),(∀k s,P s->P (a k s))->P s->P (MkS.ur f a s ls).1
 |.nil,_,_,_,_,h=>h
 |.text t r,a,s,ls,hb,h=>gz.go r a _ ls hb (I.one _ _ h)
 |.hash r,a,s,ls,hb,h=>gz.go r a _ ls hb (I.put _ _ _ _ _ Hr h)
 |.put n _ r,a,s,ls,hb,h=>gz.go r a _ ls hb (I.one _ _ h)
 |.num n _ r,a,s,ls,hb,h=>gz.go r a _ ls hb (I.one _ _ h)
 |.br n _ f o _ bs r,a,s,ls,hb,h=>by
  rw[MkS.ur];split
  .exact gz.go r a _ ls hb (MkS.qw P _ (λs i h=>I.xH _ _ _ h) _ _ (gz.go bs _ _ _ (λk x hx=>I.xH _ _ _ hx) (I.put _ _ _ _ _ Hr (I.vN bs _ _ (I.const _ _ h)))))
  .exact gz.go r a _ ls hb (I.put _ _ _ _ _ Hr (MkS.qw P _ (λs i h=>I.xH _ _ _ h) _ _ (gz.go bs _ _ _ (λk x hx=>I.plu n o bs s k hx) (I.put _ _ _ _ _ (by first|exact .inl rfl|exact .inr (.inl rfl)|exact .inr (.inr rfl)) (I.vq bs _ _ (I.put _ _ _ _ _ (by first|exact .inl rfl|exact .inr (.inl rfl)|exact .inr (.inr rfl)) (I.const _ _ h)))))))
 |.xR k _ m r,a,s,ls,hb,h=>gz.go r a _ _ hb (I.put _ _ _ _ _ Hr (gz.go m _ _ _ (λ_ _ h=>h) (hb k s h)))
def gz.all(f:Fo)(h:P MkS.start):P (MkS.all f):=I.put _ _ _ _ _ Hr (I.go f _ _ _ (λ_ _ h=>h) h)
end
def NoV(s:MkS):Prop:=∀x∈s.code,x.v=0\/x.op=4\/x.op=7
def yqb:gz NoV:=by
 refine⟨λs op v k tg a h x hx=>?_,λs t h=>?_,λs i j h x hx=>?_⟩
 .rw[yp,zS,zJ]at hx;rcases hx with hx|rfl
  .exact h x hx
  .exact a
 .unfold NoV;rw[(xM s t).2.1];exact h
 .exact yb4
def xz9{a b:Nat}(h:sy op a b=true):Hq (uW op) a b=true:=by
 unfold sy at h;split at h<;>simp only[zx,beq_iff_eq,vJ,reduceCtorEq]at h
 all_goals obtain⟨h1,rfl⟩:=h
 all_goals first|(subst h1;rfl)|skip
 simp only[uW,Hq];simp;omega
def zlq(hc:f.YK)(hs:f.sh)(hw:f.cw<=60000)(d:∀t∈(MkS.all f).cs,t.length<=1000)(c:(qG (MkS.all f)).length<=65535):zlx (MkS.all f):=by
 have g:=NJ f;simp only[MkS.sz]at g;have a:=(Gr hc hs).1;have hp:=zlu.all f ⟨trivial,rfl⟩;have hv:=yqb.all f (λx hx=>Qe);refine⟨d,λx hx=>?_,hp.1,?_,c⟩
 .have h:=a x hx;obtain⟨-,-,b3,i⟩:=mM h;refine⟨b3,by have:=h.2.2.1;omega,λj b=>by have:=h.1 j b;omega,λy hy=>by have:=h.2.2.2.1 y hy;omega,?_,xz9 h.2.2.2.2,λhn=>?_⟩
  .have:=h.2.1;omega
  .rcases hv x hx with e|e|e
   .exact e
   .rw[e]at hn;exact absurd zR hn
   .rw[e]at hn;exact absurd zR hn
 .rw[MkS.all,yp];simp
def X7(cs:List Wd)(i:uG):Bool :=
 i.k.all (λk=>decide (k<cs.length)) && (match i.k with |[]=>true|k::_=>decide ((uW i.op).head?≠some 110) ||kV (cs.getD k [])) && decide (i.v<=999999999)
def TN(k n d:Nat):List (Option Nat)->(Nat->Option Nat)->Option (Nat->Option Nat)
 |[],D=>some D
 |none::_,_=>none
 |some t::r,D=>if t<=k\/t=n\/(D t).any (· ≠ d)=true then none else TN k n d r (λx=>if t=x then some d else D x)
def cN(op:Nat):Bool:=op≠0 && op≠8 && op≠9 && op≠10 && op≠11
def jY(op d:Nat):Option Nat :=
 if op=0 then (if 0<d then none else some d)
 else if op=4 then (if 6<d+1 then none else some (d+1))
 else if 5<=op/\op<=9 then (if d=0\/6<d then none else some (if op=5 then d - 1 else d))
 else if 6<d then none else some d
def UD(cs:List Wd)(code:List uG):Nat->List uG->(Nat->Option Nat)->Bool
 |_,[],_=>true
 |k,i::r,D=>match D k with
  |none=>false
  |some d=>X7 cs i && match jY i.op d with
   |none=>false
   |some d2=>match TN k code.length d2 ((if cN i.op then [some (k+1)]else [])++i.tg.map (qo code code.length)) D with
    |none=>false
    |some D2=>UD cs code (k+1) r D2
def fg(cs:List Wd)(code:List uG):Bool:=UD cs code 0 code (λx=>if 0=x then some 0 else none)
def qf(b:Wd):Option (List Wd×List uG):=match Sz b with
 |none=>none
 |some (cs,code)=>if fg cs code=true then some (cs,code)else none
def cO(s:MkS)(h:zlx s)(hv:fg s.cs s.code=true):qf (qG s)=some (s.cs,s.code):=by
 unfold qf;rw[cM s h];simp only;rw[yV hv]
variable{i:Nat}{σ:Type}
section
variable {τ:Type} (E:jd τ)
def sY(s:MkS)(g0:τ):Except (Nat×τ) (Wd×τ) :=
 match VQ (V7 E s) s.code.length 0 ⟨[],[],g0⟩ with
 |some (.ok r) => .ok (r.out,r.gs)
 |some (.error (n,r)) => .error (n,r.gs)
 |none => .error (0,g0)
def yc5(P:Nat->Prop)(d:Nat):aI (ZU τ)->Prop
 |.go k r=>P k/\r.stk.length=d
 |.bad=>False
 |_=>True
variable {E} {s:MkS} {x:uG} {k d2:Nat} {r:ZU τ} {P:Nat->Prop}
def CJ{t:ZU τ}(a:∀u∈x.tg.map (qo s.code s.code.length),∃j,u=some j/\P j)(hi:i<x.tg.length)(c:t.stk.length=d2):yc5 P d2 (TL s x.tg[i]? t):=by
 rw[zk hi];obtain⟨j,e,b⟩:=a _ (uQ.2 ⟨x.tg[i],yf _,rfl⟩);simp only[TL,e];exact⟨b,c⟩
def yk0(hs:∀b d,E.sort b d<6)(hf:X7 s.cs x=true)(hx:sy x.op x.k.length x.tg.length=true)(hd:jY x.op r.stk.length=some d2)
  (c:cN x.op=true->P (k+1)) (g:∀u∈x.tg.map (qo s.code s.code.length),∃j,u=some j/\P j):yc5 P d2 (dC E s x k r):=by
 simp only[X7,zx]at hf;have l:=zi.1 hf.1.1;have a:0<x.k.length->∃t,Ys s x=some t:=λh=>by
  have h1:=of_decide_eq_true (l x.k[0] (yf _));exact⟨s.cs[x.k[0]],by rw[Ys,zk h,yzq,zk h1]⟩
 have f:¬r.stk=[]->∃t,r.stk.getLast? = some t:=λh=>by
  cases hc:r.stk.getLast? with
  |none=>exact absurd (List.getLast?_eq_none_iff.1 hc) h
  |some t=>exact⟨t,rfl⟩
 have i:x.op=0\/x.op=1\/x.op=2\/x.op=3\/x.op=4\/x.op=5\/x.op=6\/x.op=7\/x.op=8\/x.op=9\/x.op=10\/x.op=11\/12<=x.op:=J;unfold dC;rcases i with h|h|h|h|h|h|h|h|h|h|h|h|h
 case inr.inr.inr.inr.inr.inr.inr.inr.inr.inr.inr.inr =>
  unfold sy at hx;split at hx<;>first|omega|cases hx
 all_goals rw[h]at hx hd c|-
 all_goals simp only[sy,zx,beq_iff_eq,vJ]at hx
 all_goals simp[jY]at hd
 all_goals simp only
 .exact trivial
 .obtain⟨t,e⟩:=a J;rw[e];exact⟨c rfl,hd.2⟩
 .obtain⟨t,e⟩:=a J;rw[e];simp only;generalize VK E t r.gs=z;rcases z with _|⟨⟨_,_⟩,_⟩
  .exact trivial
  .exact⟨c rfl,hd.2⟩
 .obtain⟨t,e⟩:=a J;rw[e];simp only;generalize Qk E t r.gs=z;rcases z with _|⟨_,_⟩
  .exact trivial
  .exact⟨c rfl,hd.2⟩
 .obtain⟨t,e⟩:=a J;rw[e];simp only;generalize Qk E t r.gs=z;rcases z with _|⟨_,_⟩
  .exact trivial
  .exact⟨c rfl,yJ⟩
 .obtain⟨t,e⟩:=f hd.1.1;rw[e];exact⟨c rfl,yJ⟩
 .obtain⟨t,e⟩:=f hd.1.1;rw[e];exact⟨c rfl,yJ⟩
 .obtain⟨t,e⟩:=f hd.1.1;rw[e];simp only;split
  .exact CJ g J J
  .exact⟨c rfl,J⟩
 .obtain⟨t,e⟩:=f hd.1.1;rw[e];exact CJ g (by have:=hs false t.2.2;omega) J
 .obtain⟨t,e⟩:=f hd.1.1;rw[e];exact CJ g (by have:=hs true t.2.2;omega) J
 .obtain⟨t,e⟩:=a J;rw[e];simp only;generalize TI E t r.gs=z;rcases z with _|⟨u,_⟩
  .exact trivial
  .simp only;rw[yV (zi.2 λj m=>l j (xi m))];refine CJ g ?_ hd.2;have h1:Ql s x u<=x.k.length - 1:=zg5;omega
 .exact CJ g J J
def mT{k o:Nat}:∀(T:List (Option Nat)) (D a:Nat->Option Nat),TN k n o T D=some a->(∀t∈T,∃j,t=some j/\k<j/\j≠n/\a j=some o)/\∀y e,D y=some e->a y=some e
 |[],D,a,h=>by cases h;exact⟨λ_ h=>xc,λ_ _ h=>h⟩
 |none::_,_,_,h=>xc
 |some t::T,D,a,h=>by
  rw[TN]at h;split at h
  .cases h
  .rename_i hc;have b:k<t:=(by omega);have c:t≠n:=λe=>hc (.inr (.inl e))
   have d:∀e,D t=some e->e=o:=λe he=>by
    apply yu;intro q;exact hc (.inr (.inr (by rw[he];simpa using q)))
   obtain⟨h1,h2⟩:=mT T _ _ h;have g:a t=some o:=h2 t o (yV rfl);refine⟨λu f=>?_,λy e he=>?_⟩
   .rcases yX.1 f with rfl|f
    .exact⟨t,rfl,b,c,g⟩
    .exact h1 u f
   .by_cases hy:t=y
    .subst hy;rw[d e he];exact g
    .exact h2 y e (by rw[yz hy];exact he)
def NN(code:List uG):∀(n x k:Nat),qo code n x=some k->k<n
 | 0,x,k,h=>xc
 |n+1,x,k,h=>by
  rw[qo]at h;split at h
  .cases h;omega
  .have:=NN code n x k h;omega
def It{F:Nat->σ->aI σ}{o:Except (Nat×σ) σ}:∀(f k:Nat) (t:σ),VQ F f k t=some o->VQ F (f+1) k t=some o
 | 0,_,_,h=>xc
 |f+1,k,t,h=>by
  rw[VQ]at h|-;cases a:F k t with
  |go k' t'=>rw[a]at h;exact It f k' t' h
  |fin t'=>rw[a]at h;exact h
  |err n t'=>rw[a]at h;exact h
  |bad=>rw[a]at h;exact h
def mW(hs:∀b d,E.sort b d<6)(f:∀x∈s.code,sy x.op x.k.length x.tg.length=true):∀(l:List uG) (k:Nat) (D:Nat->Option Nat),s.code.drop k=l->UD s.cs s.code k l D=true ->
  ∀(j:Nat) (r:ZU τ),k<=j->j<s.code.length->D j=some r.stk.length->∃o,VQ (V7 E s) l.length j r=some o
 |[],k,D,hd,_,j,r,q,m,_=>by
  rw[List.drop_eq_nil_iff]at hd;omega
 |i::l,k,D,hd,hv,j,r,q,m,h=>by
  have K:k<s.code.length:=J;have hc:=yY K;rw[hd]at hc;obtain⟨A,H⟩:=Zf hc;rw[UD]at hv;cases c:D k with
  |none=>rw[c]at hv;cases hv
  |some d =>
   rw[c]at hv;simp only[zx]at hv;obtain⟨hf,hv⟩:=hv;cases t:jY i.op d with
   |none=>rw[t]at hv;cases hv
   |some d2 =>
    rw[t]at hv;simp only at hv;split at hv
    .cases hv
    rename_i w L;obtain⟨t1,t2⟩:=mT _ _ _ L;have G:=mW hs f l (k+1) w H.symm hv;by_cases p:j=k
    .subst p;rw[c]at h;obtain rfl:=zL h;have a:=yk0 (E:=E) (s:=s) (x:=i) (k:=j) (r:=r) (P:=λy=>j<y/\y<s.code.length/\w y=some d2) hs hf (f i (by rw[A];exact yf _)) t
      (λv=>by
       obtain⟨y,h1,h2,I,g⟩:=t1 (some (j+1)) (List.mem_append_left _ (by rw[yV v];exact zJ.2 rfl));cases h1;exact⟨h2,J,g⟩)
      (λu C=>by
       obtain⟨y,h1,h2,I,g⟩:=t1 u (zzg _ C);refine⟨y,h1,h2,?_,g⟩;obtain⟨z,_,F⟩:=uQ.1 C;rw[h1]at F;exact NN _ _ _ _ F)
     have e:V7 E s j r=dC E s i j r:=(by simp only[V7,zk m,A]);rw[zY,VQ,e];cases B:dC E s i j r with
     |go k' r' =>
      rw[B]at a;obtain⟨⟨a1,a2,a3⟩,a4⟩:=a;exact G k' r' a1 a2 (by rw[a3,a4])
     |fin r'=>exact⟨_,rfl⟩
     |err n r'=>exact⟨_,rfl⟩
     |bad=>rw[B]at a;exact a.elim
    .obtain⟨o,hr⟩:=G j r J m (t2 j _ h);exact⟨o,It _ _ _ hr⟩
def zlk(hs:∀b d,E.sort b d<6)(a:∀x∈s.code,sy x.op x.k.length x.tg.length=true)(hv:fg s.cs s.code=true)(h0:0<s.code.length)(g0:τ):∃o,VQ (V7 E s) s.code.length 0 ⟨[],[],g0⟩=some o :=
 mW hs a s.code 0 _ rfl hv 0 ⟨[],[],g0⟩ (Y _) h0 (yV rfl)
end
def yc6{τ:Type}(G:Nat->Prop)(Inv:τ->z8->Prop)(res:Except (Nat×τ) (Wd×τ))(w:z8)(e:xU)(w':z8):Prop :=
 (match res with
  |.ok (o,g')=>e = .returned (.tuple #[zM o,.nilIface])/\Inv g' w'
  |.error (n,g')=>e = .returned (.tuple #[zM [],kX n])/\Inv g' w')/\Fr G G w w'
section
variable {τ:Type} {w:z8} {A q mb g:Nat} {G:Nat->Prop} {vC vI:Value} {rs:List (Value×Value)} {E:jd τ} {F S:τ->Nat->Prop} {Inv:τ->z8->Prop}
def sX{a:Fn}{g1 g2:Array Value}(d:Z9 w (A+2) (A+2) G q mb g s vC vI rs (.func a g1 g2) E F S Inv)(hA:(w:Nat)=A){g0:τ}(hi:Inv g0 w)(c:∀k,F g0 k->G k) :
  vw (A+2) (A+2) q g (.func a g1 g2) G F S Inv ⟨[],[],g0⟩ (rN w (q,0) (g,0) (.func a g1 g2)):=by
 have hf:Fr yH yH w (rN w (.pointer (some ⟨q,0,none⟩)) (g,0) (.func a g1 g2)):=(((Fr.refl _ _).alloc _).alloc _).alloc _;refine⟨.slice none 0 0,.slice none 0 0,[],?_,?_,rfl,d.get.fr hi hf (λ_ q=>q.elim),(by intro h;cases h),λk b=>(by cases b),λk b=>⟨.inl ?_,(λh=>xc),λh=>xc⟩,λk b=>b.elim (λh=>xc) (λh=>by cases h),c⟩
 .have h:=yuv ((w.alloc (.cells #[zM []] 9)).alloc (.cells #[.nilIface] 49)) (zU q 0) (zU g 0) (.func a g1 g2);rw[show((w.alloc (.cells #[zM []] 9)).alloc (.cells #[.nilIface] 49)).heap.size=A+2 by simp[hA]]at h;exact h
 .exact xx _ _ _ _
 .have:=d.get.Nb g0 w k hi b;omega
def zlj(hv:fg s.cs s.code=true)(o:∀x∈s.code,sy x.op x.k.length x.tg.length=true)(h0:0<s.code.length){b:Fn}{g1 g2:Array Value}(c:Z9 w (A+2) (A+2) G q mb g s vC vI rs (.func b g1 g2) E F S Inv)(u:zik s)(hc:s.code.length<=100000)(hA:(w:Nat)=A)(j:¬G A)(l:¬G (A+1)){g0:τ}(hi:Inv g0 w)(i:∀k,F g0 k->G k) :
  zC Tryz.prog 34 #[(q,0),(g,0),.func b g1 g2] w (yc6 G Inv (sY E s g0) w):=by
 have key:∀(fuel:Nat) (r:Except (Nat×ZU τ) (ZU τ)),fuel<=s.code.length->VQ (V7 E s) fuel 0 ⟨[],[],g0⟩=some r ->
   zC Tryz.prog 34 #[(q,0),(g,0),.func b g1 g2] w (xl4 G (λr=>r.out) (λr W=>Inv r.gs W) r w):=by
  intro fuel r z hr;refine yug G (VmI w (A+2) (A+2) q g (.func b g1 g2) G F S Inv) (VmJ w (A+2) (A+2) q g (.func b g1 g2) G F S Inv) (NU Inv S (A+2)) (λr W=>Inv r.gs W) (λr=>r.out) (V7 E s) fuel ⟨[],[],g0⟩ r w (some ⟨q,0,none⟩) (some ⟨g,0,none⟩) b g1 g2 (by rw[hA];exact j) (by rw[hA];exact l) (λk a=>c.gA k (by rw[hA]at a;exact a)) ?_ ?_ ?_ ?_ hr
  .exact⟨sX c hA hi i,(((Fr.refl _ _).alloc _).alloc _).alloc _,by show 0+fuel*5000<=_;omega,by show 0+fuel<=_;omega⟩
  .rintro t W ⟨⟨v,st,cs,p,C,y,d,B,D,hS,f,hF⟩,H⟩;rw[hA];refine⟨v,_,_,_,_,p,λk a=>f k (.inl a),by show t.out.length<=_;omega,λW' hf=>c.get.fr d hf λk a hs=>?_⟩;have h1:=hS k hs;rcases a with rfl|rfl|a
   .have:=h1.1;omega
   .have:=h1.1;omega
   .exact h1.2.1 a
  .rintro t W W' ⟨d,hS⟩ hf;rw[hA]at hf;refine c.get.fr d hf λk a hs=>?_
   have h1:=hS k hs;rcases a with rfl|rfl<;>omega
  .intro m k t W d hb;rw[hA];exact yq6 c u d hb
 obtain⟨r,hr⟩:=zlk c.srt o hv h0 g0;refine(key _ r (Y _) hr).mono λe w' h=>?_
 unfold sY;rw[hr];rcases r with⟨n,r⟩|r<;>exact h
end
variable{mb:Nat}{vC vI:Value}
def all_nil:MkS.all .nil=⟨[],[⟨0,0,0,[],[]⟩],1⟩:=by
 simp[MkS.all,MkS.Z7,MkS.ur,MkS.start,MkS.put,xF,uW,ua]
def ug.below{rs:List (Value×Value)}(h:ug q s vC vI rs mb w)(hb:zP w w'):ug q s vC vI rs mb w':=by
 have hf:Fr yH yH w w':=Fr.of hb;exact⟨hf.cell h.q0 id,hf.cell h.q1 id,hf.cell h.q2 id,hf.own h.cC (λ_ _ q=>q),hf.own h.cI (λ_ _ q=>q),h.rows.fr hf (λ_ q=>q.elim),h.mp.keep (hb.block mb h.mp.lt)⟩
variable{E:jd Unit}{A:Nat}{w0:z8}
structure xzz{τ:Type}(w:z8)(g:Nat)(E:jd τ):Prop where
 wr:∀W nv n,Fr yH yH w W->fS (λ_=>False) W nv n->zC Tryz.prog 36 #[(g,0),nv] W λe w'=>e = .returned (zM (E.wr n))/\zP W w'
 wrl:∀n:uL,Ny n.2->(E.wr n).length<=5000
 set:∃cv ov,(∀W,Fr yH yH w W->zu W g 0 cv/\zu W g 1 ov) /\
  (∀W nv d,Fr yH yH w W->uh W nv d->zC Tryz.prog 38 #[cv,nv] W λe w'=>e = .returned (.int .i64 (E.sort false d))/\zP W w') /\
  ∀W nv d,Fr yH yH w W->uh W nv d->zC Tryz.prog 38 #[ov,nv] W λe w'=>e = .returned (.int .i64 (E.sort true d))/\zP W w'
 srt:∀b d,E.sort b d<6
structure JI{τ:Type}(P q g mb:Nat)(f:Fo)(vC vI:Value)(rs:List (Value×Value))(E:jd τ)(w:z8):Prop where
 p0:zu w P 0 (q,0)
 p1:zu w P 1 (g,0)
 prog:ug q (MkS.all f) vC vI rs mb w
 loc:xzz w g E
 msg:f.yT=true
 ver:fg (MkS.all f).cs (MkS.all f).code=true
 YK:f.YK
 sh:f.sh
 cw:f.cw<=90000
def yk1(f:Fo):0<(MkS.all f).code.length:=by
 rw[MkS.all,yp];simp
section
variable {P q g mb:Nat} {f:Fo} {vC vI:Value} {rs:List (Value×Value)} {w:z8}
def Ky{w:z8}(h:Fr yH yH w w'):zP w w':=⟨h.os,h.tape,h.output,h.size,λk a=>h.keep k a id⟩
def JI.env(h:JI P q g mb f vC vI rs E w)(hf:Fr yH yH w w0)(hA:(w0:Nat)=A){b z:Nat}{fm:Wd->Option (Wd×Bool)} :
  Z9 w0 (A+2) (A+2) (λk=>A+2<=k) q mb g (MkS.all f) vC vI rs (zib c) (sx E fm) (λ_=>yH) (λ_ k=>k=b\/k=c) (yqz b c n z fm):=by
 obtain⟨a1,a2,a3,a4,j⟩:=Rh h.YK h.sh h.cw;have e:∀W,Fr (λk=>A+2<=k) (λk=>A+2<=k) w0 W->Fr yH yH w W:=λW a=>hf.over a (λq r => .inr (by have:=hf.size;omega))
 obtain⟨cv,ov,m,o,p⟩:=h.loc.set;exact⟨λW a=>h.prog.below (Ky (e W a)),λW i n a=>h.loc.wr W i n (e W a),h.loc.wrl,⟨cv,ov,λW a=>m W (e W a),λW i d a=>o W i d (e W a),λW i d a=>p W i d (e W a)⟩,h.loc.srt,S0 E b c n z fm,J,a3,a4,j,λk l=>l,Y _⟩
def yk2{τ:Type}(res:Except (Nat×τ) (Wd×τ))(a b:Value):Prop:=match res with |.ok (o,_)=>a=zM o/\b = .nilIface |.error (n,_)=>a=zM []/\b=kX n
def cP{τ:Type}{G:Nat->Prop}{Inv:τ->z8->Prop}{c:Except (Nat×τ) (Wd×τ)}{w:z8}{e:xU}(h:yc6 G Inv c w e w'):∃a b,e = .returned (.tuple #[a,b])/\yk2 c a b/\Fr G G w w':=by
 obtain⟨h1,h2⟩:=h;match c,h1 with
 |.ok (o,g'),h1=>exact⟨_,_,h1.1,⟨rfl,rfl⟩,h2⟩
 |.error (n,g'),h1=>exact⟨_,_,h1.1,⟨rfl,rfl⟩,h2⟩
def vez(E:jd Unit)(f:Fo)(z:Nat)(fm:Wd->Option (Wd×Bool))(w:z8)(e:xU)(w':z8):Prop :=
 ∃a b,e = .returned (.tuple #[a,b])/\(Xi fm z/\yk2 (sY (sx E fm) (MkS.all f) ()) a b\/¬Xi fm z/\a=zM []/\b=kX 11)/\Fr yH yH w w'
def Su(h:JI P q g mb f vC vI rs E w){b z:Nat}{fm:Wd->Option (Wd×Bool)}(hm:fk w b n z fm)(K:∀m x,fm m=some x->m.length<=5000000/\x.1.length<=1000000)(L:z<=1000000000) :
  zC Tryz.prog 20 #[(P,0),.map (some b)] w (vez E f z fm w):=by
 have l:=Z h;have y:=Z (zl2 hm K L);clear h hm K L;go_enter func20,ntmps20;go_wp2_with fail;refine y.o.mono ?_;rintro e w1 ⟨⟨u,c,rfl,H,hc⟩|⟨t,rfl⟩,d⟩
 .have r:=Z d;have C:=Z u;have c0:=d.cell l.o.p0 id;have c1:=d.cell l.o.p1 id;have G:=l.o.env (w0:=w1.drew) d.drew (A:=(w1:Nat)) rfl (b:=b) (c:=c) (n:=n) (z:=z) (fm:=fm);have j:=Rh l.o.YK l.o.sh l.o.cw;have F:=Z (zlj l.o.ver (λx hx=>((Gr l.o.YK l.o.sh).1 x hx).2.2.2.2) (yk1 f) G j.1 j.2.1 rfl (show ¬(w1:Nat)+2<=(w1:Nat)by omega) (show ¬(w1:Nat)+2<=(w1:Nat)+1 by omega) (g0:=()) (show yqz b c n z fm () w1.drew from(S0 E b c n z fm).fr H ((Fr.refl yH w1).drew) (λ_ q=>q.elim)) (λk q=>q.elim));clear G j H hc y u d;go_wp2_with fail;refine V1 (λW':z8=>zu W' P 0 (.pointer (some ⟨q,0,none⟩))/\zu W' P 1 (zU g 0)) (xB 9) 5 ⟨c0,c1⟩ ?_;refine gX 9 (λM I=>?_);go_simp;refine F.o.mono ?_;intro e w2 v;obtain⟨a,N,rfl,p,s⟩:=cP v;have i:Fr yH yH w1 w2:=((Fr.refl yH w1).drew).over s (λq v => .inr (by have:(w1:Nat)+2<=q:=v;omega));have d0:=i.cell c0 id;have d1:=i.cell c1 id;have D:=Z (zg p i);clear v p s i F;refine I.out _ _ ⟨d0,d1⟩ λ_=>?_
  clear I M;refine VO [10,11,12,13] 0 ⟨d0,d1⟩ ?_;refine Y3 ?_ _;clear d0 d1 c0 c1;go_wp2;go_ret2
  exact⟨a,N,rfl,.inl ⟨C.o,D.o.1⟩,r.o.trans D.o.2⟩
 .have r:=Z d;have B:=Z t;clear d t y;go_wp2;go_ret2
  exact⟨_,_,rfl,.inr ⟨B.o,rfl,rfl⟩,r.o⟩
end
def CG{l:List Wd}(a:∀t∈l,t.length<=1000000):∀(p:Nat×(Wd->Option (Wd×Bool))),(∀m x,p.2 m=some x->m.length<=1000000/\x.1.length<=1000000)->∀m x,(jS l p).2 m=some x->m.length<=1000000/\x.1.length<=1000000:=by
 match l with
 |[]=>exactλp h=>h
 |[_]=>exactλp h=>h
 |[_,_]=>exactλp h=>h
 |k::d::t::r =>
  intro p h;rw[jS];refine CG (l:=r) (λu b=>a u (by simp[b])) _ λm x hx=>?_
  simp only at hx;split at hx
  .next e =>
   cases hx;exact⟨by rw[<-e];exact a k zZ,a t zZ⟩
  .exact h m x hx
def Kv:∀(n:Nat) (l:List Wd),l.length<=n->∀(p:Nat×(Wd->Option (Wd×Bool))),(jS l p).1<=p.1+l.length
 |_,[],_,p=>bA _ _
 |_,[_],_,p=>bA _ _
 |_,[_,_],_,p=>bA _ _
 | 0,_::_::_::_,h,_=>Va
 |n+1,k::d::t::r,h,p=>by
  obtain⟨q,a⟩:=zr ((if (p.2 k).isSome then p.1 else p.1+1));have b:q<=p.1+1:=by rw[<-a];split<;>omega
  rw[jS,a];have:=Kv n r Gx (q,λm=>if k=m then some (t,d==[110])else p.2 m);simp only[zY]at this|-;omega
def fk.FQ{w:z8}{b z:Nat}{f:Wd->Option (Wd×Bool)}(h:fk w b n z f)(m:Wd)(hm:m.length<=5000000) :
  (TZ 61 (.map (some b)) (zM m) false).run Tryz.prog w = .ok (Cq ((f m).getD ([],false))) w:=by
 obtain⟨D,h1,-,e⟩:=h;obtain⟨v,ps,a,hv⟩:=h1.lookup (xE underlying9) underlying61 (z:=Cq ([],false)) Qa (zd:=VJ ([],false)) (zp:=[]) (NG _ zZ)
  (key:=zM m) (xu (s:=⟨m.toArray⟩) underlying9 VP)
 rw[toList_mk]at hv;obtain⟨x,c,d,-⟩:=Ck hv;have he:D.atKey (.string m) (VJ ([],false))=VJ x:=congrArg Prod.fst d;rw[(e m).2]at he;rw[a,c,Cj he]
section
variable {P q g mb:Nat} {f:Fo} {vC vI:Value} {rs:List (Value×Value)} {w:z8}
def CF(E:jd Unit)(f:Fo)(z:Nat)(fm:Wd->Option (Wd×Bool))(s:Wd)(k:Nat):Prop :=
 Xi fm z/\(match sY (sx E fm) (MkS.all f) ()with |.ok (o,_)=>s=o/\k=0 |.error (n,_)=>s=[]/\k=n)\/¬Xi fm z/\s=[]/\k=11
def yk3{z:Nat}{fm:Wd->Option (Wd×Bool)}{a b:Value}(h:Xi fm z/\yk2 (sY (sx E fm) (MkS.all f) ()) a b\/¬Xi fm z/\a=zM []/\b=kX 11) :
  ∃s k,CF E f z fm s k/\a=zM s/\(k=0/\b = .nilIface\/b=kX k):=by
 rcases h with⟨h1,h2⟩|⟨h1,rfl,rfl⟩
 .unfold yk2 at h2;unfold CF;split at h2
  .next o g' he=>exact⟨o,0,.inl ⟨h1,by rw[he];exact⟨rfl,rfl⟩⟩,h2.1,.inl ⟨rfl,h2.2⟩⟩
  .next n g' he=>exact⟨[],n,.inl ⟨h1,by rw[he];exact⟨rfl,rfl⟩⟩,h2.1,.inr h2.2⟩
 .exact⟨[],11,.inr ⟨h1,rfl,rfl⟩,rfl,.inr rfl⟩
def sV{b:Value}(h:k=0/\b = .nilIface\/b=kX k)(w:z8)(a:JF w):zC Tryz.prog 15 #[b] w (UQ (k:Nat) 0 w):=by
 rcases h with⟨rfl,rfl⟩|rfl
 .exact UK w
 .exact zi7 _ w a
def JI.fr{τ:Type}{E:jd τ}(h:JI P q g mb f vC vI rs E w)(hf:Fr yH yH w w'):JI P q g mb f vC vI rs E w':=by
 obtain⟨cv,ov,c,e,i⟩:=h.loc.set;exact⟨hf.cell h.p0 id,hf.cell h.p1 id,h.prog.below (Ky hf),⟨λW b n a=>h.loc.wr W b n (hf.trans a),h.loc.wrl,⟨cv,ov,λW a=>c W (hf.trans a),λW b d a=>e W b d (hf.trans a),λW b d a=>i W b d (hf.trans a)⟩,h.loc.srt⟩,h.msg,h.ver,h.YK,h.sh,h.cw⟩
def CD{w:z8}(hb:zP w w'):Fr yH yH w w':=⟨hb.os,hb.tape,hb.output,hb.size,λk a _=>hb.block k a,λ_ q => .inl q⟩
def Yu(h:JI P q g mb f vC vI rs E w)(hR:JF w){l:List Wd}{a:Option yM}(ht:YG w a l)(hn:l.length=n)(hl:∀t∈l,t.length<=1000000)(T:n<=1000000) :
  zC Tryz.prog 10 #[(P,0),.slice a n c] w λe w'=>(∃s k,e = .returned (.tuple #[zM s,.int .i64 (k:Nat),.bool true])/\CF E f (jS l (0,λ_=>none)).1 (jS l (0,λ_=>none)).2 s k)/\Fr yH yH w w':=by
 obtain⟨z,hz⟩:=zr ((jS l (0,λ_=>none)).1);obtain⟨fm,b⟩:=zr ((jS l (0,λ_=>none)).2);have U:∀m x,fm m=some x->m.length<=1000000/\x.1.length<=1000000:=by rw[<-b];exact CG hl _ (λm x hx=>Qe)
 have V:z<=1000000:=by rw[<-hz];have:=Kv _ l (Y _) (0,λ_=>none);simp only at this;omega
 have HV:=Z (λ(W:z8) (hf:Fr yH yH w W)=>S6 (c:=c) (ht.fr hf) hn hl T);rw[hz,b]at HV;rw[hz,b];obtain⟨HH,HR,HS,HZ⟩:=hdd h hR U V;clear h hR ht hn hl T hz b U V;go_enter func10,ntmps10;go_wp2_with fail;refine(HV.o w (Fr.refl _ _)).mono ?_;rintro e w1 ⟨rfl,⟨N,hN,v⟩,B⟩;have HF:=Z (Su (HH.o.fr B) v (λm x hx=>⟨zj (HS.o m x hx).1 J,(HS.o m x hx).2⟩) (by have:=HZ.o;omega));have H1:=Z (zg v B);obtain⟨b1,L⟩:=zr (w:Nat);rw[L]at HF H1|-;clear v B L hN;go_wp2_with fail;refine HF.o.mono ?_;rintro e w2 ⟨r1,r2,rfl,hr,C⟩;obtain⟨s,k,hs,rfl,hk⟩:=yk3 hr;have d:=H1.o.2.trans C;have H2:=Z (zg (H1.o.1.fr C id) d);have HT:=Z (sV hk w2 (HR.o.below (Ky d)));have HQ:=Z hs;clear hr hs hk C d HF H1;go_wp2_with fail;refine HT.o.mono ?_;rintro e w3 ⟨rfl,A⟩;have O:=H2.o.2.trans (CD A);have H:=Z (zg (H2.o.1.fr (CD A) id) O);clear A O H2 HT;go_wp2_with fail;refine(HV.o w3 H.o.2).mono ?_;rintro e w4 ⟨rfl,⟨N4,hN4,m4⟩,p⟩;obtain⟨b4,M⟩:=zr (w3:Nat);rw[M]at m4|-;have v:=H.o.1.fr p id;have l1:=v.len 3;have l4:=m4.len 3;obtain⟨w5,hrg,y,D,hs5⟩:=m4.range;obtain⟨r,hr⟩:=zr (w4:Nat);rw[hr]at hrg y;have Q:=(H.o.2.trans p).over (jb D) (λq hq=>by cases hq);have wW:=v.lt;have H5:=Z (zg y (zg (v.fr (jb D) (λq=>kK)) (zg Q (show b1≠r by omega))));have EX:=Z (zg hr (show (w:Nat)<=(w4:Nat) from(H.o.2.trans p).size));clear y D hs5 Q v m4 p M wW H hr HV hN4;go_wp2_with fail;go_loopw [13] (λsv wr=>∃left cnt,sv = .bool true/\Cg wr b4 r N4 fm left cnt/\fk wr b1 N z fm/\Fr yH yH w wr) (λ_ wr=>wr.rangeLeft b4 r)
 case atStart=>exact⟨_,_,rfl,H5.o.1,H5.o.2.1,H5.o.2.2.1⟩
 case round =>
  obtain⟨left,cnt,rfl,j,hm,hf⟩:=hrel;have u:=Z (zg j hf);rcases j.next 0 with⟨-,hno,i⟩|⟨m,x,w',ve7,hlm,b,i,K,S,F,bh,hen⟩
  .have i:=λty=>(DB (r,0) ty 0 wr).trans i
   clear j hm hf hno;go_wp2;go_ret3
   exact⟨⟨s,k,rfl,HQ.o⟩,u.o.2⟩
  .have i:=λty=>(DB (r,0) ty 0 wr).trans i
   obtain⟨t,num⟩:=x;have R:Fr yH yH w w':=hf.over (jb F) (λq hq => .inr (by cases hq;have:=EX.o;omega));have G:fk w' b1 N z fm:=hm.fr (jb F) (λq=>H5.o.2.2.2 (zL q).symm);have TC:=λo=>(G.fr ((Fr.refl yH w').alloc o) id).FQ m (by have:=(HS.o m _ b).1;omega)
   rw[b]at TC;have I:=Z (zg K (zg S (zg R G)));clear j hm hf K S F bh hlm b R G;go_wp2;go_roundw
   case measure =>
    rw[(I.o.1.fr ((Fr.refl yH w').alloc _) id id).left_eq,u.o.1.left_eq];exact I.o.2.1
   case rel =>
    exact⟨_,_,rfl,I.o.1.fr ((Fr.refl yH w').alloc _) id id,I.o.2.2.2.fr ((Fr.refl yH w').alloc _) id,I.o.2.2.1.alloc _⟩
end
variable{gr mi po:Int}{dg l:List UInt8}{fi:Nat}{cv ov:Value}
def UB(h:um l = .ok f):xw l = .ok f/\fG f=none:=by
 unfold um at h;cases hp:xw l with
 |error e=>rw[hp]at h;cases h
 |ok g =>
  rw[hp]at h;dsimp only at h;cases hc:fG g with
  |some e=>rw[hc]at h;cases h
  |none=>rw[hc]at h;cases h;exact⟨rfl,hc⟩
def qj.below(h:qj w)(hb:zP w w'):qj w' :=
 h.fr (F:=yH) (F':=yH) (B:=2+1) (Fr.of hb) (λ_ q=>q.elim) (dQ _)
structure Zn(w:z8):Prop where
 tabs:cu w
 names:qx w
 Sq:qj w
def Zn.below(h:Zn w)(hb:zP w w'):Zn w':=⟨h.tabs.below hb,h.names.below hb,h.Sq.below hb⟩
structure CB(P q g mb:Nat)(f:Fo)(vC vI:Value)(rs:List (Value×Value))(mi po gr:Int)(fi ne:Nat)(dg:List UInt8)(cv ov:Value)(w:z8):Prop where
 p0:zu w P 0 (q,0)
 p1:zu w P 1 (g,0)
 prog:ug q (MkS.all f) vC vI rs mb w
 gl:g<(w:Nat)
 loc:Hx w g mi po gr fi ((if ne=0 then fi else ne:Nat):Int) (xz (Kp dg))
 g0:zu w g 0 cv
 g1:zu w g 1 ov
def CB.below{P g:Nat}{rs:List (Value×Value)}{ne:Nat}(h:CB P q g mb f vC vI rs mi po gr fi ne dg cv ov w)(hb:zP w w'):CB P q g mb f vC vI rs mi po gr fi ne dg cv ov w':=yb8
def xm6(kn:Bool)(r:Except (Nat×Nat) Fo)(mi po gr:Int)(fi ne:Nat)(dg:List UInt8)(Qc Qo:z8->Value->Prop)(w:z8)(e:xU)(w':z8):Prop :=
 zP w w' /\
 if kn=false then e = .returned (.tuple #[.pointer none,aw 8])
 else match r with
  |.error (n,a)=>∃b,e = .returned (.tuple #[.pointer none,.iface 72 (.pointer (some ⟨b,0,none⟩))])/\zu w' b 0 n/\zu w' b 1 a
  |.ok f=>∃P q g mb vC vI rs cv ov,e = .returned (.tuple #[.pointer (some ⟨P,0,none⟩),.nilIface])/\CB P q g mb f vC vI rs mi po gr fi ne dg cv ov w'/\(∀W,zP w' W->Qc W cv)/\∀W,zP w' W->Qo W ov
def NO(s:ByteArray)(c o:Value)(ra rb:Bool)(mi po gr:Int)(fi ne:Nat)(dg:ByteArray)(M N:z8->Value->Prop)(w:z8)(hs:s.size<=1000000)(hd:dg.size<=1000000)(O:fi<=255)(P:ne<=255)
  (hc:qe w c ra M) (T:qe w o rb N) (A:(∃a n k,c = .slice a n k)/\∃a n k,o = .slice a n k) (Q:Zn w) :
  zC Tryz.prog 16 #[.string s,Hv c o mi po gr fi ne dg] w (xm6 (xS ra rb mi po gr fi ne dg.data.toList) (um s.data.toList) mi po gr fi ne dg.data.toList M N w):=by
 obtain⟨V,HO,I,H⟩:=hdd hc T A Q;clear hc T A Q;go_enter func16,ntmps16;go_wp2_with fail;refine yo ?_;intro W hW;have hb:zP w W:=Qd;clear hW;refine(C6 c o ra rb mi po gr fi ne dg M N W hd O P (V.o.later hb) (HO.o.later hb) I.o (H.o.below hb).tabs.rW).mono ?_;rintro e w1 ⟨qE,Ft⟩;have XE:zP w w1:=hb.trans (qE.mono hb.size);obtain⟨kn,x⟩:=zr (xS ra rb mi po gr fi ne dg.data.toList);rw[x]at Ft;have oF:=Z x;clear x;cases kn
 .exact zju
 .rw[yV rfl]at Ft;obtain⟨g,cv,ov,rfl,hg0,Fg,S,c0,c1,F,G⟩:=Ft;obtain⟨HX,HQC,HQO,HC0,HC1⟩:=Jl S F G c0 c1;clear S F G hb qE c0 c1;obtain⟨r,hr⟩:=zr (um s.data.toList);have u:=Z (R6 s w1 J (H.o.below XE).tabs.rW (H.o.below XE).names);rw[hr]at u|-;have HR:=Z hr;clear hr;go_wp2_with fail;refine u.o.mono ?_;rintro e w2 ⟨U,j⟩;have d:=XE.trans (j.mono XE.size);clear u;cases r with
  |error en =>
   obtain⟨n,a⟩:=en;obtain⟨v,b,rfl,⟨va,vn,vk,rfl⟩,f0,f1⟩:=U;clear j;go_wp2;go_ret2
   refine⟨d,?_⟩;rw[yz zxu,HR.o];exact⟨b,rfl,f0,f1⟩
  |ok f =>
   obtain⟨⟨a,k,vs,rfl,t,B⟩,l⟩:=U;obtain⟨C,D⟩:=UB HR.o;obtain⟨k1,k2⟩:=CZ C D;have h:=H.o.below d;have K:=Z (zez f w2 a k vs t B (Y _) l.msg l.wf k1 (by have:=l.len;omega) J h.Sq h.names);obtain⟨L,R⟩:=zr f.len;rw[R]at K|-;clear t B l C D k1 k2 h R;go_wp2_with fail;refine K.o.mono ?_;rintro e w3 ⟨q,vC,vI,rs,mb,rfl,E,hq0,y⟩;have p:=j.trans (y.mono j.size);have m:=d.trans (y.mono d.size);have HPA:=Z E;clear E K;go_wp2;go_ret2
   obtain⟨z,hz⟩:=zr (w3:Nat);have LI:=λi=>zf w3 #[(q,0),(g,0)] 59 (0,0) i
   have KP:yD w3 w3 (w3.alloc (.cells #[(zU q 0),(zU g 0)] 59)):=(zv _ _).alloc (Y _) _;have LM:=p.trans (KP.mono p.size);have yiy:Fr yH yH w1 _:=Fr.of LM;refine⟨m.trans (KP.mono m.size),?_⟩;exact ydk
def zlg(b:Nat)(n a:Int)(w:z8)(h:JF w)(h0:zu w b 0 n)(h1:zu w b 1 a) :
  zC Tryz.prog 15 #[.iface 72 (b,0)] w (UQ n a w):=by
 have k:=Z h;have i:=Z h0;have j:=Z h1;have f:b<(w:Nat):=X w _ h0;clear h h0 h1;go_enter func15,ntmps15;go_wp2_with fail;refine yo ?_;intro W hW;have hb:zP w W:=Mk;have m:(w:Nat)+2<=(W:Nat):=by rw[hW];simp
 have hA:zu W (w:Nat) 0 (.pointer none)/\W.frozen? (zU (w:Nat) 0)=false:=WN;clear hW;refine(zi5 ⟨b,0,none⟩ ⟨(w:Nat),0,none⟩ _ W (k.o.below hb) hA.1 hA.2).mono ?_;rintro e w2 ⟨rfl,p1,p2,q,r,hw2⟩;have d:yD w W w2:=zd1;have c:=hb.trans d;have l:zu w2 (w:Nat) 0 (b,0):=by
  rw[hw2,zo,yV rfl];rw[zc _ _ _ yJ,zc _ _ _ yJ,zc _ _ _ yJ,zc _ _ _ AJ,hA.1];rfl
 have d0:=(c.cell (p:=(zU b 0)) f).trans i.o;have d1:=(c.cell (p:=(zU b 1)) f).trans j.o;clear hw2 d hA;have g:zu w2.drew (w:Nat) 0 (zU b 0)/\zu w2.drew b 0 n/\zu w2.drew b 1 a:=⟨l,d0,d1⟩;go_wp2_with fail;refine V1 (λW':z8=>zu W' (w:Nat) 0 (zU b 0)/\zu W' b 0 n/\zu W' b 1 a) [0,1,2,3,4,5,6,7,8,9] 0 g ?_;refine Y3 ?_ _;go_wp2;go_ret2
 exact⟨rfl,c.drew⟩
def xzy(kn:Bool)(r:Except (Nat×Nat) Fo)(mi po gr:Int)(fi ne:Nat)(dg:List UInt8)(Qc Qo:z8->Value->Prop)(w:z8)(e:xU)(w':z8):Prop :=
 zP w w' /\
 if kn=false then e = .returned (.tuple #[.pointer none,.int .i64 8,.int .i64 0])
 else match r with
  |.error (n,a)=>e = .returned (.tuple #[.pointer none,n,a])
  |.ok f=>∃P q g mb vC vI rs cv ov,e = .returned (.tuple #[.pointer (some ⟨P,0,none⟩),.int .i64 0,.int .i64 0])/\CB P q g mb f vC vI rs mi po gr fi ne dg cv ov w'/\(∀W,zP w' W->Qc W cv)/\∀W,zP w' W->Qo W ov
def NP(s:ByteArray)(c o:Value)(ra rb:Bool)(mi po gr:Int)(fi ne:Nat)(dg:ByteArray)(y z:z8->Value->Prop)(w:z8)(hs:s.size<=1000000)(hd:dg.size<=1000000)(A:fi<=255)(B:ne<=255)
  (hc:qe w c ra y) (E:qe w o rb z) (p:(∃a n k,c = .slice a n k)/\∃a n k,o = .slice a n k) (D:Zn w) :
  zC Tryz.prog 7 #[.string s,Hv c o mi po gr fi ne dg] w (xzy (xS ra rb mi po gr fi ne dg.data.toList) (um s.data.toList) mi po gr fi ne dg.data.toList y z w):=by
 obtain⟨F,G,x,C⟩:=hdd hc E p D;clear hc E p D;go_enter func7,ntmps7;go_wp2_with fail;refine yo ?_;intro W hW;have hb:zP w W:=Qd;clear hW;refine(NO s c o ra rb mi po gr fi ne dg y z W hs hd A B (F.o.later hb) (G.o.later hb) x.o (C.o.below hb)).mono ?_;rintro e w1 ⟨j,h⟩;have d:zP w w1:=hb.trans (j.mono hb.size);have i:=C.o.below d;obtain⟨I,m⟩:=zr (xS ra rb mi po gr fi ne dg.data.toList);rw[m]at h;have oF:=Z m;clear m;cases I
 .rw[yV rfl]at h;subst h;have l:=Z (C4 8 w1 i.tabs.err);clear hb j i;go_wp2_with fail;refine l.o.mono ?_;rintro e w2 ⟨rfl,qY⟩;have Qq:=d.trans (qY.mono d.size);clear l qY;go_wp2;go_ret3
  refine⟨Qq,?_⟩;rw[yV oF.o];rfl
 .rw[yz zZ]at h;obtain⟨r,hr⟩:=zr (um s.data.toList);rw[hr]at h;have HR:=Z hr;clear hr;cases r with
  |error en =>
   obtain⟨n,a⟩:=en;obtain⟨b,rfl,f0,f1⟩:=h;have l:=Z (zlg b n a w1 i.tabs.err f0 f1);clear hb j i f0 f1;go_wp2_with fail;refine l.o.mono ?_;rintro e w2 ⟨rfl,qY⟩;have Qq:=d.trans (qY.mono d.size);clear l qY;go_wp2;go_ret3
   exact A8
  |ok f =>
   obtain⟨P,q,g,mb,vC,vI,rs,cv,ov,rfl,t,u,v⟩:=h;have l:=Z (UK w1);have H:=Z t;have HQ:=Z (zg u v);clear hb j i t u v;go_wp2_with fail;refine l.o.mono ?_;rintro e w2 ⟨rfl,qY⟩;have Qq:=d.trans (qY.mono d.size);have iD:=Z (H.o.below qY);clear l;go_wp2;go_ret3
   exact yb5
variable{xs:List Value}{W W':z8}
def bM.grown{row:Option Nat}(h:bM W q)(b:W.grownBy W' row)(a:some q≠row):bM W' q :=
 ⟨b.cell h.c0 a,b.cell h.c1 a,b.cell h.c2 a,(zV (b.block q h.lt a)).trans h.z0,(zV (b.block q h.lt a)).trans h.z1,(zV (b.block q h.lt a)).trans h.z2,zD h.lt b.size⟩
def bM.set(h:bM W q){a:yM}(ha:a.block≠q)(u:Value):bM (W.setCell a u) q :=
 have hb:(W.setCell a u).heap[q]? = W.heap[q]? := yZ _ _ _ _ (λe=>ha e.symm);⟨(yE hb).trans h.c0,(yE hb).trans h.c1,(yE hb).trans h.c2,(zV hb).trans h.z0,(zV hb).trans h.z1,(zV hb).trans h.z2,by simpa[xg]using h.lt⟩
def CC{p:yM}(h:yU w (some p) (xG l)):∀j u,(vz l)[j]? = some u->w.cell? (p.add j)=some u:=by
 intro j u hu;have hj:j<(xG l).length:=Wy;obtain⟨b,hb,hc⟩:=h j hj;cases hb;rw[hc];exact Tn
def Sk(l:List UInt8):∀u∈vz l,u.oneCell'=true:=Tt
def Mv{base g:Nat}{a:List UInt8}{b:Bool}(h:w.ownsRow base e 1 (.slice (g,0) n cap) n (vz a++xs))(ha:a≠[])(hc:zu w g 0 (.bool b)):False:=by
 cases a with
 |nil=>exact ha rfl
 |cons c t =>
  have hn:0<n:=by have:=h.1;simp[vz]at this;omega
  have:=h.cellAt 0 J;rw[hc]at this;simp[vz]at this
def yk4(v:Value)(x:Dg)(m:Nat)(w:z8)(h:uh w v x)(hm:m<=1000000000)(hm0:0<m) :
  zC Tryz.prog 168 #[v,m] w (kW (xd (Ud x.1 m),x.2) w):=by
 have L:=h.ok;have p9:=L.Bp;have hl2:=L.D1;have HH:=Z h;have HO:=Z L;obtain⟨b,g,go,cap,rfl,_,_,_,_,_⟩:=h;obtain⟨D,P⟩:=bd w (.cells #[.bool b,.slice (g,go) (x.1.length+x.2.length) cap,.int .i64 x.2.length] 99);have V:((w.alloc (.cells #[.bool b,.slice (g,go) (x.1.length+x.2.length) cap,.int .i64 x.2.length] 99)).alloc (.cells #[.bool false,.slice none 0 0,.int .i64 0] 99)).cell? (w,0)=some (.bool b) /\
   ((w.alloc (.cells #[.bool b,.slice (g,go) (x.1.length+x.2.length) cap,.int .i64 x.2.length] 99)).alloc (.cells #[.bool false,.slice none 0 0,.int .i64 0] 99)).cell? (w,1)=some (.slice (g,go) (x.1.length+x.2.length) cap) /\
   ((w.alloc (.cells #[.bool b,.slice (g,go) (x.1.length+x.2.length) cap,.int .i64 x.2.length] 99)).alloc (.cells #[.bool false,.slice none 0 0,.int .i64 0] 99)).cell? (w,2)=some (.int .i64 x.2.length):=⟨uU,uU,uU⟩
 clear L;go_enter func168,ntmps168;go_wp2_with fail;generalize (w.alloc (.cells #[.bool b,.slice (g,go) (x.1.length+x.2.length) cap,.int .i64 x.2.length] 99)).alloc (.cells #[.bool false,.slice none 0 0,.int .i64 0] 99)=W at D P V|-;obtain⟨k0,k1,k2⟩:=V;have H:(w:Nat)<(W:Nat):=X W _ k0;refine(Nx _ x _ (HH.o.below D)).mono ?_;rintro e w1 ⟨⟨ad',ry,rfl,Vj,Xq,hB⟩,qE⟩;have Q:=P.below qE;have E:zP w w1:=D.trans (qE.mono D.size);have j0:=(qE.cell (p:=(w,0)) H).trans k0;have j1:=(qE.cell (p:=(w,1)) H).trans k1;have j2:=(qE.cell (p:=(w,2)) H).trans k2;have HB:=Z hB;clear D P qE k0 k1 k2 hB H;have y:=λl=>zcx l m hm0
 have N:=Z y;clear y;go_wp2_with fail;go_loop [5,12] (λr i=>∃k:Nat,k<=x.1.length/\i = .int .i64 k/\r = .int .i64 (Ud (x.1.take k) m)) (λ_ i=>x.1.length - (intOf i).toNat)
 case atStart=>exact⟨0,zQ _,rfl,rfl⟩
 case round =>
  obtain⟨k,hk,rfl,rfl⟩:=hrel;by_cases y:k<x.1.length
  .obtain⟨p,rfl,hc⟩:=HB.o k (by rw[xN];exact y);have hvm:(xG x.1)[k]'(by rw[xN];exact y)=(x.1[k].toNat:Int) - 48:=(by simp[xG]);rw[hvm]at hc;have hd:=(xr _).1 (zi.1 HO.o.zcj _ (yf y));have hL:=N.o (x.1.take k);have hsn:Ud (x.1.take (k+1)) m=(10*Ud (x.1.take k) m+(x.1[k].toNat - 48)) % m:=(by rw[yj y,Bl]);have T:=Z hsn;obtain⟨r,hr⟩:∃r,r=Ud (x.1.take k) m:=⟨_,rfl⟩;obtain⟨d,hdd⟩:∃d:Nat,(d:Int)=(x.1[k].toNat:Int) - 48:=⟨x.1[k].toNat - 48,J⟩;have EO:x.1[k].toNat - 48=d:=J;rw[<-hdd]at hc;rw[<-hr,EO]at T;rw[<-hr]at hL|-;have hd9:d<=9:=J;have hmz:¬((m:Int)=0):=J;clear hsn hvm hd hr hdd EO;go_wp2;exact⟨⟨k+1,J,uN,by rw[T.o];go_num⟩,by simp[intOf];omega⟩
  .obtain rfl:k=x.1.length:=(by omega);have Fa:=N.o (x.1.take x.1.length);rw[fE]at Fa|-;clear N HB;obtain⟨r,hr⟩:∃r,r=Ud x.1 m:=⟨_,rfl⟩;have HR:=Z hr;rw[<-hr]at Fa|-;clear hr;go_wp2_with fail;refine(Yw r _ J).mono ?_;rintro e w2 ⟨⟨g2,Gk,rfl,ho⟩,z⟩;have im:=Q.below z;have M:zP w w2:=E.trans (z.mono E.size);have R:(w:Nat)<(w1:Nat):=X w1 _ j0;have i0:=(z.cell (p:=(w,0)) R).trans j0;have i1:=(z.cell (p:=(w,1)) R).trans j1;have i2:=(z.cell (p:=(w,2)) R).trans j2;have I7:=(ho.lt g2 rfl);have ybx:=Z Q.lt;clear z j0 j1 j2 Q E;go_wp2_with (fail);have F:∃j,j=w2.alloc (.cells #[.bool false,.slice (g2,0) (xd r).length Gk,.int .i64 0] 99)/\zP w2 j/\j.heap.size=(w2:Nat)+1 /\
     j.cell? (w2,0)=some (.bool false)/\zu j (w2:Nat) 1 (.slice (g2,0) (xd r).length Gk)/\j.cell? (w2,2)=some (.int .i64 0) /\
     j.frozen? (w2,0)=false/\j.frozen? (w2,1)=false/\j.frozen? (w2,2)=false /\
     j.ownsRow (w1:Nat) 5 1 (.slice (g2,0) (xd r).length Gk) (xd r).length (vz (xd r)) :=
    ⟨_,rfl,(zv _ _).alloc (Y _) _,zZ,uU,uU,uU,uU,by go_simp,by go_simp,ho.alloc _⟩
   obtain⟨j,U,A,hs3,q0,q1,q2,y0,y1,y2,I⟩:=F;rw[<-U];have f:=im.below A;have G:(w:Nat)<(w2:Nat):=X w2 _ i0;have S:=(A.cell (p:=(zU (w:Nat) 0)) G).trans i0;have o1:=(A.cell (p:=(zU (w:Nat) 1)) G).trans i1;have o2:=(A.cell (p:=(zU (w:Nat) 2)) G).trans i2;have t:zP w j:=M.trans (A.mono M.size);have aU:(w1:Nat)<=(w2:Nat):=J;clear U A im i0 i1 i2 ho;obtain⟨B,O⟩:∃B,B=(w:Nat):=⟨_,rfl⟩;obtain⟨q,hq⟩:∃q,q=(w2:Nat):=⟨_,rfl⟩;rw[<-O]at S o1 o2 f G|-;rw[<-hq]at q0 q1 q2 y0 y1 y2 G hs3|-;have HBq:=Z O;have HQ:=Z hq;clear O hq;have s:zu j.drew B 0 (.bool b)/\zu j.drew B 1 (.slice (g,go) (x.1.length+x.2.length) cap)/\zu j.drew B 2 (.int .i64 x.2.length):=⟨S,o1,o2⟩;refine qs (λW':z8=>zu W' B 0 (.bool b)/\zu W' B 1 (.slice (g,go) (x.1.length+x.2.length) cap)/\zu W' B 2 (.int .i64 x.2.length))
    [0,2,5,6] 7 ZR yq yq s ?_
   (iterate 4 ((first|refine ty ?_|refine tn ?_);try simp only[pl]))
   refine yS ?_;refine ep (rs:=[1,3]) yq zZ (vo rfl (λK hK=>?_) (vo rfl (λK hK=>?_) Zq))
   .go_simp;refine hK.out _ _ s λ_=>?_;clear hK K;refine gX 3 (λK hK=>?_);go_simp;refine(Ga _ x _ (HH.o.below t.drew)).mono ?_;rintro e w4 ⟨⟨p4,C,rfl,Ig,DV,hB4⟩,c⟩;have u:B<(j:Nat):=X j _ S;have n:q<(j:Nat):=X j _ q1;have a0:=(c.cell (p:=(zU B 0)) u).trans s.1;have a1:=(c.cell (p:=(zU B 1)) u).trans s.2.1;have a2:=(c.cell (p:=(zU B 2)) u).trans s.2.2;have p1:=(c.cell (p:=(zU q 1)) n).trans q1;have p0:=(c.cell (p:=(zU q 0)) n).trans q0;have p2:=(c.cell (p:=(zU q 2)) n).trans q2;have x0:=(c.frozen (p:=(zU q 0)) n).trans y0;have x1:=(c.frozen (p:=(zU q 1)) n).trans y1;have x2:=(c.frozen (p:=(zU q 2)) n).trans y2;have Dp:=di (Fj I) c;have El:=(show bM j.drew (B+1) from⟨f.c0,f.c1,f.c2,f.z0,f.z1,f.z2,f.lt⟩).below c;have EN:zP w w4:=t.drew.trans (c.mono t.size);have Oo:(j:Nat)<=(w4:Nat):=c.size;refine hK.out _ _ ⟨a0,a1,a2⟩ λ_=>?_;clear hK K s S o1 o2 q0 q1 q2 y0 y1 y2 I f c;refine gX 4 (λK hK=>?_);rw[yV xV];obtain⟨i,hi,hz,h2,h3⟩:=xC.info;refine wp_append_own w4 _ _ 34 rfl (w1:Nat) 5 i _ 1 1 xC.under hi hz h2 h3 xC.Qg xC.pos _ _ _ rfl Dp p4 x.2.length C (vz x.2) rfl BZ (CC hB4) (Sk x.2)
      zfu (by have:=jM 9 r J;omega) (by have:=HQ.o;omega) ?_
    exact zk2
   .skip
    go_simp;refine(Ga _ x _ (HH.o.below t.drew)).mono ?_;rintro e w4 ⟨⟨p4,C,rfl,Ig,DV,hB4⟩,c⟩;have u:B<(j:Nat):=X j _ S;have n:q<(j:Nat):=X j _ q1;have a0:=(c.cell (p:=(zU B 0)) u).trans s.1;have a1:=(c.cell (p:=(zU B 1)) u).trans s.2.1;have a2:=(c.cell (p:=(zU B 2)) u).trans s.2.2;have p1:=(c.cell (p:=(zU q 1)) n).trans q1;have p0:=(c.cell (p:=(zU q 0)) n).trans q0;have p2:=(c.cell (p:=(zU q 2)) n).trans q2;have x0:=(c.frozen (p:=(zU q 0)) n).trans y0;have x1:=(c.frozen (p:=(zU q 1)) n).trans y1;have x2:=(c.frozen (p:=(zU q 2)) n).trans y2;have Dp:=di (Fj I) c;have El:=(show bM j.drew (B+1) from⟨f.c0,f.c1,f.c2,f.z0,f.z1,f.z2,f.lt⟩).below c;have EN:zP w w4:=t.drew.trans (c.mono t.size);have Oo:(j:Nat)<=(w4:Nat):=c.size;refine hK.out _ _ ⟨a0,a1,a2⟩ λ_=>?_;clear hK K s S o1 o2 q0 q1 q2 y0 y1 y2 I f c;refine gX 1 (λK hK=>?_);go_simp;refine hK.out _ _ ⟨a0,a1,a2⟩ λ_=>?_;clear hK K;refine gX 4 (λK hK=>?_);rw[yV xV];obtain⟨i,hi,hz,h2,h3⟩:=xC.info;refine wp_append_own w4 _ _ 34 rfl (w1:Nat) 5 i _ 1 1 xC.under hi hz h2 h3 xC.Qg xC.pos _ _ _ rfl Dp p4 x.2.length C (vz x.2) rfl BZ (CC hB4) (Sk x.2)
      zfu (by have:=jM 9 r J;omega) (by have:=HQ.o;omega) ?_
    exact zk2
variable{hi hi' lo lo':Nat}{T:gj}
def j8(lo hi:Nat)(w:z8)(v:Value)(T:gj):Prop :=
 ∃k cap,v = .func (.func k) #[] cap/\(∀args w,(callFunc k args).run Tryz.prog w = .ok (.enter k args) w) /\
  ∀W,xh lo hi w W->∀nv x,uh W nv x->zC Tryz.prog k (#[nv]++cap) W λe W'=>e = .returned (.bool (T x))/\zP W W'
def OpR(lo hi:Nat)(w:z8)(v:Value)(F:Dg->Dg):Prop :=
 ∃k cap,v = .func (.func k) #[] cap/\(∀args w,(callFunc k args).run Tryz.prog w = .ok (.enter k args) w) /\
  ∀W,xh lo hi w W->∀nv x,uh W nv x->zC Tryz.prog k (#[nv]++cap) W (kW (F x) W)
def j8.keep(h:j8 lo hi w v T)(hk:xh lo hi w w')(h1:lo'<=lo)(h2:hi<=hi'):j8 lo' hi' w' v T:=zvv
def OpR.keep{F:Dg->Dg}(h:OpR lo hi w v F)(hk:xh lo hi w w')(h1:lo'<=lo)(h2:hi<=hi'):OpR lo' hi' w' v F:=zvv
def sU(v:Value)(x:Dg)(a b:Nat)(br:Bool)(P pb pc:Nat)(w:z8)(h:uh w v x)(ha:a<=1000000000)(hb:b<=1000000000)(ca:zu w P 0 a)(I:zu w pb 0 b)(cc:zu w pc 0 (.bool br)) :
  zC Tryz.prog 235 #[v,(P,0),(pb,0),(pc,0)] w λe w'=>e = .returned (.bool (fU a b br x))/\zP w w':=by
 have M:=λW m (j:uh W v x) (hm:m<=1000000000)=>FD v x m W j hm
 have hK:=λW (j:uh W v x)=>Bt v x W j
 obtain⟨r,hr⟩:=zr (fU a b br x);rw[hr];unfold fU at hr;obtain⟨c1,y⟩:∃c,GR x a=c:=⟨_,rfl⟩;obtain⟨c2,z⟩:∃c,GR x b=c:=⟨_,rfl⟩;obtain⟨k,O⟩:=zr (brk x.2);have h1:=λW (j:uh W v x)=>M W a j ha
 have h2:=λW (j:uh W v x)=>M W b j hb
 rw[y,z,O]at hr;simp only[y]at h1;simp only[z]at h2;simp only[O]at hK;obtain⟨U,V,HK,HH,Q⟩:=Jl h1 h2 hK h hr;obtain⟨R,g,go,cap,rfl,_,_,_,_,_⟩:=h;clear M hK h1 h2 hr y z O;have F:∃W,W=w.alloc (.cells #[.bool R,.slice (zU g go) (x.1.length+x.2.length) cap,.int .i64 x.2.length] 99)/\zP w W/\W.heap.size=(w:Nat)+1/\zu W (w:Nat) 0 (.bool R)/\zu W (w:Nat) 1 (.slice (zU g go) (x.1.length+x.2.length) cap)/\W.cell? (zU (w:Nat) 2)=some (.int .i64 x.2.length) /\
   W.cell? (P,0)=some (.int .i64 a)/\zu W pb 0 b/\W.cell? (pc,0)=some (.bool br) :=
  ⟨_,rfl,(zv _ _).alloc (Y _) _,zZ,uU,uU,uU,by rw[bQ _ _ _ (by rw[ca];rfl)];exact ca,by rw[bQ _ _ _ (by rw[I];rfl)];exact I,by rw[bQ _ _ _ (by rw[cc];rfl)];exact cc⟩
 obtain⟨W,j,E,hs,d0,d1,d2,da,db,D⟩:=F;have C:=Z (HH.o.below E);rw[j]at da db D;go_enter func235,ntmps235;go_wp2_with fail;rw[<-j]at da db D|-;clear j ca I cc;refine(U.o _ C.o).mono ?_;rintro e w1 ⟨rfl,d⟩;have A:(w:Nat)<(W:Nat):=J;have K:=(d.cell (p:=(w,0)) A).trans d0;have S:=(d.cell (p:=(w,1)) A).trans d1;have T:=(d.cell (p:=(w,2)) A).trans d2;have eb:=(d.cell (p:=(pb,0)) (X W _ db)).trans db;have L:=(d.cell (p:=(pc,0)) (X W _ D)).trans D;have s:zP w w1:=E.trans (d.mono J);have B:=Z (C.o.below d);have l:(w:Nat)<(w1:Nat):=X w1 _ K;clear d0 d1 d2 da db D d;by_cases g1:0<=c1
 .have t:decide (0<=c1)=true:=decide_eq_true g1;have hr:=Q.o;rw[t,gR]at hr;have n:=Z hr;clear hr;go_wp2_with fail;refine(V.o _ B.o).mono ?_;rintro e w2 ⟨rfl,f⟩;have f0:=(f.cell (p:=(zU (w:Nat) 0)) l).trans K;have f1:=(f.cell (p:=(zU (w:Nat) 1)) l).trans S;have f2:=(f.cell (p:=(zU (w:Nat) 2)) l).trans T;have fc:=(f.cell (p:=(zU pc 0)) (X w1 _ L)).trans L;have i:zP w w2:=s.trans (f.mono J);have H:=Z (B.o.below f);clear K S T eb L f;by_cases g2:c2<=0
  .have u:decide (c2<=0)=true:=decide_eq_true g2;have hr:=n.o;rw[u,gR]at hr;have q:=Z hr;clear hr;cases br
   .go_wp2_with fail;refine(HK.o _ H.o).mono ?_;rintro e w3 ⟨rfl,N⟩;have G:zP w w3:=i.trans (N.mono i.size);go_wp2;go_ret;exact⟨by rw[<-q.o];rfl,G⟩
   .go_wp2;go_ret;exact⟨by rw[<-q.o];rfl,i⟩
  .have u:decide (c2<=0)=false:=decide_eq_false g2;have hr:=n.o;rw[u,oq]at hr;have q:=Z hr;clear hr;go_wp2;go_ret;exact⟨by rw[<-q.o];rfl,i⟩
 .have t:decide (0<=c1)=false:=decide_eq_false g1;have hr:=Q.o;rw[t,oq]at hr;have n:=Z hr;clear hr;go_wp2;go_ret;exact⟨by rw[<-n.o];rfl,s⟩
def DT(a b:Nat)(br:Bool)(w:z8)(ha:a<=1000000000)(hb:b<=1000000000) :
  zC Tryz.prog 209 #[a,b,.bool br] w λe w'=>(∃v,e = .returned v/\j8 (w:Nat) w'.heap.size w' v (fU a b br))/\zP w w':=by
 have d:∀(fn:Fn) (first cap:Array Value) (w:z8),(uV fn first cap).run Tryz.prog w = .ok (.func fn first cap) w:=λ_ _ _ _=>rfl
 go_enter func209,ntmps209;go_wp2;go_ret;have hs:(((w.alloc (.cells #[a] 3)).alloc (.cells #[b] 3)).alloc (.cells #[.bool br] 4)).heap.size=(w:Nat)+3:=zZ;refine⟨⟨_,rfl,235,_,rfl,λargs w=>enters_of func235 yq rfl args w,λW c f x hx=>?_⟩,(((zv _ _).alloc (Y _) _).alloc zZ _).alloc yJ _⟩;refine sU f x a b br _ _ _ W hx ha hb ((c.cell (Y _) ?_).trans ?_) ((c.cell ?_ ?_).trans ?_) ((c.cell ?_ ?_).trans ?_);all_goals first|(show w.heap.size<=w.heap.size+1;omega)|(show w.heap.size<=w.heap.size+1+1;omega)|(rw[hs];simp;done)|(rw[hs];simp;omega)|(show w.heap.size<=_;simp;done)|(show w.heap.size<=_;omega)|(go_simp;done)
def cR(v:Value)(q:Nat)(w:z8)(l:Value)(x:Dg)(T:gj)(lo hi:Nat)(h:j8 lo hi w v T)(d:hi<=(w:Nat))(hn:uh w l x)(cs:Array Value)(c:l = .agg cs)
  (hc:∀j u,cs[j]? = some u->zu w q j u) :
  zC Tryz.prog 163 #[v,(q,0)] w λe w'=>e = .returned (.bool (T x))/\zP w w':=by
 have m:=Z hn;obtain⟨b,g,go,cap,n,k,rfl⟩:=hn.form;cases c;have c0:=hc 0 _ rfl;have c1:=hc 1 _ rfl;have c2:=hc 2 _ rfl;obtain⟨K,r,rfl,i,a⟩:=h;have f:=a w (vK d) _ x m.o;have p:=Z f;clear a f hc;go_enter func163,ntmps163;go_wp2_with fail;refine p.o.mono ?_;rintro e w1 ⟨rfl,hb⟩;go_wp2;go_ret;exact⟨rfl,hb⟩
variable{Ts:List gj}{vs:List Value}
def cS(w:z8)(a:Option yM)(vs:List Value):Prop:=∀j (h:j<vs.length),∃b,a=some b/\w.cell? (b.add j)=some vs[j]
def cS.below{a:Option yM}(h:cS w a vs)(hb:zP w w'):cS w' a vs:=λj c=>by
 obtain⟨b,h1,h2⟩:=h j c;exact⟨b,h1,zq8⟩
def Zo(lo hi:Nat)(w:z8)(a:Option yM)(Ts:List gj):Prop :=
 ∀j (h:j<Ts.length),∃b v,a=some b/\w.cell? (b.add j)=some v/\lo<=b.block/\b.block<hi/\j8 lo hi w v Ts[j]
def Zo.keep{a:Option yM}(h:Zo lo hi w a Ts)(c:xh lo hi w w')(h1:lo'<=lo)(h2:hi<=hi'):Zo lo' hi' w' a Ts:=λj k=>by
 obtain⟨b,v,d,e,f,g,i⟩:=h j k;exact⟨b,v,d,by rw[c.cell (p:=b.add j) (by rw[addr_add];exact f) (by rw[addr_add];exact g)];exact e,J,J,i.keep c h1 h2⟩
structure NR(w:z8)(q:Nat)(nv:Value):Prop where
 lt:q<(w:Nat)
 cells:∃b s k,nv = .agg #[b,s,k]/\zu w q 0 b/\zu w q 1 s/\zu w q 2 k
def NR.below{c:Value}(h:NR w q c)(hb:zP w w'):NR w' q c:=by
 obtain⟨a,b,s,k,h1,h2,d,e⟩:=h;exact⟨zD a hb.size,b,s,k,h1,(hb.cell a).trans h2,(hb.cell a).trans d,(hb.cell a).trans e⟩
def cT(v:Value)(q:Nat)(w:z8)(d:Value)(x:Dg)(T:gj)(lo hi:Nat)(h:j8 lo hi w v T)(c:hi<=(w:Nat))(hn:uh w d x)(hb:NR w q d) :
  zC Tryz.prog 163 #[v,(q,0)] w λe w'=>e = .returned (.bool (T x))/\zP w w':=by
 obtain⟨_,b,s,k,h1,h2,f,g⟩:=hb;refine cR v q w d x T lo hi h c hn #[b,s,k] h1 (λj u a=>?_);match j,a with
 | 0,a=>cases a;exact h2
 | 1,a=>cases a;exact f
 | 2,a=>cases a;exact g
 |n+3,a=>simp at a
def yk5{x:Dg}(h:k<Ts.length)(a:Ts[k] x=true):Zi Ts x=true:=vq2.2 ⟨Ts[k],yf h,a⟩
def sQ{x:Dg}(h:k<Ts.length)(h0:Zi (Ts.take k) x=false)(hT:Ts[k] x=false):Zi (Ts.take (k+1)) x=false:=by
 unfold Zi at *;exact zuk
def cm(Ts:List gj)(a:Option yM)(c:Nat)(q:Nat)(s:Value)(x:Dg)(lo hi:Nat)(w:z8)(E:Ts.length<=1000000)(u:Zo lo hi w a Ts)(h:hi<=(w:Nat))(hn:uh w s x)(hb:NR w q s) :
  zC Tryz.prog 199 #[.slice a Ts.length c,.func (.func 163) #[] #[(q,0)]] w
   λe w'=>(∃n:Int,e = .returned n/\decide (0<=n)=Zi Ts x)/\zP w w':=by
 have B:=Z u;have A:=Z hn;have y:=Z hb;clear u hn hb;go_enter func199,ntmps199;go_wp2;go_loopw [8] (λi wr=>∃k:Nat,k<=Ts.length/\i = .int .i64 k/\Zi (Ts.take k) x=false/\zP w wr) (λi _=>Ts.length - (intOf i).toNat)
 case atStart=>exact⟨0,zQ _,rfl,rfl,zv _ _⟩
 case round =>
  obtain⟨k,D,rfl,l,d⟩:=hrel;have m:=Z l;clear l;by_cases j:k<Ts.length
  .obtain⟨b,v,rfl,hc,h1,h2,t⟩:=B.o k j;have C:wr.cell? (b.add k)=some v:=(by rw[d.cell (X w _ hc)];exact hc);have r:=vu (lo:=lo) d h h;have f:=cT v q wr s x Ts[k] lo hi (t.keep r (Y _) (Y _)) (zj h d.size) (A.o.below d) (y.o.below d);have z:=Z f;clear hc f t;go_wp2_with fail;refine z.o.mono ?_;rintro e w1 ⟨rfl,p⟩;have OB:=d.trans (p.mono d.size);cases g:Ts[k] x
   .have HF:=Z (sQ j m.o g);clear g;exact Ad
   .have HF:=Z (yk5 j g);clear g;go_wp2;go_ret;exact⟨⟨_,rfl,by rw[HF.o];simp⟩,OB⟩
  .obtain rfl:k=Ts.length:=(by omega);have l:=m.o;rw[fE]at l;have HF:=Z l;clear l m;go_wp2;go_ret;exact⟨⟨_,rfl,gK⟩,d⟩
def Hj(Ts:List gj)(a:Option yM)(c:Nat)(q:Nat)(d:Value)(x:Dg)(lo hi:Nat)(w:z8)(j:Ts.length<=1000000)(g:Zo lo hi w a Ts)(b:hi<=(w:Nat))(hn:uh w d x)(hb:NR w q d) :
  zC Tryz.prog 162 #[.slice a Ts.length c,.func (.func 163) #[] #[(q,0)]] w
   λe w'=>e = .returned (.bool (Zi Ts x))/\zP w w':=by
 have f:=cm Ts a c q d x lo hi w j g b hn hb;have i:=Z f;clear g hn hb f;go_enter func162,ntmps162;go_wp2_with fail;refine i.o.mono ?_;rintro e w1 ⟨⟨n,rfl,hn⟩,hb⟩;have h:=Z hn;clear hn;go_wp2;go_ret;exact⟨by rw[<-h.o];rfl,hb⟩
def sK(Ts:List gj)(a:Option yM)(c:Nat)(pl:Nat)(m:Value)(x:Dg)(lo hi:Nat)(w:z8)(r:Ts.length<=1000000)(l:Zo lo hi w a Ts)(f:hi<=(w:Nat))(hn:uh w m x)(hc:zu w pl 0 (.slice a Ts.length c)) :
  zC Tryz.prog 161 #[m,(pl,0)] w λe w'=>e = .returned (.bool (Zi Ts x))/\zP w w':=by
 have s:∀(fn:Fn) (first cap:Array Value) (w:z8),(uV fn first cap).run Tryz.prog w = .ok (.func fn first cap) w:=λ_ _ _ _=>rfl
 have p:=Z hn;obtain⟨h,g,go,cap,j,k',rfl⟩:=hn.form;have F:∃W,W=w.alloc (.cells #[.bool h,.slice (g,go) j cap,k'] 99)/\zP w W/\W.heap.size=(w:Nat)+1/\NR W (w:Nat) (.agg #[.bool h,.slice (g,go) j cap,k'])/\(w.alloc (.cells #[.bool h,.slice (g,go) j cap,k'] 99)).cell? (pl,0)=some (.slice a Ts.length c) :=
  ⟨_,rfl,(zv _ _).alloc (Y _) _,zZ,⟨zZ,_,_,_,rfl,uU,uU,uU⟩,AF⟩
 obtain⟨W,q,b,hs,d,t⟩:=F;have k:=Hj Ts a c (w:Nat) _ x lo hi W r (l.keep (vu b f f) (Y _) (Y _)) J (p.o.below b) d;have n:=Z k;clear k l hn d;go_enter func161,ntmps161;go_wp2_with fail;rw[<-q];refine n.o.mono ?_;rintro e w1 ⟨rfl,hb⟩;have i:zP w w1:=b.trans (hb.mono J);go_wp2;go_ret;exact⟨rfl,i⟩
def Sj(Ts:List gj)(a:Option yM)(c:Nat)(lo:Nat)(w:z8)(i:Ts.length<=1000000)(b:lo<=(w:Nat))(g:Zo lo (w:Nat) w a Ts) :
  zC Tryz.prog 124 #[.slice a Ts.length c] w λe w'=>(∃v,e = .returned v/\j8 lo w'.heap.size w' v (Zi Ts))/\zP w w':=by
 have j:∀(fn:Fn) (first cap:Array Value) (w:z8),(uV fn first cap).run Tryz.prog w = .ok (.func fn first cap) w:=λ_ _ _ _=>rfl
 have h:=Z g;clear g;go_enter func124,ntmps124;go_wp2;go_ret;have hb:yD w w (w.alloc (.cells #[.slice a Ts.length c] 290)):=(zv _ _).alloc (Y _) _;refine⟨⟨_,rfl,161,_,rfl,λargs w=>enters_of func161 yq rfl args w,λW d k x hx=>?_⟩,hb⟩;have f:xh lo w.heap.size w W:=d.via (vu hb (Y _) (Y _)) (Y _) hb.size;refine sK Ts a c _ k x lo w.heap.size W i (h.o.keep f (Y _) (Y _)) f.1 hx ((d.cell b zZ).trans uU)
def yk6{x:Dg}(h:k<Ts.length)(a:Ts[k] x=false):allT Ts x=false:=by
 unfold allT;rw[List.all_eq_false];exact⟨Ts[k],yf h,by simp[a]⟩
def sJ{x:Dg}(h:k<Ts.length)(h0:allT (Ts.take k) x=true)(a:Ts[k] x=true):allT (Ts.take (k+1)) x=true:=by
 unfold allT at *;rw[yj h,uJ,h0];simp[a]
def zlf(Ts:List gj)(a:Option yM)(c:Nat)(pl:Nat)(L:Value)(x:Dg)(lo hi:Nat)(w:z8)(hl:Ts.length<=1000000)(I:Zo lo hi w a Ts)(u:hi<=(w:Nat))(hn:uh w L x)(hc:zu w pl 0 (.slice a Ts.length c)) :
  zC Tryz.prog 164 #[L,(pl,0)] w λe w'=>e = .returned (.bool (allT Ts x))/\zP w w':=by
 have O:=Z hn;obtain⟨A,g,go,cap,D,k',rfl⟩:=hn.form;have F:∃W,W=w.alloc (.cells #[.bool A,.slice (g,go) D cap,k'] 99)/\zP w W/\W.heap.size=(w:Nat)+1/\NR W (w:Nat) (.agg #[.bool A,.slice (g,go) D cap,k'])/\(w.alloc (.cells #[.bool A,.slice (g,go) D cap,k'] 99)).cell? (pl,0)=some (.slice a Ts.length c) :=
  ⟨_,rfl,(zv _ _).alloc (Y _) _,zZ,⟨zZ,_,_,_,rfl,uU,uU,uU⟩,AF⟩
 obtain⟨W,G,m,hs,s,Q⟩:=F;have P:=Z (I.keep (vu m u u) (Y _) (Y _));have y:=Z (O.o.below m);have j:hi<=(W:Nat):=J;clear I hn;go_enter func164,ntmps164;go_wp2_with fail;rw[<-G];clear G Q hc;obtain⟨B,hB⟩:∃B,B=(w:Nat):=⟨_,rfl⟩;rw[<-hB]at s|-;have M:=Z hB;clear hB;go_loopw [8] (λi wr=>∃k:Nat,k<=Ts.length/\i = .int .i64 k/\allT (Ts.take k) x=true/\zP W wr) (λi _=>Ts.length - (intOf i).toNat)
 case atStart=>exact⟨0,zQ _,rfl,rfl,zv _ _⟩
 case round =>
  obtain⟨k,V,rfl,p,d⟩:=hrel;have z:=Z p;clear p;have f:zP w wr:=m.trans (d.mono J);by_cases n:k<Ts.length
  .obtain⟨b,v,rfl,hc,h1,h2,E⟩:=P.o k n;have S:wr.cell? (b.add k)=some v:=(by rw[d.cell (X W _ hc)];exact hc);have C:=vu (lo:=lo) d j j;obtain⟨K,U,rfl,H,h⟩:=E.keep C (Y _) (Y _);have t:=h wr (vK (zj j d.size)) _ x (y.o.below d);have N:=Z t;obtain⟨_,T,ss,kk,R,c0,c1,c2⟩:=s.below d;cases R;clear hc h t E;go_wp2_with fail;refine N.o.mono ?_;rintro e w1 ⟨rfl,q⟩;have OB:=d.trans (q.mono d.size);have r:zP w w1:=f.trans (q.mono f.size);cases l:Ts[k] x
   .have HF:=Z (yk6 n l);clear l;go_wp2;go_ret;exact⟨gK,r⟩
   .have HF:=Z (sJ n z.o l);clear l;exact Ad
  .obtain rfl:k=Ts.length:=(by omega);have p:=z.o;rw[fE]at p;have HF:=Z p;clear p z;go_wp2;go_ret;exact⟨gK,f⟩
def yk7(Ts:List gj)(a:Option yM)(c:Nat)(lo:Nat)(w:z8)(i:Ts.length<=1000000)(b:lo<=(w:Nat))(g:Zo lo (w:Nat) w a Ts) :
  zC Tryz.prog 126 #[.slice a Ts.length c] w λe w'=>(∃v,e = .returned v/\j8 lo w'.heap.size w' v (allT Ts))/\zP w w':=by
 have j:∀(fn:Fn) (first cap:Array Value) (w:z8),(uV fn first cap).run Tryz.prog w = .ok (.func fn first cap) w:=λ_ _ _ _=>rfl
 have h:=Z g;clear g;go_enter func126,ntmps126;go_wp2;go_ret;have hb:yD w w (w.alloc (.cells #[.slice a Ts.length c] 290)):=(zv _ _).alloc (Y _) _;refine⟨⟨_,rfl,164,_,rfl,λargs w=>enters_of func164 yq rfl args w,λW d k x hx=>?_⟩,hb⟩;have f:xh lo w.heap.size w W:=d.via (vu hb (Y _) (Y _)) (Y _) hb.size;refine zlf Ts a c _ k x lo w.heap.size W i (h.o.keep f (Y _) (Y _)) f.1 hx ((d.cell b zZ).trans uU)
def ZK{F:Dg->Dg}(he:∀args w,(callFunc k args).run Tryz.prog w = .ok (.enter k args) w)(h:∀v x w,uh w v x->zC Tryz.prog k #[v] w (kW (F x) w))(lo hi:Nat)(w:z8):OpR lo hi w (.func (.func k) #[] #[]) F :=
 ⟨k,#[],rfl,he,λW _ a x hx=>h a x W hx⟩
def zld(r:Option (Dg->Dg))(w:z8)(e:xU)(w':z8):Prop :=
 (match r with|none=>e = .returned .nilFunc|some F=>∃v,e = .returned v/\∀lo hi W,OpR lo hi W v F)/\w=w'
def NS(c:ByteArray)(w:z8):zC Tryz.prog 165 #[.string c] w (zld (uI c.data.toList) w):=by
 have a:=pT c;by_cases h1:c.data.toList=[110]
 .have hf:uI c.data.toList=some (λx=>x):=by unfold uI;rw[yV h1]
  rw[hf];have q1:(c.toList==[110])=true:=by rw[a,h1];decide
  clear a h1 hf;go_enter func165,ntmps165;go_wp2;go_ret;exact⟨⟨_,rfl,ZK (λargs w=>enters_of func200 yq rfl args w) (λv x w h=>yu5 v x w h)⟩,rfl⟩
 have q1:(c.toList==[110])=false:=by rw[a];simpa using h1
 by_cases h2:c.data.toList=[105]
 .have hf:uI c.data.toList=some (λx=>(gq x.1,[])):=by unfold uI;rw[yz h1,yV h2]
  rw[hf];have q2:(c.toList==[105])=true:=by rw[a,h2];decide
  clear a h1 h2 hf;go_enter func165,ntmps165;go_wp2;go_ret;exact⟨⟨_,rfl,ZK (λargs w=>enters_of func201 yq rfl args w) (λv x w h=>vax v x w h)⟩,rfl⟩
 have q2:(c.toList==[105])=false:=by rw[a];simpa using h2
 by_cases b:c.data.toList=[118]
 .have hf:uI c.data.toList=some (λx=>(xd x.2.length,[])):=by unfold uI;rw[yz h1,yz h2,yV b]
  rw[hf];have g:(c.toList==[118])=true:=by rw[a,b];decide
  clear a h1 h2 b hf;go_enter func165,ntmps165;go_wp2;go_ret;exact⟨⟨_,rfl,ZK (λargs w=>enters_of func203 yq rfl args w) (λv x w h=>vay v x w h)⟩,rfl⟩
 have g:(c.toList==[118])=false:=by rw[a];simpa using b
 by_cases d:c.data.toList=[119]
 .have hf:uI c.data.toList=some (λx=>(xd (uP x.2).length,[])):=by unfold uI;rw[yz h1,yz h2,yz b,yV d]
  rw[hf];have i:(c.toList==[119])=true:=by rw[a,d];decide
  clear a h1 h2 b d hf;go_enter func165,ntmps165;go_wp2;go_ret;exact⟨⟨_,rfl,ZK (λargs w=>enters_of func204 yq rfl args w) (λv x w h=>vav v x w h)⟩,rfl⟩
 have i:(c.toList==[119])=false:=by rw[a];simpa using d
 by_cases e:c.data.toList=[102]
 .have hf:uI c.data.toList=some (λx=>(gq x.2,[])):=by unfold uI;rw[yz h1,yz h2,yz b,yz d,yV e]
  rw[hf];have j:(c.toList==[102])=true:=by rw[a,e];decide
  clear a h1 h2 b d e hf;go_enter func165,ntmps165;go_wp2;go_ret;exact⟨⟨_,rfl,ZK (λargs w=>enters_of func206 yq rfl args w) (λv x w h=>vau v x w h)⟩,rfl⟩
 have j:(c.toList==[102])=false:=by rw[a];simpa using e
 by_cases f:c.data.toList=[116]
 .have hf:uI c.data.toList=some (λx=>(gq (uP x.2),[])):=by unfold uI;rw[yz h1,yz h2,yz b,yz d,yz e,yV f]
  rw[hf];have k:(c.toList==[116])=true:=by rw[a,f];decide
  clear a h1 h2 b d e f hf;go_enter func165,ntmps165;go_wp2;go_ret;exact⟨⟨_,rfl,ZK (λargs w=>enters_of func207 yq rfl args w) (λv x w h=>vaq v x w h)⟩,rfl⟩
 have k:(c.toList==[116])=false:=by rw[a];simpa using f
 have hf:uI c.data.toList=none:=by unfold uI;rw[yz h1,yz h2,yz b,yz d,yz e,yz f]
 rw[hf];clear a h1 h2 b d e f hf;go_enter func165,ntmps165;exact DA
def Sg{p:yM}{u0 u1 u2:Value}(h:W.cell? p=some v)(hp:p.block≠q):(((W.setCell (q,0) u0).setCell (q,1) u1).setCell (q,2) u2).cell? p=some v:=by
 refine(yE ?_).trans h;rw[yZ _ _ _ _ hp,yZ _ _ _ _ hp,yZ _ _ _ _ hp]
def zk5(nv:Value)(x:Dg)(s pm:Nat)(wv:Value)(m:Nat)(F:Dg->Dg)(lo hi:Nat)(w:z8)(hn:uh w nv x)(hm:m<=1000000000)(R:0<m)(cw:zu w s 0 wv)(L:zu w pm 0 m)(hw:OpR lo hi w wv F)(z:hi<=(w:Nat)) :
  zC Tryz.prog 167 #[nv,(s,0),(pm,0)] w (kW (oL F m x) w):=by
 have HN:=Z hn;obtain⟨b,g,go,cap,D,k',rfl⟩:=hn.form;obtain⟨i,f⟩:=bd w (.cells #[.bool b,.slice (g,go) D cap,k'] 99);have F0:∃W,W=(w.alloc (.cells #[.bool b,.slice (g,go) D cap,k'] 99)).alloc (.cells #[.bool false,.slice none 0 0,.int .i64 0] 99)/\zu W (w:Nat) 0 (.bool b)/\zu W (w:Nat) 1 (.slice (g,go) D cap)/\W.cell? (w,2)=some (.int .i64 k') :=
  ⟨_,rfl,uU,uU,uU⟩
 obtain⟨W,Q,d0,d1,d2⟩:=F0;rw[<-Q]at i f;have P:=(i.cell (p:=(zU s 0)) (X w _ cw)).trans cw;have O:=(i.cell (p:=(zU pm 0)) (X w _ L)).trans L;obtain⟨I,M,rfl,ot,q⟩:=hw.keep (vu i z z) (Y _) (Y _);have HC:=Z (q W.drew (show xh lo hi W W.drew from vK (zj z i.size)) _ x (HN.o.below i.drew));have T:=X w _ cw;have S:=X w _ L;dsimp only at T S;clear q hn cw L;go_enter func167,ntmps167;go_wp2_with fail;rw[<-Q];clear Q;obtain⟨B,hB⟩:∃B,B=(w:Nat):=⟨_,rfl⟩;rw[<-hB]at d0 d1 d2 f|-;have HB:=Z hB;clear hB;have E:zu W.drew B 0 (.bool b)/\zu W.drew B 1 (.slice (g,go) D cap)/\zu W.drew B 2 k'/\zu W.drew s 0 (.func (.func I) #[] M)/\zu W.drew pm 0 m:=⟨d0,d1,d2,P,O⟩;refine qs (λW':z8=>zu W' B 0 (.bool b)/\zu W' B 1 (.slice (g,go) D cap)/\zu W' B 2 k'/\zu W' s 0 (.func (.func I) #[] M)/\zu W' pm 0 m)
  [0,1,3] 3 ZR yq yq E ?_
 (iterate 3 ((first|refine ty ?_|refine tn ?_);try simp only[pl]))
 refine yS ?_;refine gX 2 (λK hK=>?_);go_simp;refine HC.o.mono ?_;rintro e w1 ⟨⟨v1,rfl,A⟩,t⟩;have a:∀{p:yM} {u:Value},W.cell? p=some u->w1.cell? p=some u:=λ{p u} h=>(t.cell (X W p h)).trans h
 have j:zu w1 B 0 (.bool b)/\zu w1 B 1 (.slice (g,go) D cap)/\zu w1 B 2 k'/\zu w1 s 0 (.func (.func I) #[] M)/\zu w1 pm 0 m:=⟨a d0,a d1,a d2,a P,a O⟩;have H:=(show bM W.drew (B+1) from⟨f.c0,f.c1,f.c2,f.z0,f.z1,f.z2,f.lt⟩).below t;have r:zP w w1:=i.drew.trans (t.mono i.size);refine hK.out _ _ j λ_=>?_;clear hK K E a d0 d1 d2 P O;have HM:=Z (yk4 v1 (F x) m w1 A hm R);obtain⟨b1,g1,go1,U,n1,k1,rfl⟩:=A.form;clear A;refine gX 4 (λK hK=>?_);go_simp;refine HM.o.mono ?_;rintro e w2 ⟨⟨v2,rfl,C⟩,y⟩;have a:∀{p:yM} {u:Value},w1.cell? p=some u->w2.cell? p=some u:=λ{p u} h=>(y.cell (X w1 p h)).trans h
 have n:zu w2 B 0 (.bool b)/\zu w2 B 1 (.slice (g,go) D cap)/\zu w2 B 2 k'/\zu w2 s 0 (.func (.func I) #[] M)/\zu w2 pm 0 m:=⟨a j.1,a j.2.1,a j.2.2.1,a j.2.2.2.1,a j.2.2.2.2⟩;have k:=H.below y;have G:zP w w2:=r.trans (y.mono r.size);refine hK.out _ _ n λ_=>?_;clear hK K a j H;have N:=Z C;obtain⟨b2,g2,l,c,n2,k2,rfl⟩:=C.form;clear C;have c0:=k.c0;have c1:=k.c1;have c2:=k.c2;have z0:=k.z0;have z1:=k.z1;have z2:=k.z2;refine gX 5 (λK hK=>?_);go_simp;have oB:=HB.o;have V:=Sg (u0 := .bool b2) (u1 := .slice (g2,l) n2 c) (u2 := .int .i64 k2) n.1 (show B≠B+1 by omega);have e1:=Sg (u0 := .bool b2) (u1 := .slice (g2,l) n2 c) (u2 := .int .i64 k2) n.2.1 (show B≠B+1 by omega);have e2:=Sg (u0 := .bool b2) (u1 := .slice (g2,l) n2 c) (u2 := .int .i64 k2) n.2.2.1 (show B≠B+1 by omega);have e3:=Sg (u0 := .bool b2) (u1 := .slice (g2,l) n2 c) (u2 := .int .i64 k2) n.2.2.2.1 (show s≠B+1 by omega);have e4:=Sg (u0 := .bool b2) (u1 := .slice (g2,l) n2 c) (u2 := .int .i64 k2) n.2.2.2.2 (show pm≠B+1 by omega);refine hK.out _ _ ⟨V,e1,e2,e3,e4⟩ λ_=>?_;clear hK K V e1 e2 e3 e4;refine Y3 ?_ _;go_wp2;refine yK (v := .agg #[.bool b2,.slice (g2,l) n2 c,k2]) ?_ rfl ?_
 .simp[yN,results167,go_sem,c0,c1,c2]
 exact Gd (w:=w) N.o k J G
def PJ(nv:Value)(x:Dg)(pi po s:Nat)(V ov:Value)(v:Bool)(T:gj)(F:Dg->Dg)(lo hi:Nat)(w:z8)(hn:uh w nv x)(L:zu w pi 0 V)(co:zu w po 0 ov)(cn:zu w s 0 (.bool v))(hI:j8 lo hi w V T)(hO:OpR lo hi w ov F)(j:hi<=(w:Nat)) :
  zC Tryz.prog 170 #[nv,(pi,0),(po,0),(s,0)] w λe w'=>e = .returned (.bool (T (F x) !=v))/\zP w w':=by
 have HN:=Z hn;obtain⟨b,g,go,cap,t,k',rfl⟩:=hn.form;have F0:∃W,W=w.alloc (.cells #[.bool b,.slice (g,go) t cap,k'] 99)/\zP w W/\zu W (w:Nat) 0 (.bool b)/\zu W (w:Nat) 1 (.slice (g,go) t cap)/\W.cell? (w,2)=some (.int .i64 k') :=
  ⟨_,rfl,(zv _ _).alloc (Y _) _,uU,uU,uU⟩
 obtain⟨W,S,c,d0,d1,d2⟩:=F0;have M:=(c.cell (p:=(zU pi 0)) (X w _ L)).trans L;have N:=(c.cell (p:=(zU po 0)) (X w _ co)).trans co;have en:=(c.cell (p:=(zU s 0)) (X w _ cn)).trans cn;obtain⟨E,H,rfl,U,k⟩:=hO.keep (vu c j j) (Y _) (Y _);have HC:=Z (k W.drew (show xh lo hi W W.drew from vK (zj j c.size)) _ x (HN.o.below c.drew));obtain⟨G,l,rfl,O,i⟩:=hI.keep (vu c j j) (Y _) (Y _);have I:=Z i;clear k i hn L co cn;go_enter func170,ntmps170;go_wp2_with fail;rw[<-S];clear S;obtain⟨B,hB⟩:∃B,B=(w:Nat):=⟨_,rfl⟩;rw[<-hB]at d0 d1 d2|-;have HB:=Z hB;clear hB;have y:zu W.drew B 0 (.bool b)/\zu W.drew B 1 (.slice (g,go) t cap)/\zu W.drew B 2 k'/\zu W.drew pi 0 (.func (.func G) #[] l)/\zu W.drew po 0 (.func (.func E) #[] H)/\zu W.drew s 0 (.bool v):=⟨d0,d1,d2,M,N,en⟩;refine qs (λW':z8=>zu W' B 0 (.bool b)/\zu W' B 1 (.slice (g,go) t cap)/\zu W' B 2 k'/\zu W' pi 0 (.func (.func G) #[] l)/\zu W' po 0 (.func (.func E) #[] H)/\zu W' s 0 (.bool v))
  [0,1,2,5] 4 ZR yq yq y ?_
 (iterate 4 ((first|refine ty ?_|refine tn ?_);try simp only[pl]))
 refine yS ?_;refine gX 3 (λK hK=>?_);go_simp;refine HC.o.mono ?_;rintro e w1 ⟨⟨v1,rfl,q⟩,n⟩;have a:∀{p:yM} {u:Value},W.cell? p=some u->w1.cell? p=some u:=λ{p u} h=>(n.cell (X W p h)).trans h
 have f:zu w1 B 0 (.bool b)/\zu w1 B 1 (.slice (g,go) t cap)/\zu w1 B 2 k'/\zu w1 pi 0 (.func (.func G) #[] l)/\zu w1 po 0 (.func (.func E) #[] H)/\zu w1 s 0 (.bool v):=⟨a d0,a d1,a d2,a M,a N,a en⟩;have m:zP w w1:=c.drew.trans (n.mono c.size);have D:hi<=(W:Nat):=zj j c.size;have P:xh lo hi W w1:=vu (w:=W.drew) n D D;refine hK.out _ _ f λ_=>?_;clear hK K y a d0 d1 d2 M N en;have Q:=Z (I.o w1 P v1 (F x) q);obtain⟨b1,g1,go1,R,n1,k1,rfl⟩:=q.form;clear q;refine gX 4 (λK hK=>?_);go_simp;refine Q.o.mono ?_;rintro e w2 ⟨rfl,A⟩;have a:∀{p:yM} {u:Value},w1.cell? p=some u->w2.cell? p=some u:=λ{p u} h=>(A.cell (X w1 p h)).trans h
 have z:zu w2 B 0 (.bool b)/\zu w2 B 1 (.slice (zU g go) t cap)/\zu w2 B 2 k'/\zu w2 pi 0 (.func (.func G) #[] l)/\zu w2 po 0 (.func (.func E) #[] H)/\zu w2 s 0 (.bool v):=⟨a f.1,a f.2.1,a f.2.2.1,a f.2.2.2.1,a f.2.2.2.2.1,a f.2.2.2.2.2⟩;have C:zP w w2:=m.trans (A.mono m.size);refine hK.out _ _ z λ_=>?_;clear hK K a f;obtain⟨r,hr⟩:=zr (T (F x));rw[hr];have HR:=Z hr;clear Q hr;refine VO [6,7] 0 z ?_;refine Y3 ?_ _;go_wp2;go_ret;exact⟨by rw[HR.o];rfl,C⟩
def bX(c:UInt8)(w:z8):zC Tryz.prog 159 #[.int .u8 c.toNat] w λe w'=>e = .returned (.int .i64 (yi c))/\w=w':=by
 have b:=c.toNat_lt;obtain⟨n,hn⟩:∃n,n=c.toNat:=⟨_,rfl⟩;obtain⟨r,hr⟩:=zr (yi c);rw[hr];unfold yi at hr;rw[<-hn]at b hr|-;by_cases h1:97<=n/\n<=122
 .rw[yV h1]at hr;subst hr;have a1:decide ((97:Int)<=(n:Int))=true:=by simp;omega
  have a2:decide ((n:Int)<=(122:Int))=true:=yJ;exact iQ
 .rw[yz h1]at hr;by_cases h2:48<=n/\n<=57
  .rw[yV h2]at hr;subst hr;exact iQ
  .rw[yz h2]at hr;by_cases a:n=32
   .rw[yV a]at hr;subst hr;subst a;exact iQ
   .rw[yz a]at hr;subst hr;have a3:((n:Int)==32)=false:=(by simp;omega);exact iQ
variable{ws:List Wd}{p:Nat}{x:Wd}
def xI.keep(h:xI p w w')(hp:p<lo)(hi':hi<=(w:Nat)):xh lo hi w w' :=
 ⟨zj hi' h.size,λk h1 h2=>h.block k J J⟩
def NW(w:z8)(k:Nat):Prop:=∃cs fr,w.heap[k]? = some (.cells cs 9 fr)
def NW.of(h:NW w k)(he:w'.heap[k]? = w.heap[k]?):NW w' k:=by
 obtain⟨cs,fr,h⟩:=h;exact⟨cs,fr,he.trans h⟩
def dF(w:z8)(p:Nat)(ws:List Wd):Prop :=
 ∃a cap,zu w p 0 (.slice a ws.length cap)/\w.frozen? (p,0)=false/\ws.length<=cap/\cap<=maxLen/\∀j (h:j<ws.length),∃b,a=some b/\(b.block≠p/\NW w b.block)/\w.cell? (b.add j)=some (zM ws[j])
def dF.lt(h:dF w p ws):p<(w:Nat):=by
 obtain⟨a,cap,hc,_⟩:=h;exact X w _ hc
def dF.below(h:dF w p ws)(hb:zP w w'):dF w' p ws:=by
 have c:=h.lt;obtain⟨a,cap,hc,hf,h1,h2,i⟩:=h;refine⟨a,cap,(hb.cell c).trans hc,(hb.frozen c).trans hf,h1,h2,λj k=>?_⟩;obtain⟨b,g,e,d⟩:=i j k;have f:=X w _ d;rw[addr_add]at f;exact⟨b,g,⟨e.1,e.2.of (hb.block _ f)⟩,(hb.cell (X w _ d)).trans d⟩
def dF.pass{b:yM}{t:List Wd}(hf:w.frozen? (p,0)=false)(hc:zu w p 0 (.slice (some b) (t.length+1) cap))(h1:t.length+1<=cap)(h2:cap<=maxLen)(hb:b.block≠p/\NW w b.block)(hw:∀j (h:j<(x::t).length),w.cell? (b.add j)=some (zM (x::t)[j])) :
  dF (w.setCell (p,0) (.slice (some (b.add 1)) t.length (cap - 1))) p t:=by
 refine⟨some (b.add 1),cap - 1,by rw[uX (h:=hc)],MN,J,J,λj a=>⟨b.add 1,rfl,by rw[addr_add];exact⟨hb.1,hb.2.of (yZ _ _ _ _ hb.1)⟩,?_⟩⟩;have:=hw (j+1) yJ;rw[add_add,Nat.add_comm 1 j,yC (h:=λe=>hb.1 (by rw[<-addr_add b (j+1),<-e]))];simpa using this
def dF.last{b:yM}(hf:w.frozen? (p,0)=false)(hc:zu w p 0 (.slice (some b) n cap)) :
  dF (w.setCell (p,0) (.slice (some b) 0 0)) p [] :=
 ⟨some b,0,by rw[uX (h:=hc)];rfl,MN,Y _,zQ _,λj a=>absurd a (KV j)⟩
def CE(ms:List Wd)(ws:List Wd):Bool:=ms.any (λm=>Yr m ws)
def xzx(p:Nat)(ms ws:List Wd)(w:z8)(e:xU)(w':z8):Prop :=
 e = .returned (.bool (CE ms ws))/\dF w' p (if CE ms ws then ws.tail else ws)/\xI p w w'/\(w':Nat)=(w:Nat)
def yk8{a:List Wd}(h:k<a.length)(b:Yr a[k] ws=true):CE a ws=true:=vq2.2 ⟨a[k],yf h,b⟩
def Ih{a:List Wd}(h:k<a.length)(h0:CE (a.take k) ws=false)(hT:Yr a[k] ws=false):CE (a.take (k+1)) ws=false:=by
 unfold CE at *;exact zuk
def zlb(p:Nat)(e ws:List Wd)(v:Value)(w:z8)(hp:dF w p ws)(hm:XT w v e)(L:e.length<=1000) :
  zC Tryz.prog 160 #[(p,0),v] w (xzx p e ws w):=by
 have A:=Z hp;obtain⟨a,cap,hc,hf,h1,h2,u⟩:=hp;obtain⟨a2,s,rfl,M,N,O,y⟩:=hm;have z:=Z y;have r:=Z u;clear y u;have hmx:cap<=9223372036854775807:=Lr;go_enter func160,ntmps160;go_wp2;go_loop [9] (λi=>∃k:Nat,k<=e.length/\i = .int .i64 k/\CE (e.take k) ws=false) (λi=>e.length - (intOf i).toNat)
 case atStart=>exact⟨0,zQ _,rfl,rfl⟩
 case round =>
  obtain⟨k,K,rfl,h⟩:=hrel;have n:=Z h;clear h;by_cases g:k<e.length
  .obtain⟨b2,rfl,D⟩:=z.o k g;obtain c|⟨x,t,c⟩:ws=[]\/∃x t,ws=x::t:=by
    cases ws with
    |nil=>exact .inl rfl
    |cons x t=>exact .inr ⟨x,t,rfl⟩
   .have m:Yr e[k] ws=false:=(by rw[c];rfl);have HF:=Z (Ih g n.o m);rw[c]at hc;clear m c;exact zfv
   .obtain⟨b,rfl,hb,hx⟩:=r.o 0 (by rw[c];simp);have H:w.cell? b=some (zM x):=by
     have:(b.add 0)=b:=(by simp[bW]);rw[this]at hx;rw[hx];simp[c]
    have f:=RQ e[k] x t;have d:ws.length=t.length+1:=(by rw[c];rfl);rw[d]at hc h1;clear hx;cases m:(x==e[k])
    .have HF:=Z (Ih g n.o (by rw[c,f,m]));have l:=Z c;clear f c d;exact zfv
    .have HF:=Z (yk8 (ws:=ws) g (by rw[c,f,m]));have l:=Z c;clear f c d;by_cases q:cap=1
     .have G:t=[]:=zN J;subst G;subst q;go_wp2;go_ret;refine⟨by rw[HF.o];rfl,?_,xI.set p w 0 _,ZH⟩;rw[yV HF.o,l.o];exact dF.last hf hc
     .have F:¬(cap:Int)=1:=(by omega);go_wp2;go_ret;refine⟨gK,?_,xI.set p w 0 _,ZH⟩;rw[yV HF.o,l.o];refine dF.pass hf hc h1 h2 hb (x:=x) (λj E=>?_);obtain⟨I,B,_,C⟩:=r.o j (by rw[l.o];exact E);cases B;rw[C];simp[l.o]
  .obtain rfl:k=e.length:=(by omega);have h:=n.o;rw[fE]at h;have HF:=Z h;clear h n;go_wp2;go_ret;refine⟨gK,?_,xI.refl _ _,rfl⟩;rw[HF.o];exact A.o
structure RT(p:Nat)(w:z8):Prop where
 s:∃t v,zu w 8 0 (.iface t v)
 r:∃t v,zu w 9 0 (.iface t v)
 ns:8≠p
 nr:9≠p
def RT.but(h:RT p w)(hb:xI p w w'):RT p w':=by
 obtain⟨⟨t,v,hs⟩,⟨t2,v2,hr⟩,h1,h2⟩:=h;exact⟨⟨t,v,hb.cell hs h1⟩,⟨t2,v2,hb.cell hr h2⟩,h1,h2⟩
structure NA(x:Wd):Prop where
 ne:x≠[]
 len:x.length<=1000
 form:x.all yG=true\/yG (x.headD 0)=false
def FC:∀(l:List UInt8) (acc:Nat),l.all yG=true->yf9 acc l=some (l.foldl (λv c=>10*v+(c.toNat - 48)) acc)
 |[],_,_=>rfl
 |c::t,acc,h=>by
  simp only[vh,zx]at h;have hc:=(xr c).1 h.1;rw[yf9,Lib.digitVal,yV J];dsimp only;rw[FC t _ h.2,vB,dY acc 10]
def zm0(h:l.all yG=true)(hn:l≠[]):Lib.atoi l=some (Z8 l:Int):=by
 cases l with
 |nil=>exact absurd rfl hn
 |cons c t =>
  have hd:=h;simp only[vh,zx]at hd;have hc:=(xr c).1 hd.1;have b:(c==45)=false:=Mf;have a:(c==43)=false:=Mf;rw[Lib.atoi,b,a];simp only[Vx,if_false,Lib.decNat];rw[yz zZ,FC _ 0 h];rfl
def below_bytesWorld(w:z8)(e:xm)(t:ByteArray):yD w w (Lib.bytesWorld w e t):=Lib.bytesWorld_below _ _ _
def Sf(p:Nat)(s:ByteArray)(w:z8)(hs:s.size<=1000)(a:RT p w) :
  zC Tryz.prog 143 #[.string s] w λe w'=>(∃v ev,e = .returned (.tuple #[.int .i64 v,ev])/\(ev = .nilIface\/∃N,ev = .iface 337 (.pointer (some N))))/\zP w w':=by
 obtain⟨⟨t,v,hS⟩,⟨t2,v2,hR⟩,_,_⟩:=a;cases h:Fv s.data.toList with
 |ok n =>
  refine(Tryz.strconv_Atoi_ok s J n h w).mono ?_;rintro e w' ⟨rfl,rfl|⟨t,rfl⟩⟩
  .exact⟨⟨_,_,rfl,.inl rfl⟩,zv _ _⟩
  .exact⟨⟨_,_,rfl,.inl rfl⟩,below_bytesWorld _ _ _⟩
 |range =>
  refine(Tryz.strconv_Atoi_range s J h _ w hR (.inr ⟨_,_,rfl⟩)).mono ?_;exact zjd
 |_ =>
  refine(Tryz.strconv_Atoi_none s J (λv q=>by rw[h]at q;cases q) (λq=>by rw[h]at q;cases q) _ w hS (.inr ⟨_,_,rfl⟩)).mono ?_;exact zjd
def zm1(s:ByteArray)(w:z8)(hs:s.size<=9)(hd:s.data.toList.all yG=true)(hn:s.data.toList≠[]) :
  zC Tryz.prog 143 #[.string s] w λe w'=>e = .returned (.tuple #[.int .i64 (Z8 s.data.toList),.nilIface])/\zP w w':=by
 refine(Tryz.strconv_Atoi s (Z8 s.data.toList) J (zm0 hd hn) w).mono ?_;rintro e w' ⟨rfl,t,rfl⟩;exact⟨rfl,below_bytesWorld _ _ _⟩
abbrev Na:xU := .panicked [{ v := .iface 259 (.agg #[]),recovered:=false }]
def xzv(p:Nat)(r:Option (Nat×List Wd))(w:z8)(e:xU)(w':z8):Prop :=
 (match r with|none=>e=Na|some (v,t)=>e = .returned v/\dF w' p t)/\xI p w w'
def yk9(hd:x.all yG=true)(hn:x≠[]):Bi x=(decide (x.length<=9) && (decide (x.length=1) ||decide (x.headD 0≠48))):=by
 unfold Bi uf;rw[hd];cases x with
 |nil=>exact absurd rfl hn
 |cons c t=>simp
def X8(c:UInt8):(yi c=2) ↔ yG c=true:=by
 rw[xr];unfold yi;split
 .exact M7
 split
 .exact M7
 split
 .exact M7
 .exact M7
def cr(p:Nat)(w:z8)(hp:dF w p []):zC Tryz.prog 166 #[(p,0)] w (xzv p none w):=by
 obtain⟨a,cap,hc,hf,h1,h2,b⟩:=hp;clear b;go_enter func166,ntmps166;go_wp2;exact⟨rfl,rfl,xI.refl _ _⟩
def dF.step{b:yM}{t:List Wd}(h:dF w p (x::t))(hc:zu w p 0 (.slice (some b) (t.length+1) cap)) :
  dF (w.setCell (p,0) (.slice (some (b.add 1)) t.length (cap - 1))) p t/\(t=[]->dF (w.setCell (p,0) (.slice (some b) 0 0)) p t):=by
 obtain⟨a,e,c,hf,h1,h2,f⟩:=h;rw[hc]at c;cases c;obtain⟨g,d,i,_⟩:=f 0 zZ;cases d;refine⟨dF.pass hf hc (by simpa using h1) h2 i (x:=x) (λj l=>?_),λm=>?_⟩
 .obtain⟨g,d,_,k⟩:=f j l;cases d;exact k
 .subst m;exact dF.last hf hc
def ey(c:UInt8)(t:List UInt8)(h:0<(vO (c::t).toArray).size):(vO (c::t).toArray)[0]=c:=WT
def Sd(p:Nat)(c:UInt8)(f:List UInt8)(t:List Wd)(w:z8)(hp:dF w p ((c::f)::t))(hx:NA (c::f))(R:RT p w) :
  zC Tryz.prog 166 #[(p,0)] w (xzv p (gG ((c::f)::t)) w):=by
 have HP:=Z hp;have HX:=Z hx;have P:=Z R;have C:=hp.lt;obtain⟨a,cap,hc,hf,h1,h2,Q⟩:=hp;obtain⟨b,rfl,hb,il⟩:=Q 0 zZ;have E:w.cell? b=some (zM (c::f)):=zg6;have hmx:cap<=9223372036854775807:=Lr;have u:((c::f)::t).length=t.length+1:=rfl;rw[u]at hc h1;obtain⟨r,hr⟩:=zr (gG ((c::f)::t));rw[hr];have F:=Z hr;obtain⟨s,hs⟩:∃s:ByteArray,s=⟨(c::f).toArray⟩:=⟨_,rfl⟩;have L:0<s.size:=by rw[hs,size_mk];simp
 have k:s.size=f.length+1:=by rw[hs,size_mk];rfl
 have q:s[0]=c:=by subst hs;exact ey c f L
 have O:=hx.len;have D:s.size<=1000:=by rw[k];simpa using O
 have j:s.data.toList=c::f:=by rw[hs]
 have IQ:w.cell? b=some (.string s):=by rw[E,hs]
 clear il Q hr E hx R hs;have HG:=Z q;have T:=Z j;have U:=Z k;by_cases hd:yG c=true
 .have g:(c::f).all yG=true:=by
   rcases HX.o.form with h|h
   .exact h
   .exact absurd hd QY
  have n:yi c=2:=(X8 c).2 hd;have i:((yi c:Int) !=2)=false:=by rw[n];decide
  have d:=λW=>bX c W
  have l:=yk9 g zZ;by_cases h9:s.size<=9
  .have z:(c::f).length<=9:=(by simp;omega);rw[decide_eq_true z,gR]at l;have I:decide ((9:Int)<(s.size:Int))=false:=yJ;have HA:=Z (zm1 s w h9 (by rw[j];exact g) (by rw[j];simp));by_cases A:1<s.size/\c=48
   .have m:r=none:=by
     rw[<-F.o];have:Bi (c::f)=false:=by
      rw[l];simp[A.2];intro e;rw[e]at k;simp at k;omega
     simp[gG,this]
    subst m;have B:((s[0].toNat:Int)==48)=true:=(by rw[q,A.2];decide);have G:decide ((1:Int)<(s.size:Int))=true:=yJ;rw[<-q]at d i;have HCW:=Z d;clear n d q j hd g l A k;go_enter func166,ntmps166;go_wp2_with fail;refine HA.o.mono ?_;rintro e w1 ⟨rfl,qE⟩;go_wp2_with fail;refine(HCW.o _).mono ?_;rintro e w2 ⟨rfl,rfl⟩;go_wp2;exact⟨rfl,rfl,xI.of qE⟩
   .have y:Bi (c::f)=true:=by
     rw[l];by_cases H:f.length=0
     .simp[H]
     .have:¬c=48:=λe=>A ⟨J,e⟩
      simp[this]
    have m:r=some (Z8 (c::f),t):=by
     rw[<-F.o];simp[gG,y]
    subst m;have HSV:=Z j;rw[<-q]at d i;have HCW:=Z d;have x:∀W,zP w W->zu W p 0 (.slice (some b) (t.length+1) cap)/\W.frozen? (zU p 0)=false:=λW S=>⟨(S.cell C).trans hc,(S.frozen C).trans hf⟩
    have HPS:=Z x;have oG:¬(1<s.size/\s[0]=48):=(by rw[q];exact A);have V:=Z u;clear n d q j hd g l A y x k u;by_cases K:cap=1
    .have M:t=[]:=zN J;subst M;subst K;by_cases V4:1<s.size
     .have B:((s[0].toNat:Int)==48)=false:=zv3;have G:decide ((1:Int)<(s.size:Int))=true:=yJ;exact yd9
     .have G:decide ((1:Int)<(s.size:Int))=false:=(by simp;omega);exact yd9
    .have gM:¬(cap:Int)=1:=(by omega);by_cases V4:1<s.size
     .have B:((s[0].toNat:Int)==48)=false:=zv3;have G:decide ((1:Int)<(s.size:Int))=true:=yJ;exact ydz
     .have G:decide ((1:Int)<(s.size:Int))=false:=(by simp;omega);exact ydz
  .have m:r=none:=by
    rw[<-F.o];have:Bi (c::f)=false:=by
     rw[l,decide_eq_false yJ,oq]
    simp[gG,this]
   subst m;have I:decide ((9:Int)<(s.size:Int))=true:=yJ;have HA:=Z (Sf p s w D P.o);rw[<-q]at d i;have HCW:=Z d;clear n d q j hd g l k;exact ydg
 .have m:r=none:=by
   rw[<-F.o];have:Bi (c::f)=false:=by
    unfold Bi uf;simp[hd]
   simp[gG,this]
  subst m;have n:¬(yi c=2):=λe=>hd ((X8 c).1 e)
  have i:((yi c:Int) !=2)=true:=yJ;have HA:=Z (Sf p s w D P.o);have d:=λW=>bX c W
  rw[<-q]at d i;have HCW:=Z d;clear n d q j hd k;exact ydg
def ZP(p:Nat)(ws:List Wd)(w:z8)(hp:dF w p ws)(hx:∀x∈ws,NA x)(a:RT p w) :
  zC Tryz.prog 166 #[(p,0)] w (xzv p (gG ws) w):=by
 match ws,hp,hx with
 |[],hp,_=>exact cr p w hp
 |x::t,hp,hx =>
  have h:=hx x zZ;cases x with
  |nil=>exact absurd rfl h.ne
  |cons c b=>exact Sd p c b t w hp h a
def dm{t:List Wd}{v:Nat}(h:gG ws=some (v,t)):v<=1000000000/\(∀x∈t,x∈ws)/\t.length+1=ws.length:=by
 cases ws with
 |nil=>cases h
 |cons w u =>
  by_cases hf:Bi w=true
  .simp only[gG,hf,if_true,vA,Hi]at h;obtain⟨rfl,rfl⟩:=h;have h1:=(Fig.of hf);have h2:=lS w h1.1.dig;have a:10 ^ w.length<=10 ^ 9:=Nat.pow_le_pow_right zR h1.2;exact⟨J,λx hx=>by simp[hx],zZ⟩
  .simp[gG,hf]at h
variable{sv u:Value}{w1:z8}
def Ku:Y7 Tryz.prog 290 177 .nilFunc 1 8 :=
 ⟨underlying290,info_parts yq,rfl,zR,zR⟩
def Xn{t:xm}{z:Value}{bytes:Nat}(E:Y7 P t e z size bytes){rest:List jk}{o:jk}{a:Act}
  (q:o.guard=none) (s x:Operand) (B:o.op = .call { callee := .builtin .append,args:=#[s,x],argTypes:=#[t,t] })
  (base:Nat) (v:Value) (n:Nat) (xs:List Value) (hs:a.eval s=v) (l:w.ownsRow base e size v n xs)
  (ad:yM) (m c:Nat) (f:List Value) (hx:a.eval x = .slice (some ad) m c) (A:f.length=m*size) (k:∀j u,f[j]? = some u->w.cell? (ad.add j)=some u) (h1:∀u∈f,u.oneCell'=true)
  (p:n+m<=2147483648) (g:base<=(w:Nat))
  (h:∀v' w',w'.ownsRow base e size v' (n+m) (xs++f)->w.grownBy w' v.ownBlock->(v'.ownBlock=v.ownBlock\/v'.ownBlock=some (w:Nat))->Ek P ops Q rest (a.put o.dst v') w'):Ek P ops Q (o::rest) a w:=by
 obtain⟨i,hi,C,h2,y⟩:=E.info;have r:=E.small;refine wpList_append_own_at w q s x t B base e i z size bytes E.under hi C h2 y E.Qg E.pos v n xs hs l ad m c f hx A k h1 dO ?_ g (λv' w' a b _ d=>h v' w' a b d);exact zj (Z2 p r) zR
def YF(lo:Nat)(w:z8)(sv:Value)(Ts:List gj):Prop :=
 ∃vs:List Value,w.ownsRow lo 177 1 sv Ts.length vs /\
  ∀j (h:j<Ts.length),∃u l h',vs[j]? = some u/\lo<=l/\h'<=(w:Nat)/\(∀g,sv.ownBlock=some g->g<l\/h'<=g)/\j8 l h' w u Ts[j]
def YF.nil(lo:Nat)(w:z8):YF lo w (.slice none 0 0) []:=⟨[],xx _ _ _ _,λj h=>absurd h (KV j)⟩
def YF.form(h:YF lo w sv Ts):∃a cap,sv = .slice a Ts.length cap:=by
 obtain⟨vs,b,_⟩:=h;exact zn b
def YF.but(h:YF lo w sv Ts)(hb:xI p w w')(hp:p<lo):YF lo w' sv Ts:=by
 obtain⟨vs,c,o⟩:=h;have a:some p≠sv.ownBlock:=λe=>by have:=(c.lt p e.symm).1;omega
 refine⟨vs,c.kept (row:=some p) ⟨hb.os,hb.tape,hb.output,hb.size,λi hi hn=>hb.block i hi (λe=>hn (by rw[e]))⟩ (.inr (λe=>a e.symm)),λj n=>?_⟩;obtain⟨u,l,m,d,f,b,g,k⟩:=o j n;exact⟨u,l,m,d,f,zj b hb.size,g,k.keep (hb.keep J b) (Y _) (Y _)⟩
def YF.more{l0 h0:Nat}{a:Value}
  (s:∀j (h:j<Ts.length),∃u l h',vs[j]? = some u/\lo<=l/\h'<=(w:Nat)/\(∀g,sv.ownBlock=some g->g<l\/h'<=g)/\j8 l h' w u Ts[j]) (i:vs.length=Ts.length)
  (hT:j8 l0 h0 w u T) (f:lo<=l0) (EG:h0<=(w:Nat)) (hg0:∀g,sv.ownBlock=some g->g<l0\/h0<=g)
  (hb:zP w w1) (Z3:w1.grownBy w' sv.ownBlock) (wM:a.ownBlock=sv.ownBlock\/a.ownBlock=some (w1:Nat)) (ho:w'.ownsRow lo 177 1 a (Ts.length+1) (vs++[u])) :
  YF lo w' a (Ts++[T]):=by
 have ir:∀l h',h'<=(w:Nat)->(∀g,sv.ownBlock=some g->g<l\/h'<=g)->xh l h' w w':=zj3;have b:∀l h',h'<=(w:Nat)->(∀g,sv.ownBlock=some g->g<l\/h'<=g)->∀g,a.ownBlock=some g->g<l\/h'<=g:=zxv;refine⟨vs++[u],Dr,λj r=>?_⟩;by_cases c:j<Ts.length
 .obtain⟨x,l,h',n,o,d,m,p⟩:=s j c;exact⟨x,l,h',by rw[za J];exact n,o,zj d (zj hb.size Z3.size),b l h' d m,by rw[zzu c];exact p.keep (ir l h' d m) (Y _) (Y _)⟩
 .have e:j=Ts.length:=by simp at r;omega
  subst e;refine⟨u,l0,h0,by rw[xq J,i];simp,f,zj EG (zj hb.size Z3.size),b l0 h0 EG hg0,?_⟩;exact zf6
def YF.tests{a:Option yM}(h:YF lo w (.slice a Ts.length cap) Ts):Zo lo (w:Nat) w a Ts:=by
 obtain⟨vs,n,o⟩:=h;intro j m;obtain⟨u,l,q,e,f,d,p,i⟩:=o j m;obtain⟨g,c,hv,k,b,hc⟩:=xf n J;cases hv;refine⟨⟨g,0,none⟩,u,rfl,?_,k,b,i.keep (vK d) f d⟩;rw[vS,hc j J];exact e
def j8.one{l h:Nat}(a:j8 l h w v T):v.oneCell'=true:=by
 obtain⟨k,cap,rfl,_⟩:=a;rfl
def xm7(p:Nat)(r:Option (List gj×List Wd))(w:z8)(e:xU)(w':z8):Prop :=
 (match r with|none=>e=Na|some (ts,t)=>(∃v,e = .returned v/\j8 (w:Nat) (w':Nat) w' v (Zi ts))/\dF w' p t)/\xI p w w'
def xI.eu{a b:z8}{row:Option Nat}(h:xI p w a)(c:a.grownBy b row)(hr:∀k,row=some k->(w:Nat)<=k):xI p w b :=
 ⟨c.os.trans h.os,c.tape.trans h.tape,c.output.trans h.output,zj h.size c.size,λk d hp=>(c.block k (zD d h.size) (λe=>by have:=hr k e.symm;omega)).trans (h.block k d hp)⟩
def dF.row(h:dF w p ws)(o:w.ownsRow lo 177 1 sv n vs)(hp:p<lo)(f:w.grownBy w' sv.ownBlock):dF w' p ws:=by
 have k:=h.lt;have d:some p≠sv.ownBlock:=λe=>by have:=(o.lt p e.symm).1;omega
 obtain⟨a,cap,hc,hf,h1,h2,s⟩:=h;refine⟨a,cap,f.cell hc d,(zV (f.block p k d)).trans hf,h1,h2,λj u=>?_⟩;obtain⟨b,r,i,l⟩:=s j u;have m:=X w _ l;rw[addr_add]at m;have c:some b.block≠sv.ownBlock:=by
  intro e;rcases o.2 with⟨hv,_⟩|⟨g,v,q,hv,_,t,_⟩
  .rw[hv]at e;cases e
  .rw[hv]at e;cases e;obtain⟨cs,fr,hs⟩:=i.2;rw[t]at hs;cases hs
 exact⟨b,r,⟨i.1,i.2.of (f.block _ m c)⟩,f.cell l (by rw[addr_add];exact c)⟩
def ykz(p:Nat)(wi:Bool)(r:Option (List gj×List Wd))(n0:Nat)(w:z8)(sv:Value)(more:Bool)(n:Nat)(wr:z8):Prop :=
 ∃(Ts:List gj) (ws:List Wd),YF (w:Nat) wr sv Ts/\dF wr p ws/\xI p w wr/\ws.length+Ts.length<=n0/\(∀x∈ws,NA x)/\(more=true->ws.length<n/\qc wi n Ts ws=r)/\(more=false->some (Ts,ws)=r)
def zm2(w:z8)(m:Wd)(g:Nat)(a:zu w g 0 (zM m)):XT w (.slice (g,0) 1 1) [m] :=
 ⟨some ⟨g,0,none⟩,1,rfl,Y _,zR,(λh=>xc),λj hj=>by
  have:j=0:=Gv;subst this;exact⟨_,rfl,by simpa[bW]using a⟩⟩
def bV(p:Nat)(m:Wd)(ws:List Wd)(W:z8)(hp:dF W p ws) :
  zC Tryz.prog 160 #[(p,0),.slice (W,0) 1 1] (W.alloc (.cells #[zM m] 9))
   λe w'=>e = .returned (.bool (Yr m ws))/\dF w' p (if Yr m ws then ws.tail else ws)/\xI p W w':=by
 have hb:yD W W (W.alloc (.cells #[zM m] 9)):=(zv _ _).alloc (Y _) _;refine(zlb p [m] ws _ _ (hp.below hb) (zm2 _ m _ (zf _ _ _ _ _)) zZ).mono ?_;rintro e w' ⟨rfl,h1,h2,_⟩;have e:CE [m] ws=Yr m ws:=by simp[CE]
 rw[e]at h1|-;exact⟨rfl,h1,(xI.of hb).trans h2⟩
def zm3(p:Nat)(wi:Bool)(ws:List Wd)(w:z8)(hp:dF w p ws)(hx:∀x∈ws,NA x)(hT:RT p w)(hl:ws.length<=1000) :
  zC Tryz.prog 208 #[(p,0),.bool wi] w (xm7 p (qc wi (ws.length+1) [] ws) w):=by
 obtain⟨r,hr⟩:=zr (qc wi (ws.length+1) [] ws);rw[hr];have HX:=Z hx;have HR:=Z hr;have D:=hp.lt;have HP:=Z hp;have HT:=Z hT;clear hr hx hp hT;go_enter func208,ntmps208;go_wp2;go_loopg [5,6] (ws.length+1) (λn sv mo wr=>∃more:Bool,mo = .bool more/\ykz p wi r (ws.length+1) w sv more n wr)
 case atStart=>exact⟨true,rfl,[],ws,YF.nil _ _,HP.o,xI.refl _ _,zZ,HX.o,λ_=>⟨J,HR.o⟩,λh=>xc⟩
 case round =>
  obtain⟨more,rfl,Ts,us,T,hpa,F,hlen,Ij,hmo,ZN⟩:=hrel;have Y8:=Z T;have HPA:=Z hpa;have HXS:=Z Ij;obtain⟨a,cap,rfl⟩:=T.form;have uix:=hpa.lt;cases more with
  |false =>
   have V6:=Z (ZN rfl);clear ZN hmo T hpa Ij;have hsm:=Sj Ts a cap (w:Nat) wr J F.size Y8.o.tests;have HSM:=Z hsm;clear hsm;go_wp2_with fail;refine HSM.o.mono ?_;rintro e w1 ⟨⟨v,rfl,ht⟩,U⟩;have P9:=Z ht;clear ht;go_wp2;go_ret;rw[<-V6.o];exact⟨⟨⟨_,rfl,P9.o⟩,HPA.o.below U⟩,F.below U⟩
  |true =>
   obtain⟨hlg,N6⟩:=hmo rfl;obtain⟨m,rfl⟩:∃m,gk=m+1:=⟨gk - 1,J⟩;have G:=Z N6;have xm8:=ZP p us wr hpa Ij (HT.o.but F);have Wi:=Z xm8;clear hmo ZN N6 T hpa Ij xm8;go_wp2_with fail;refine Wi.o.mono ?_;rintro e w1 ⟨hq,U⟩;cases hn:gG us with
   |none =>
    rw[hn]at hq;obtain rfl:=hq;go_wp2;refine⟨rfl,?_,F.trans U⟩;have kE:r=none:=(by rw[<-G.o,qc,QG,hn]);rw[kE]
   |some q =>
    obtain⟨va,t⟩:=q;rw[hn]at hq;obtain⟨rfl,pF⟩:=hq;obtain⟨hva,oC,htl⟩:=dm hn;have PE:=F.trans U;obtain⟨HN,wH,xm9,HXT⟩:=hdd hn pF (Y8.o.but U D) (λx hx=>HXS.o x (oC x hx));clear hn pF oC;go_wp2_with fail;refine(bV p [46,46] t _ wH.o).mono ?_;rintro e w2 ⟨rfl,hp2,qY⟩;have j:=PE.trans qY;have I:=Z (xm9.o.but qY D);have iD:=Z hp2;clear hp2;cases hd:Yr [46,46] t
    .have Q:=iD.o;rw[hd]at Q;have HQ2:=Z Q;have i:QG us=some ((va,va),t):=(by rw[QG,HN.o];simp[hd]);have W:=Z i;clear Q hd i;have HIT:=Z (W.o);have xmz:decide ((va:Int)<(va:Int))=false:=iZ;have A:=DT va va wi w2 hva hva;have HSP:=Z A;clear A;go_wp2_with fail;refine HSP.o.mono ?_;rintro e w4 ⟨⟨fv,rfl,hft⟩,M⟩;have Rp:=HQ2.o.below M;have l:=j.below M;have R:=I.o.but (xI.of (p:=p) M) D;obtain⟨vs,Dp,ht4⟩:=R;obtain⟨HFT,HP4,wE,OD⟩:=hdd hft Rp ht4 Dp;obtain⟨kf,KF,rfl,_⟩:=hft;clear Rp ht4 Dp;go_wp2_with (at_builtin;refine Xn Ku rfl _ _ rfl (w:Nat) _ Ts.length vs rfl (OD.o.alloc _) ⟨(w4:Nat),0,none⟩ 1 1 [.func (.func kf) #[] KF] rfl rfl ?c1 ?c2 ?c3 ?c4 ?_)
     case c1=>exact cells_one (zf _ _ _ _ _)
     case c2=>intro u hu;simp at hu;subst hu;rfl
     case c3=>omega
     case c4=>have:=l.size;simp;omega
     intro iP w5 P C Bk;have B:yD w4 w4 (w4.alloc (.cells #[.func (.func kf) #[] KF] 177)):=(zv _ _).alloc (Y _) _;have c:∀g,(vL a Ts.length cap).ownBlock=some g->(w:Nat)<=g/\g<(w2:Nat):=λg hg=>by
      obtain⟨_,pN,_⟩:=I.o;exact pN.lt g hg
     have z:YF (w:Nat) w5 iP (Ts++[fU va va wi]) :=
      YF.more wE.o M3 HFT.o (by have:=j.size;omega) (Y _) (λg hg => .inl (c g hg).2) B C MV P
     have hp5:dF w5 p t:=(HP4.o.below B).row (OD.o.alloc _) D C;have O:xI p w w5:=(l.below B).eu C (λk hk=>(c k hk).1);obtain⟨a5,c5,rfl⟩:=zn P;have K:=Z z;have HP5:=Z hp5;clear z hp5 P C Bk B c;go_wp2_with fail;refine(bV p [44] t _ HP5.o).mono ?_;rintro e w6 ⟨rfl,hp6,gT⟩;have s:=O.trans gT;have iw:=Z (K.o.but gT D);have E:=Z (show qc wi (m+1) Ts us=if Yr [44] t then qc wi m (Ts++[fU va va wi]) (t).tail else some (Ts++[fU va va wi],t)by rw[qc,HIT.o]);have HP6:=Z hp6;clear hp6;cases b:Yr [44] t
     .have d:=HP6.o;rw[b]at d;have f:=E.o;rw[b,G.o]at f;have H:=Z d;have L:=Z f;clear b d f;go_wp2;go_roundg 0
      case measure=>omega
      case rel=>exact⟨false,rfl,Ts++[fU va va wi],t,MM,H.o,s,yJ,HXT.o,(λh=>xc),λ_=>L.o.symm⟩
     .have d:=HP6.o;rw[b]at d;have f:=E.o;rw[b,G.o]at f;have H:=Z d;have L:=Z f;have gM:0<(t).length:=by
       cases ht:t with
       |nil=>rw[ht]at b;cases b
       |cons x y=>simp
      clear b d f;go_wp2;go_roundg m
      case measure=>omega
      case rel=>exact⟨true,rfl,Ts++[fU va va wi],(t).tail,MM,H.o,s,yJ,λx hx=>HXT.o x (xi hx),λ_=>⟨yJ,L.o.symm⟩,λh=>xc⟩
    .have Q:=iD.o;rw[hd]at Q;have HQ2:=Z Q;have xmu:=Z (λx hx=>HXT.o x (xi hx));have yc7:=ZP p t.tail w2 HQ2.o xmu.o (HT.o.but j);have xmq:=Z yc7;have HD:=Z hd;clear Q hd yc7;go_wp2_with fail;refine xmq.o.mono ?_;rintro e w3 ⟨TB,dD⟩;cases V:gG t.tail with
     |none =>
      rw[V]at TB;obtain rfl:=TB;have kE:r=none:=(by rw[<-G.o,qc,QG,HN.o];simp[HD.o,V]);go_wp2;refine⟨rfl,?_,j.trans dD⟩;first|rfl|(rw[kE])
     |some q =>
      obtain⟨vb,t2⟩:=q;rw[V]at TB;obtain⟨rfl,hp3⟩:=TB;obtain⟨hvb,yc8,uiu⟩:=dm V;have uiq:t2.length+1<=t.length:=by
       have:t.tail.length<=t.length:=zZ;omega
      have N:=j.trans dD;have yc9:=Z (I.o.but dD D);have HP3:=Z hp3;have HX3:=Z (λx hx=>xmu.o x (yc8 x hx));have S:QG us=if vb<va then none else some ((va,vb),t2):=by rw[QG,HN.o];simp[HD.o,V]
      have ycz:=Z S;clear hp3 V yc8 S;by_cases hba:vb<va
      .have kE:r=none:=(by rw[<-G.o,qc,ycz.o,yV hba]);have xmz:decide ((vb:Int)<(va:Int))=true:=yJ;go_wp2;refine⟨rfl,?_,N⟩;first|rfl|(rw[kE])
      .have i:=ycz.o;rw[yz hba]at i;have W:=Z i;clear i;have HIT:=Z (W.o);have xmz:decide ((vb:Int)<(va:Int))=false:=(by first|(simp;done)|(simp;omega));have A:=DT va vb wi w3 hva hvb;have HSP:=Z A;clear A;go_wp2_with fail;refine HSP.o.mono ?_;rintro e w4 ⟨⟨fv,rfl,hft⟩,M⟩;have Rp:=HP3.o.below M;have l:=N.below M;have R:=yc9.o.but (xI.of (p:=p) M) D;obtain⟨vs,Dp,ht4⟩:=R;obtain⟨HFT,HP4,wE,OD⟩:=hdd hft Rp ht4 Dp;obtain⟨kf,KF,rfl,_⟩:=hft;clear Rp ht4 Dp;go_wp2_with (at_builtin;refine Xn Ku rfl _ _ rfl (w:Nat) _ Ts.length vs rfl (OD.o.alloc _) ⟨(w4:Nat),0,none⟩ 1 1 [.func (.func kf) #[] KF] rfl rfl ?c1 ?c2 ?c3 ?c4 ?_)
       case c1=>exact cells_one (zf _ _ _ _ _)
       case c2=>intro u hu;simp at hu;subst hu;rfl
       case c3=>omega
       case c4=>have:=l.size;simp;omega
       intro iP w5 P C Bk;have B:yD w4 w4 (w4.alloc (.cells #[.func (.func kf) #[] KF] 177)):=(zv _ _).alloc (Y _) _;have c:∀g,(vL a Ts.length cap).ownBlock=some g->(w:Nat)<=g/\g<(w3:Nat):=λg hg=>by
        obtain⟨_,pN,_⟩:=yc9.o;exact pN.lt g hg
       have z:YF (w:Nat) w5 iP (Ts++[fU va vb wi]) :=
        YF.more wE.o M3 HFT.o (by have:=N.size;omega) (Y _) (λg hg => .inl (c g hg).2) B C MV P
       have hp5:dF w5 p t2:=(HP4.o.below B).row (OD.o.alloc _) D C;have O:xI p w w5:=(l.below B).eu C (λk hk=>(c k hk).1);obtain⟨a5,c5,rfl⟩:=zn P;have K:=Z z;have HP5:=Z hp5;clear z hp5 P C Bk B c;go_wp2_with fail;refine(bV p [44] t2 _ HP5.o).mono ?_;rintro e w6 ⟨rfl,hp6,gT⟩;have s:=O.trans gT;have iw:=Z (K.o.but gT D);have E:=Z (show qc wi (m+1) Ts us=if Yr [44] t2 then qc wi m (Ts++[fU va vb wi]) (t2).tail else some (Ts++[fU va vb wi],t2)by rw[qc,HIT.o]);have HP6:=Z hp6;clear hp6;cases b:Yr [44] t2
       .have d:=HP6.o;rw[b]at d;have f:=E.o;rw[b,G.o]at f;have H:=Z d;have L:=Z f;clear b d f;go_wp2;go_roundg 0
        case measure=>omega
        case rel=>exact⟨false,rfl,Ts++[fU va vb wi],t2,MM,H.o,s,yJ,HX3.o,(λh=>xc),λ_=>L.o.symm⟩
       .have d:=HP6.o;rw[b]at d;have f:=E.o;rw[b,G.o]at f;have H:=Z d;have L:=Z f;have gM:0<(t2).length:=by
         cases ht:t2 with
         |nil=>rw[ht]at b;cases b
         |cons x y=>simp
        clear b d f;go_wp2;go_roundg m
        case measure=>omega
        case rel=>exact⟨true,rfl,Ts++[fU va vb wi],(t2).tail,MM,H.o,s,yJ,λx hx=>HX3.o x (xi hx),λ_=>⟨yJ,L.o.symm⟩,λh=>xc⟩
structure Sub(t ws:List Wd):Prop where
 mem:∀x∈t,x∈ws
 len:t.length<=ws.length
def Sub.refl(ws:List Wd):Sub ws ws:=⟨λ_ h=>h,Y _⟩
def Sub.trans{a b c:List Wd}(h:Sub a b)(k:Sub b c):Sub a c:=⟨λx hx=>k.mem x (h.mem x hx),zj h.len k.len⟩
def Sub.tail(ws:List Wd):Sub ws.tail ws:=⟨λ_ h=>xi h,zZ⟩
def Vn{t:List Wd}{v:Nat}(h:gG ws=some (v,t)):Sub t ws:=⟨(dm h).2.1,by have:=(dm h).2.2;omega⟩
def Iw{t:List Wd}{q:Nat×Nat}(h:QG ws=some (q,t)):Sub t ws:=by
 unfold QG at h;cases hn:gG ws with
 |none=>rw[hn]at h;cases h
 |some r =>
  obtain⟨a,u⟩:=r;rw[hn]at h;dsimp only at h;have hs:=Vn hn;by_cases hd:Yr [46,46] u=true
  .rw[yV hd]at h;cases c:gG u.tail with
   |none=>rw[c]at h;cases h
   |some r2 =>
    obtain⟨b,u2⟩:=r2;rw[c]at h;dsimp only at h;by_cases hb:b<a
    .rw[yV hb]at h;cases h
    .rw[yz hb]at h;cases h;exact((Vn c).trans (Sub.tail u)).trans hs
  .rw[yz hd]at h;cases h;exact hs
def FE{wi:Bool}:∀{n:Nat} {acc ts:List gj} {ws t:List Wd},qc wi n acc ws=some (ts,t)->Sub t ws
 | 0,_,_,_,_,h=>xc
 |n+1,acc,ts,ws,t,h=>by
  rw[qc]at h;cases hi:QG ws with
  |none=>rw[hi]at h;cases h
  |some r =>
   obtain⟨q,u⟩:=r;rw[hi]at h;dsimp only at h;by_cases hc:Yr [44] u=true
   .rw[yV hc]at h;exact((FE h).trans (Sub.tail u)).trans (Iw hi)
   .rw[yz hc]at h;cases h;exact Iw hi
def sG{wi:Bool}{t:List Wd}(h:jw wi ws=some (T,t)):Sub t ws:=by
 unfold jw at h;cases a:qc wi (ws.length+1) [] ws with
 |none=>rw[a]at h;cases h
 |some r =>
  obtain⟨ts,u⟩:=r;rw[a]at h;cases h;exact FE a
def Xo(p:Nat)(r:Option (gj×List Wd))(w:z8)(e:xU)(w':z8):Prop :=
 (match r with|none=>e=Na|some (T,t)=>(∃v,e = .returned v/\j8 (w:Nat) (w':Nat) w' v T)/\dF w' p t)/\xI p w w'
def ZJ(p:Nat)(wi:Bool)(ws:List Wd)(w:z8)(hp:dF w p ws)(hx:∀x∈ws,NA x)(b:RT p w)(c:ws.length<=1000) :
  zC Tryz.prog 208 #[(p,0),.bool wi] w (Xo p (jw wi ws) w):=by
 refine(zm3 p wi ws w hp hx b c).mono ?_;rintro e w' ⟨h,hb⟩;refine⟨?_,hb⟩;unfold jw;cases a:qc wi (ws.length+1) [] ws with
 |none=>rw[a]at h;exact h
 |some r =>
  obtain⟨ts,u⟩:=r;rw[a]at h;exact h
def ykv(p:Nat)(r:Option ((gj×Bool)×List Wd))(w:z8)(e:xU)(w':z8):Prop :=
 (match r with|none=>e=Na|some ((T,nt),t)=>(∃v,e = .returned (.tuple #[v,.bool nt])/\j8 (w:Nat) (w':Nat) w' v T)/\dF w' p t)/\xI p w w'
def PK(p:Nat)(ws:List Wd)(w:z8)(hp:dF w p ws)(hx:∀x∈ws,NA x)(hT:RT p w)(hl:ws.length<=1000) :
  zC Tryz.prog 169 #[(p,0)] w (ykv p (uw ws) w):=by
 obtain⟨r,hr⟩:=zr (uw ws);rw[hr];have HX:=Z hx;have HR:=Z hr;have uo:=hp.lt;have HP:=Z hp;have F:=Z hT;clear hr hx hp hT;go_enter func169,ntmps169;have W:ws.tail.length<=1000:=yJ;have L2:ws.tail.tail.length<=1000:=yJ;have M1:∀x∈ws.tail,NA x:=λx h=>HX.o x (xi h)
 have M2:∀x∈ws.tail.tail,NA x:=λx h=>M1 x (xi h)
 have y:=Z M1;have G:=Z M2;clear M1 M2;go_wp2_with fail;refine(bV p [61] (ws) _ HP.o).mono ?_;rintro e w1 ⟨rfl,S,qE⟩;have g:=qE;have C:=Z S;clear S;cases P:Yr [61] (ws)
 .have hq:=C.o;rw[P]at hq;have H:=Z hq;have E1:=Z P;clear hq P;go_wp2_with fail;refine(bV p [33,61] (ws) _ H.o).mono ?_;rintro e w2 ⟨rfl,U,L⟩;have c:=g.trans L;have D:=Z U;clear U;cases Q:Yr [33,61] (ws)
  .have hq:=D.o;rw[Q]at hq;have I:=Z hq;have E2:=Z Q;clear hq Q;go_wp2_with fail;refine(bV p [105,115] (ws) _ I.o).mono ?_;rintro e w3 ⟨rfl,V,M⟩;have f:=c.trans M;have E:=Z V;clear V;cases R:Yr [105,115] (ws)
   .have hq:=E.o;rw[R]at hq;have K:=Z hq;have E3:=Z R;clear hq R;go_wp2_with fail;refine(bV p [110,111,116] (ws) _ K.o).mono ?_;rintro e w4 ⟨rfl,z,N⟩;have d:=f.trans N;have i:=Z z;clear z;cases s:Yr [110,111,116] (ws)
    .have hq:=i.o;rw[s]at hq;have l:=Z hq;have E4:=Z s;clear hq s;go_wp2_with fail;refine(bV p [119,105,116,104,105,110] (ws) _ l.o).mono ?_;rintro e w5 ⟨rfl,A,n⟩;have YS:=d.trans n;have j:=Z A;clear A;cases u:Yr [119,105,116,104,105,110] (ws)
     .have hq:=j.o;rw[u]at hq;have m:=Z hq;have E5:=Z u;clear hq u;go_wp2_with fail;refine(bV p [105,110] (ws) _ m.o).mono ?_;rintro e w6 ⟨rfl,B,gT⟩;have VR:=YS.trans gT;have yy5:=Z B;clear B;cases e6:Yr [105,110] (ws)
      .exact ydb
      .have hq:=yy5.o;rw[e6]at hq;have HP6:=Z hq;have E6:=Z e6;clear hq e6;have a:=ZJ p false (ws.tail) w6 HP6.o y.o (F.o.but VR) W;have k:=Z a;clear a;go_wp2_with fail;refine k.o.mono ?_;rintro e w7 ⟨hq,O⟩;have Qb:=VR.trans O;have b:r=(jw false (ws.tail)).map λq=>((q.1,false),q.2):=by
        rw[<-HR.o];simp[uw,E1.o,E2.o,E3.o,E4.o,E5.o,E6.o]
       have VB:=Z b;clear b;cases hn:jw false (ws.tail) with
       |none =>
        exact zx7
       |some q =>
        exact ydx
     .have hq:=j.o;rw[u]at hq;have m:=Z hq;have E5:=Z u;clear hq u;have a:=ZJ p true (ws.tail) w5 m.o y.o (F.o.but YS) W;have k:=Z a;clear a;go_wp2_with fail;refine k.o.mono ?_;rintro e w6 ⟨hq,gT⟩;have VR:=YS.trans gT;have b:r=(jw true (ws.tail)).map λq=>((q.1,false),q.2):=by
       rw[<-HR.o];simp[uw,E1.o,E2.o,E3.o,E4.o,E5.o]
      have VB:=Z b;clear b;cases hn:jw true (ws.tail) with
      |none =>
       exact zx8
      |some q =>
       exact ydv
    .have hq:=i.o;rw[s]at hq;have l:=Z hq;have E4:=Z s;clear hq s;go_wp2_with fail;refine(bV p [119,105,116,104,105,110] (ws.tail) _ l.o).mono ?_;rintro e w5 ⟨rfl,A,n⟩;have YS:=d.trans n;have j:=Z A;clear A;cases u:Yr [119,105,116,104,105,110] (ws.tail)
     .have hq:=j.o;rw[u]at hq;have m:=Z hq;have E5:=Z u;clear hq u;go_wp2_with fail;refine(bV p [105,110] (ws.tail) _ m.o).mono ?_;rintro e w6 ⟨rfl,B,gT⟩;have VR:=YS.trans gT;have yy5:=Z B;clear B;cases e6:Yr [105,110] (ws.tail)
      .exact ydb
      .have hq:=yy5.o;rw[e6]at hq;have HP6:=Z hq;have E6:=Z e6;clear hq e6;have a:=ZJ p false (ws.tail.tail) w6 HP6.o G.o (F.o.but VR) L2;have k:=Z a;clear a;go_wp2_with fail;refine k.o.mono ?_;rintro e w7 ⟨hq,O⟩;have Qb:=VR.trans O;have b:r=(jw false (ws.tail.tail)).map λq=>((q.1,true),q.2):=by
        rw[<-HR.o];simp[uw,E1.o,E2.o,E3.o,E4.o,E5.o,E6.o]
       have VB:=Z b;clear b;cases hn:jw false (ws.tail.tail) with
       |none =>
        exact zx7
       |some q =>
        exact ydx
     .have hq:=j.o;rw[u]at hq;have m:=Z hq;have E5:=Z u;clear hq u;have a:=ZJ p true (ws.tail.tail) w5 m.o G.o (F.o.but YS) L2;have k:=Z a;clear a;go_wp2_with fail;refine k.o.mono ?_;rintro e w6 ⟨hq,gT⟩;have VR:=YS.trans gT;have b:r=(jw true (ws.tail.tail)).map λq=>((q.1,true),q.2):=by
       rw[<-HR.o];simp[uw,E1.o,E2.o,E3.o,E4.o,E5.o]
      have VB:=Z b;clear b;cases hn:jw true (ws.tail.tail) with
      |none =>
       exact zx8
      |some q =>
       exact ydv
   .have hq:=E.o;rw[R]at hq;have K:=Z hq;have E3:=Z R;clear hq R;go_wp2_with fail;refine(bV p [110,111,116] (ws.tail) _ K.o).mono ?_;rintro e w4 ⟨rfl,z,N⟩;have d:=f.trans N;have i:=Z z;clear z;cases s:Yr [110,111,116] (ws.tail)
    .have hq:=i.o;rw[s]at hq;have l:=Z hq;have E4:=Z s;clear hq s;have a:=ZP p (ws.tail) w4 l.o y.o (F.o.but d);have k:=Z a;clear a;go_wp2_with fail;refine k.o.mono ?_;rintro e w5 ⟨hq,n⟩;have YS:=d.trans n;have b:r=(gG (ws.tail)).map λq=>((fU q.1 q.1 false,false),q.2):=by
      rw[<-HR.o];simp[uw,E1.o,E2.o,E3.o,E4.o]
     have VB:=Z b;clear b;cases hn:gG (ws.tail) with
     |none =>
      exact zx9
     |some q =>
      exact yd7
    .have hq:=i.o;rw[s]at hq;have l:=Z hq;have E4:=Z s;clear hq s;have a:=ZP p (ws.tail.tail) w4 l.o G.o (F.o.but d);have k:=Z a;clear a;go_wp2_with fail;refine k.o.mono ?_;rintro e w5 ⟨hq,n⟩;have YS:=d.trans n;have b:r=(gG (ws.tail.tail)).map λq=>((fU q.1 q.1 false,true),q.2):=by
      rw[<-HR.o];simp[uw,E1.o,E2.o,E3.o,E4.o]
     have VB:=Z b;clear b;cases hn:gG (ws.tail.tail) with
     |none =>
      exact zx9
     |some q =>
      exact yd7
  .have hq:=D.o;rw[Q]at hq;have I:=Z hq;have E2:=Z Q;clear hq Q;have a:=ZJ p false (ws.tail) w2 I.o y.o (F.o.but c) W;have k:=Z a;clear a;go_wp2_with fail;refine k.o.mono ?_;rintro e w3 ⟨hq,M⟩;have f:=c.trans M;have b:r=(jw false (ws.tail)).map λq=>((q.1,true),q.2):=by
    rw[<-HR.o];simp[uw,E1.o,E2.o]
   have VB:=Z b;clear b;cases hn:jw false (ws.tail) with
   |none =>
    rw[hn]at hq;obtain rfl:=hq;have kE:=VB.o;rw[hn]at kE;have G8:=Z kE;clear kE hn;go_wp2;refine⟨rfl,?_,f⟩;rw[G8.o];rfl
   |some q =>
    obtain⟨T,t⟩:=q;rw[hn]at hq;obtain⟨⟨v,rfl,ht⟩,iY⟩:=hq;have kE:=VB.o;rw[hn]at kE;have G8:=Z kE;have P9:=Z ht;have Tl:=Z iY;clear kE hn ht iY;go_wp2;go_ret2
    refine⟨?_,f⟩;rw[G8.o];exact⟨⟨v,rfl,P9.o.keep (vK (Y _)) c.size (Y _)⟩,Tl.o⟩
 .have hq:=C.o;rw[P]at hq;have H:=Z hq;have E1:=Z P;clear hq P;have a:=ZJ p false (ws.tail) w1 H.o y.o (F.o.but g) W;have k:=Z a;clear a;go_wp2_with fail;refine k.o.mono ?_;rintro e w2 ⟨hq,L⟩;have c:=g.trans L;have b:r=(jw false (ws.tail)).map λq=>((q.1,false),q.2):=by
   rw[<-HR.o];simp[uw,E1.o]
  have VB:=Z b;clear b;cases hn:jw false (ws.tail) with
  |none =>
   rw[hn]at hq;obtain rfl:=hq;have kE:=VB.o;rw[hn]at kE;have G8:=Z kE;clear kE hn;go_wp2;refine⟨rfl,?_,c⟩;rw[G8.o];rfl
  |some q =>
   obtain⟨T,t⟩:=q;rw[hn]at hq;obtain⟨⟨v,rfl,ht⟩,iY⟩:=hq;have kE:=VB.o;rw[hn]at kE;have G8:=Z kE;have P9:=Z ht;have Tl:=Z iY;clear kE hn ht iY;go_wp2;go_ret2
   refine⟨?_,c⟩;rw[G8.o];exact⟨⟨v,rfl,P9.o.keep (vK (Y _)) g.size (Y _)⟩,Tl.o⟩
variable{j:Nat}{β:Type}
def zm5(t:List Wd):CE [[109,111,100],[37]] t=Ag (t.headD []):=by
 cases t with
 |nil=>rfl
 |cons c u=>simp[CE,RQ,Ag]
def sF(w:z8)(m b:Wd)(g:Nat)(c:zu w g 0 (zM m))(a:zu w g 1 (zM b)):XT w (.slice (g,0) 2 2) [m,b] :=
 ⟨some ⟨g,0,none⟩,2,rfl,Y _,zR,(λh=>xc),λj d=>by
  match j,d with
  | 0,_=>exact⟨_,rfl,by simpa[bW]using c⟩
  | 1,_=>exact⟨_,rfl,by simpa[bW]using a⟩⟩
def zm6(p:Nat)(ws:List Wd)(W:z8)(hp:dF W p ws) :
  zC Tryz.prog 160 #[(p,0),.slice (W,0) 2 2] (W.alloc (.cells #[zM [109,111,100],zM [37]] 9))
   λe w'=>e = .returned (.bool (Ag (ws.headD [])))/\dF w' p (if Ag (ws.headD [])then ws.tail else ws)/\xI p W w':=by
 have hb:yD W W (W.alloc (.cells #[zM [109,111,100],zM [37]] 9)):=(zv _ _).alloc (Y _) _;refine(zlb p [[109,111,100],[37]] ws _ _ (hp.below hb) (sF _ _ _ _ (zf _ _ _ _ _) (zf _ _ _ _ _)) zZ).mono ?_;rintro e w' ⟨rfl,h1,h2,_⟩;rw[zm5]at h1|-;exact⟨rfl,h1,(xI.of hb).trans h2⟩
def Nc(p:Nat)(w:z8)(hp:dF w p []):zC Tryz.prog 127 #[(p,0)] w (Xo p (Vg []) w):=by
 obtain⟨a,cap,hc,hf,h1,h2,b⟩:=hp;clear b;go_enter func127,ntmps127;go_wp2;exact⟨rfl,rfl,xI.refl _ _⟩
def zm7(fn:Fn)(first cap:Array Value)(w:z8):(binOp .eql 294 (.func fn first cap) .nilFunc).run Tryz.prog w = .ok (.bool false) w:=by
 have h:∀d:Nat,(VF (d+1) 294 (.func fn first cap) .nilFunc).run Tryz.prog w = .ok false w:=λd=>by
  simp[VF,kQ underlying294]
 exact La
def Sb(w:z8):(binOp .eql 294 .nilFunc .nilFunc).run Tryz.prog w = .ok (.bool true) w:=by
 have h:∀d:Nat,(VF (d+1) 294 .nilFunc .nilFunc).run Tryz.prog w = .ok true w:=λd=>by
  simp[VF,kQ underlying294]
 exact La
def xI.frozen(h:xI p w w'){a:yM}(b:a.block<(w:Nat))(ha:a.block≠p):w'.frozen? a=w.frozen? a:=zV (h.block a.block b ha)
structure vP(w:z8)(k:Nat)(u:Value):Prop where
 c:zu w k 0 u
 z:w.frozen? (k,0)=false
 n:¬NW w k
def SZ{a:yM}(h:NW (w.setCell a u) k):NW w k:=by
 obtain⟨cs,fr,h⟩:=h;by_cases d:k=a.block
 .simp only[xg,vp,yV d.symm]at h;cases b:w.heap[k]? with
  |none=>simp[b]at h
  |some o =>
   simp only[b,QM]at h;cases o with
   |cells c e f =>
    simp only[vA,TA]at h;exact⟨c,f,by rw[b,h.2.1]⟩
   |_=>simp at h
 .exact⟨cs,fr,(yZ _ _ _ _ d).symm.trans h⟩
def vP.lt(h:vP w k u):k<(w:Nat):=X w _ h.c
def vP.but(h:vP w k u)(hb:xI p w w')(hp:k≠p):vP w' k u :=
 ⟨hb.cell h.c hp,(hb.frozen (a:=(k,0)) h.lt hp).trans h.z,λhs=>h.n (hs.of (hb.block k h.lt hp).symm)⟩
def vP.made(w:z8)(u:Value)(t:xm)(a:t≠9):vP (w.alloc (.cells #[u] t)) (w:Nat) u :=
 ⟨zf _ _ _ _ _,zZ,λ⟨cs,fr,h⟩=>a (by
  have:(w.alloc (.cells #[u] t)).heap[(w:Nat)]? = some (.cells #[u] t):=Wf;rw[this]at h;simp only[vA,TA]at h;exact h.2.1)⟩
def vP.same(h:vP w k u)(x:Value):vP (w.setCell (zU k 0) x) k x:=⟨by rw[uX (h:=h.c)],by simpa using h.z,λhs=>h.n (SZ hs)⟩
def vP.other(h:vP w k u)(a:k≠j)(x:Value):vP (w.setCell (j,0) x) k u :=
 ⟨(yE (yZ _ _ _ _ a)).trans h.c,(zV (yZ _ _ _ _ a)).trans h.z,λhs=>h.n (SZ hs)⟩
def xI.alloc{a:z8}(h:xI p w a)(o:Obj):xI p w (a.alloc o):=h.below ((zv _ _).alloc (Y _) _)
def xI.put{a:z8}(h:xI p w a)(c:(w:Nat)<=k)(u:Value):xI p w (a.setCell (k,0) u) :=
 ⟨h.os,h.tape,h.output,by simpa[xg]using h.size,λj b hp=>(yZ _ _ _ _ (show j≠k by omega)).trans (h.block j b hp)⟩
def dF.put(h:dF w p ws)(g:k≠p)(hs:¬NW w k)(u:Value):dF (w.setCell (k,0) u) p ws:=by
 obtain⟨a,cap,hc,hf,h1,h2,m⟩:=h;have hb:∀j,j≠k->(w.setCell (k,0) u).heap[j]? = w.heap[j]? := λj f=>yZ _ _ _ _ f
 refine⟨a,cap,(yE (hb p g.symm)).trans hc,(zV (hb p g.symm)).trans hf,h1,h2,λj f=>?_⟩;obtain⟨b,i,d,l⟩:=m j f;have c:b.block≠k:=λe=>hs (e▸d.2)
 exact⟨b,i,⟨d.1,d.2.of (hb _ c)⟩,(yE (hb _ (by rw[addr_add];exact c))).trans l⟩
def xdz{γ δ:Type}{P:α->β->γ->δ->Prop}{A:Prop}(G:α->β->γ->δ->Prop)(h1:∀a b c d,P a b c d->G a b c d)(h2:(∀a b c d,P a b c d->G a b c d)->A):A:=h2 h1
def Up{md:kG}{S:z8->Prop}{f:Nat}{m m':Array Bool}{a:Act}(hm:m'=m)(h:Ua P md ops Q S f m a w):Ua P md ops Q S f m' a w:=hm▸h
def Hg(p:Nat)(c:Wd)(t:List Wd)(w:z8)(hp:dF w p (c::t))(hx:∀x∈c::t,NA x)(S:RT p w)(V:t.length<=999) :
  zC Tryz.prog 127 #[(p,0)] w (Xo p (Vg (c::t)) w):=by
 have O:=Z hp;have HX:=Z hx;have HT:=Z S;have uo:=hp.lt;obtain⟨a,cap,hc,hf,h1,h2,R⟩:=hp;obtain⟨b,rfl,hb,il⟩:=R 0 zZ;have hx':w.cell? b=some (zM c):=zg6;have hmx:cap<=9223372036854775807:=Lr;have B:(c::t).length=t.length+1:=rfl;rw[B]at hc h1;obtain⟨r,hr⟩:=zr (Vg (c::t));rw[hr];have HR:=Z hr;have u:=NS ⟨c.toArray⟩ w;rw[toList_mk]at u;have D:=Z u;have T:=zm7;have U:=Sb;have hmf:∀(fn:Fn) (first cap:Array Value) (w:z8),(uV fn first cap).run Tryz.prog w = .ok (.func fn first cap) w:=λ_ _ _ _=>rfl
 clear il R hr hx S u;go_enter func127,ntmps127;go_wp2_with fail;refine D.o.mono ?_;rintro e w1 ⟨hq,rfl⟩;cases y:uI c with
 |none =>
  rw[y]at hq;obtain rfl:=hq;have kE:r=none:=by rw[<-HR.o,Vg,y]
  have G8:=Z kE;clear kE y;go_wp2;refine⟨rfl,?_,(xI.refl _ _).alloc _⟩;rw[G8.o]
 |some F =>
  rw[y]at hq;obtain⟨fv,rfl,s⟩:=hq;have HFV:=Z s;have hK:=s 0 0 w;obtain⟨kf,KF,rfl,_⟩:=hK;have HO:=Z y;clear s y;by_cases H:cap=1
  .have M:t=[]:=zN J;subst M;subst H;go_wp2_with fail;have C:∃d,d=(w.setCell (p,0) (.slice (some b) 0 0)).alloc (.cells #[.func (.func kf) #[] KF] 294)/\xI p w d/\d.heap.size=(w:Nat)+1/\dF d p ([]:List Wd)/\vP d (w:Nat) (.func (.func kf) #[] KF):=by
    have hs:(w.setCell (p,0) (.slice (some b) 0 0)).heap.size=(w:Nat):=ZH;refine⟨_,rfl,(xI.set p w 0 _).alloc _,ZH,((O.o.step hc).2 rfl).below ((zv _ _).alloc (Y _) _),?_⟩;exact AX
   obtain⟨d,Ep,PE,l,f,cQ1⟩:=C;have yx0:∀o,((w.setCell (zU p 0) (.slice (some b) 0 0)).alloc (.cells #[.func (.func kf) #[] KF] 294)).alloc o=d.alloc o:=λo=>by rw[Ep]
   obtain⟨t,I⟩:∃t:List Wd,t=[]:=⟨_,rfl⟩;rw[<-I]at HX HR f;have V:t.length<=999:=(by rw[I];decide);clear I;have E:=Z f;have G:=Z l;have g:=zm6 p t d f;rw[l]at g;have HIM:=Z g;clear f l g;exact zgz
  .have gM:¬(cap:Int)=1:=(by omega);go_wp2_with fail;have C:∃d,d=(w.setCell (p,0) (.slice (some (b.add 1)) t.length (cap - 1))).alloc (.cells #[.func (.func kf) #[] KF] 294)/\xI p w d/\d.heap.size=(w:Nat)+1/\dF d p t/\vP d (w:Nat) (.func (.func kf) #[] KF):=by
    have hs:(w.setCell (p,0) (.slice (some (b.add 1)) t.length (cap - 1))).heap.size=(w:Nat):=ZH;refine⟨_,rfl,(xI.set p w 0 _).alloc _,ZH,((O.o.step hc).1).below ((zv _ _).alloc (Y _) _),?_⟩;exact AX
   obtain⟨d,Ep,PE,l,f,cQ1⟩:=C;have yx0:∀o,((w.setCell (zU p 0) (.slice (some (b.add 1)) t.length (cap - 1))).alloc (.cells #[.func (.func kf) #[] KF] 294)).alloc o=d.alloc o:=λo=>by rw[Ep]
   have E:=Z f;have G:=Z l;have g:=zm6 p t d f;rw[l]at g;have HIM:=Z g;clear f l g;have A:(some (b.add 1):Option yM)=some ⟨b.block,b.off+1,none⟩:=rfl;rw[A]at yx0;exact zgz
def Ni(p:Nat)(ws:List Wd)(w:z8)(hp:dF w p ws)(hx:∀x∈ws,NA x)(b:RT p w)(a:ws.length<=1000) :
  zC Tryz.prog 127 #[(p,0)] w (Xo p (Vg ws) w):=by
 match ws,hp,hx,a with
 |[],hp,_,_=>exact Nc p w hp
 |c::t,hp,hx,a=>exact Hg p c t w hp hx b (by simpa using a)
def xzu(p:Nat)(w:z8)(v:Value)(P:Parser):Prop :=
 ∃k first cap,v = .func (.func k) first cap/\(∀args w,(callFunc k args).run Tryz.prog w = .ok (.enter k args) w) /\
  ∀W ws,xI p w W->dF W p ws->(∀x∈ws,NA x)->ws.length<=1000->zC Tryz.prog k (first++cap) W (Xo p (P ws) W)
def xzq(v:Value)(tog:List gj->gj):Prop :=
 ∃k,v = .func (.func k) #[] #[]/\(∀args w,(callFunc k args).run Tryz.prog w = .ok (.enter k args) w) /\
  ∀(Ts:List gj) (a:Option yM) (c lo:Nat) (W:z8),Ts.length<=1000000->lo<=(W:Nat)->Zo lo (W:Nat) W a Ts ->
   zC Tryz.prog k #[.slice a Ts.length c] W λe w'=>(∃v,e = .returned v/\j8 lo w'.heap.size w' v (tog Ts))/\zP W w'
def xzk(p:Nat)(word:Wd)(P:Parser)(r:Option (List gj×List Wd))(n0:Nat)(w:z8)(sv:Value)(n:Nat)(wr:z8):Prop :=
 ∃(Ts:List gj) (us:List Wd),YF (w:Nat) wr sv Ts/\dF wr p us/\xI p w wr/\us.length+Ts.length<=n0+1/\(∀x∈us,NA x)/\us.length<=n/\us.length<=n0 /\
  (if Yr word us then bk word P n Ts us.tail else some (Ts,us))=r
def yku{c h0:Nat}(d:j8 c h0 w u T)(b:lo<=c)(a:h0<=(w:Nat))(h:lo<=(w:Nat)) :
  YF lo (w.alloc (.cells #[u] 177)) (.slice (w,0) 1 1) [T]:=by
 have hb:yD w w (w.alloc (.cells #[u] 177)):=(zv _ _).alloc (Y _) _;refine⟨[u],World.ownsRow_lit w #[u] 1 h zR rfl,λj f=>?_⟩;have:j=0:=by simp at f;omega
 subst this;exact⟨u,c,h0,rfl,b,zj a hb.size,λg e=>by cases e;exact .inr a,d.keep (vu hb a a) (Y _) (Y _)⟩
def ml(p:Nat)(word:Wd)(K:List gj->gj)(P:Parser)(tv ov:Value)(ws:List Wd)(w:z8)(hp:dF w p ws)(hx:∀x∈ws,NA x)(hl:ws.length<=1000)(ht:xzq tv K)(ho:xzu p w ov P)(hs:∀us T t,P us=some (T,t)->Sub t us) :
  zC Tryz.prog 123 #[(p,0),zM word,tv,ov] w (Xo p (N8 word K P ws) w):=by
 obtain⟨r,hr⟩:=zr (bk word P (ws.length+1) [] ws);have hpr:N8 word K P ws=r.map λq=>(K q.1,q.2):=by unfold N8;rw[hr]
 rw[hpr];obtain⟨HR,HX,HP,HS⟩:=hdd hr hx hp hs;have W:=hp.lt;obtain⟨kt,rfl,het,Q⟩:=ht;obtain⟨ko,first,cap,rfl,heo,h⟩:=ho;have veq:=Z Q;have L:=Z h;clear hr hpr hx hp hs Q h;go_enter func123,ntmps123;go_wp2_with fail;refine(L.o w ws (xI.refl _ _) HP.o HX.o hl).mono ?_;rintro e w1 ⟨hq,U⟩;cases hn:P ws with
 |none =>
  rw[hn]at hq;obtain rfl:=hq;have D:r=none:=by rw[<-HR.o,bk,hn]
  have R:=Z D;clear D hn;go_wp2;refine⟨rfl,?_,U⟩;rw[R.o];rfl
 |some q =>
  obtain⟨T1,t1⟩:=q;rw[hn]at hq;obtain⟨⟨v,rfl,hT1⟩,pF⟩:=hq;have z:=HS.o _ _ _ hn;have wC:=yku hT1 (Y (w:Nat)) (Y _) U.size;have HRL:=Z wC;obtain⟨kv,cpv,rfl,_⟩:=hT1;have vek:xI p w (w1.alloc (.cells #[.func (.func kv) #[] cpv] 177)):=U.below ((zv _ _).alloc (Y _) _);have O:dF (w1.alloc (.cells #[.func (.func kv) #[] cpv] 177)) p t1:=pF.below ((zv _ _).alloc (Y _) _);have wH:=Z O;have TF:(if Yr word t1 then bk word P ws.length [T1] t1.tail else some ([T1],t1))=r:=by rw[<-HR.o,bk,hn];rfl
  have VB:=Z TF;have HX1:=Z (λx hx=>HX.o x (z.mem x hx));have N:=z.len;clear hn pF O wC TF z;go_wp2_with fail;go_loopg [9] ws.length (λn sv wr=>xzk p word P r ws.length w sv n wr)
  case atStart=>exact⟨[T1],t1,HRL.o,wH.o,vek,yJ,HX1.o,N,N,VB.o⟩
  case round =>
   obtain⟨Ts,us,E,hpa,zb7,hlen,Ij,hun,hu0,f⟩:=hrel;obtain⟨Y8,HPA,HXS,G6⟩:=hdd E hpa Ij f;obtain⟨a,c,rfl⟩:=E.form;clear E hpa Ij f;go_wp2_with fail;refine(bV p word us _ HPA.o).mono ?_;rintro e w2 ⟨rfl,d,qY⟩;have b:=zb7.trans qY;have i:=Z (Y8.o.but qY W);have iD:=Z d;clear d;cases hi:Yr word us
   .have f:=G6.o;rw[hi]at f;have d:=iD.o;rw[hi]at d;have B:=Z f;have HPZ:=Z d;have hsm:=veq.o Ts a c (w:Nat) w2 J b.size i.o.tests;have HSM:=Z hsm;clear hi f d hsm;go_wp2_with fail;refine HSM.o.mono ?_;rintro e w3 ⟨⟨v,rfl,htt⟩,C⟩;have P9:=Z htt;clear htt;go_wp2;go_ret;rw[<-B.o];exact⟨⟨⟨_,rfl,P9.o⟩,HPZ.o.below C⟩,b.below C⟩
   .have f:=G6.o;rw[hi]at f;have d:=iD.o;rw[hi]at d;have HPZ:=Z d;have PX:0<us.length:=by
     cases us with
     |nil=>cases hi
     |cons x y=>simp
    obtain⟨m,rfl⟩:∃m,gk=m+1:=⟨gk - 1,J⟩;have B:=Z f;have h:=L.o w2 us.tail b d (λx hx=>HXS.o x (xi hx)) yJ;have HON:=Z h;clear hi f d h;go_wp2_with fail;refine HON.o.mono ?_;rintro e w3 ⟨I,C⟩;have j:=b.trans C;cases l:P us.tail with
    |none =>
     rw[l]at I;obtain rfl:=I;have D:r=none:=(by rw[<-B.o];simp[bk,l]);have R:=Z D;clear D l;go_wp2;refine⟨rfl,?_,j⟩;rw[R.o];rfl
    |some q3 =>
     obtain⟨T3,t3⟩:=q3;rw[l]at I;obtain⟨⟨v,rfl,hT3⟩,hp3⟩:=I;have A:=HS.o _ _ _ l;have M:(if Yr word t3 then bk word P m (Ts++[T3]) t3.tail else some (Ts++[T3],t3))=r:=(by rw[<-B.o];simp[bk,l]);have vej:=Z M;obtain⟨vs,Dp,ht4⟩:=i.o.but C W;obtain⟨HFT,HP4,wE,OD,HX3⟩:=Jl hT3 hp3 ht4 Dp (λx hx=>HXS.o x (xi (A.mem x hx)));have hl3:t3.length+1<=us.length:=(by have:=A.len;simp at this;omega);obtain⟨kf,KF,rfl,_⟩:=hT3;clear hp3 ht4 Dp l M A;go_wp2_with (at_builtin;refine Xn Ku rfl _ _ rfl (w:Nat) _ Ts.length vs rfl (OD.o.alloc _) ⟨(w3:Nat),0,none⟩ 1 1 [.func (.func kf) #[] KF] rfl rfl Qp (by intro u hu;simp at hu;subst hu;rfl) J (by have:=j.size;simp;omega) ?_);intro iP w5 XC H Bk;have G:yD w3 w3 (w3.alloc (.cells #[.func (.func kf) #[] KF] 177)):=(zv _ _).alloc (Y _) _;have s:∀g,(vL a Ts.length c).ownBlock=some g->(w:Nat)<=g/\g<(w2:Nat):=λg hg=>by
      obtain⟨_,pN,_⟩:=i.o;exact pN.lt g hg
     have F:YF (w:Nat) w5 iP (Ts++[T3]) :=
      YF.more wE.o M3 HFT.o (by have:=b.size;omega) (Y _) (λg hg => .inl (s g hg).2) G H MV XC
     have hp5:dF w5 p t3:=(HP4.o.below G).row (OD.o.alloc _) W H;have V:xI p w w5:=(j.below G).eu H (λk hk=>(s k hk).1);obtain⟨a5,c5,rfl⟩:=zn XC;have S:=Z F;have HP5:=Z hp5;clear F hp5 XC H Bk G s;go_wp2;go_roundg m
     case measure=>omega
     case rel=>exact⟨Ts++[T3],t3,by simpa using S.o,HP5.o,V,yJ,HX3.o,J,J,vej.o⟩
def sD(s:ByteArray)(w:z8)(hs:s.size<=1000000) :
  zC Tryz.prog 67 #[.string s,.string ⟨#[64]⟩] w λe w' =>
   e = .returned (.tuple #[.string ⟨(s.data.toList.take (s.data.toList.idxOf 64)).toArray⟩,.string ⟨(s.data.toList.drop (s.data.toList.idxOf 64+1)).toArray⟩,.bool (decide (s.data.toList.idxOf 64<s.size))])/\∃n,w'=w.drewN n:=by
 have a:=λw=>FJ s 64 w hs
 have b:=Z a;clear a;go_enter func67,ntmps67;go_wp2_with fail;refine(b.o _).mono ?_;rintro e w' ⟨rfl,n,rfl⟩;go_wp2;go_ret3
 exact⟨rfl,n,rfl⟩
abbrev ykk:xU := .panicked [{ v := .iface 259 (.agg #[]),recovered:=false }]
def veg(r:Option (List Wd))(w:z8)(e:xU)(w':z8):Prop :=
 (match r with|none=>e=ykk|some ws=>∃v,e = .returned v/\w'.ownsRow (w:Nat) 9 1 v ws.length (ws.map zM))/\zP w w'
def xzj(r:Option (List Wd))(n0:Nat)(w:z8)(s sv:Value)(n:Nat)(wr:z8):Prop :=
 ∃(acc:List Wd) (l:List UInt8),s = .string ⟨l.toArray⟩/\wr.ownsRow (w:Nat) 9 1 sv acc.length (acc.map zM)/\zP w wr/\l.length<n/\l.length+acc.length<=n0/\bC n acc l=r
def X9{m:List UInt8}(h:yW l m=false):vD l m=l:=by
 unfold vD;simp[h]
def UC{c:UInt8}{t m:List UInt8}(hm:m=[33,61]\/m=[46,46]\/m=[61]\/m=[44]\/m=[37])(h:yW (c::t) m=true):Bm (c::t)=some m/\vD (c::t) m=(c::t).drop m.length:=by
 have a:vD (c::t) m=(c::t).drop m.length:=by unfold vD;rw[yV h]
 refine⟨?_,a⟩;unfold yW at h;rcases hm with rfl|rfl|rfl|rfl|rfl
 .exact zxk
 .exact zxk
 .exact WW
 .exact WW
 .exact WW
def sB{c:UInt8}{t:List UInt8}(h0:yW (c::t) [33,61]=false)(h1:yW (c::t) [46,46]=false)(h2:yW (c::t) [61]=false)(a:yW (c::t) [44]=false)(b:yW (c::t) [37]=false):Bm (c::t)=none:=by
 unfold Bm;split
 .rename_i u e;cases e;simp[yW,uS]at h0
 .rename_i u e;cases e;simp[yW,uS]at h1
 .rename_i u e;cases e;simp[yW,uS]at h2
 .rename_i u e;cases e;simp[yW,uS]at a
 .rename_i u e;cases e;simp[yW,uS]at b
 .rfl
def Qn{p:UInt8->Bool}:∀{t:List UInt8} {m:Nat},m<=t.length->(t.take m).all p=true->(∀h:m<t.length,p t[m]=false)->t.takeWhile p=t.take m/\t.dropWhile p=t.drop m
 |[],0,_,_,_=>⟨rfl,rfl⟩
 |[],m+1,h,_,_=>absurd h zZ
 |c::t,0,_,_,h=>by
  have:=h zZ;have hc:p c=false:=by simpa using this
  rw[dU GU,fJ (by simp[hc])];exact⟨rfl,rfl⟩
 |c::t,m+1,hm,ha,h=>by
  simp only[List.take_succ_cons,vh,zx]at ha;have a:=Qn (t:=t) (m:=m) (by simpa using hm) ha.2 (λb=>by have:=h yJ;simpa using this);rw[vZ ha.1,Vq ha.1,a.1,a.2];exact⟨rfl,rfl⟩
def SY(c:UInt8):yi c<=3:=by
 unfold yi;split
 .decide
 split
 .decide
 split<;>decide
def ej(s:ByteArray)(w:z8)(hs:s.size<=1000):zC Tryz.prog 122 #[.string s] w (veg (aH s.data.toList) w):=by
 obtain⟨r,hr⟩:=zr (aH s.data.toList);rw[hr];have hl0:(s.data.toList.take (s.data.toList.idxOf 64)).length<=s.size:=yJ;unfold aH at hr;rw[vG]at hr;obtain⟨l0,hl⟩:=zr (s.data.toList.take (s.data.toList.idxOf 64));have hC:=sD s w J;rw[hl]at hr hl0 hC;have HR:=Z hr;have HC:=Z hC;have wF:∀(s p:ByteArray) (W:z8),zC Tryz.prog 66 #[.string s,.string p] W λe w'=>e = .returned (.tuple #[.string ⟨(vD s.data.toList p.data.toList).toArray⟩,.bool (yW s.data.toList p.data.toList)])/\W=w':=λs p W=>(Tryz.strings_CutPrefix s p W).mono λ_ _ h=>⟨h.1,h.2.symm⟩
 have E:=Z wF;clear hr hl hC wF;have xlz:∀W:z8,(Y2 288 (.agg #[.string ⟨#[33,61]⟩,.string ⟨#[46,46]⟩,.string ⟨#[61]⟩,.string ⟨#[44]⟩,.string ⟨#[37]⟩]) (.int .i64 0)).run Tryz.prog W = .ok (.string ⟨#[33,61]⟩) W:=λW=>yq
 have xly:∀W:z8,(Y2 288 (.agg #[.string ⟨#[33,61]⟩,.string ⟨#[46,46]⟩,.string ⟨#[61]⟩,.string ⟨#[44]⟩,.string ⟨#[37]⟩]) (.int .i64 1)).run Tryz.prog W = .ok (.string ⟨#[46,46]⟩) W:=λW=>yq
 have xlx:∀W:z8,(Y2 288 (.agg #[.string ⟨#[33,61]⟩,.string ⟨#[46,46]⟩,.string ⟨#[61]⟩,.string ⟨#[44]⟩,.string ⟨#[37]⟩]) (.int .i64 2)).run Tryz.prog W = .ok (.string ⟨#[61]⟩) W:=λW=>yq
 have vef:∀W:z8,(Y2 288 (.agg #[.string ⟨#[33,61]⟩,.string ⟨#[46,46]⟩,.string ⟨#[61]⟩,.string ⟨#[44]⟩,.string ⟨#[37]⟩]) (.int .i64 3)).run Tryz.prog W = .ok (.string ⟨#[44]⟩) W:=λW=>yq
 have ved:∀W:z8,(Y2 288 (.agg #[.string ⟨#[33,61]⟩,.string ⟨#[46,46]⟩,.string ⟨#[61]⟩,.string ⟨#[44]⟩,.string ⟨#[37]⟩]) (.int .i64 4)).run Tryz.prog W = .ok (.string ⟨#[37]⟩) W:=λW=>yq
 go_enter func122,ntmps122;go_wp2_with fail;go_step3;go_wp2_with fail;refine HC.o.mono ?_;rintro e w1 ⟨rfl,nd,rfl⟩;go_wp2_with fail;go_step3;go_wp2_with fail;go_loopg [0,2] (s.size+1) (λn sl sv wr=>xzj r s.size w sl sv n wr)
 case atStart=>exact⟨[],l0,rfl,xx _ _ _ _,below_drewN (zv _ _) nd,J,yJ,HR.o⟩
 case round =>
  obtain⟨acc,l,rfl,H,hb,Z4,hla,b⟩:=hrel;obtain⟨a,cap,rfl⟩:=zn H;have HO:=Z H;have R:=Z b;obtain⟨n,rfl⟩:∃n,gk=n+1:=⟨gk - 1,J⟩;clear H b;cases l with
  |nil =>
   have hg:r=some acc:=(by rw[<-R.o,bC]);have HGG:=Z hg;clear hg;go_wp2;try rw[Exit.noGoto_ret]
   go_ret;rw[HGG.o];exact⟨⟨_,rfl,HO.o⟩,hb⟩
  |cons c t =>
   have O:=size_mk (c::t);obtain⟨u,hu⟩:∃u:ByteArray,u=⟨(c::t).toArray⟩:=⟨_,rfl⟩;have hud:u.data.toList=c::t:=(by rw[hu]);rw[<-hu]at O|-;have HU:=Z hu;have HUD:=Z hud;have PX:(0:Int)<(u.size:Int):=(by rw[O];simp);have Zb:=Z O;clear hu hud;have uo:t.length+1<=s.size:=(by have h1:=hla;simp at h1;omega);clear O;have T:=E.o u ⟨#[33,61]⟩;have Q:=E.o u ⟨#[46,46]⟩;have N:=E.o u ⟨#[61]⟩;have K:=E.o u ⟨#[44]⟩;have G:=E.o u ⟨#[37]⟩;rw[HUD.o]at T;rw[HUD.o]at Q;rw[HUD.o]at N;rw[HUD.o]at K;rw[HUD.o]at G;cases q0:yW (c::t) (⟨#[33,61]⟩:ByteArray).data.toList
   .skip
    rw[q0,X9 q0]at T;have A:=Z T;have Q0:=Z q0;clear T q0;cases q1:yW (c::t) (⟨#[46,46]⟩:ByteArray).data.toList
    .skip
     rw[q1,X9 q1]at Q;have D:=Z Q;have Q1:=Z q1;clear Q q1;cases q2:yW (c::t) (⟨#[61]⟩:ByteArray).data.toList
     .skip
      rw[q2,X9 q2]at N;have F:=Z N;have Q2:=Z q2;clear N q2;cases V:yW (c::t) (⟨#[44]⟩:ByteArray).data.toList
      .skip
       rw[V,X9 V]at K;have L:=Z K;have Q3:=Z V;clear K V;cases q4:yW (c::t) (⟨#[37]⟩:ByteArray).data.toList
       .skip
        rw[q4,X9 q4]at G;have S:=Z G;have Q4:=Z q4;clear G q4;have i:=sB Q0.o Q1.o Q2.o Q3.o Q4.o;have b:=R.o;rw[bC,i]at b;have G6:=Z b;clear b i;go_wp2_with fail;refine gY 6 ?_;rw[xL];go_wp2_with fail;refine(A.o _).mono ?_;rintro e I ⟨rfl,rfl⟩;go_wp2_with fail;rw[xL];go_wp2_with fail;refine(D.o _).mono ?_;rintro e P ⟨rfl,rfl⟩;go_wp2_with fail;rw[xL];go_wp2_with fail;refine(F.o _).mono ?_;rintro e wz2 ⟨rfl,rfl⟩;go_wp2_with fail;rw[xL];go_wp2_with fail;refine(L.o _).mono ?_;rintro e wz3 ⟨rfl,rfl⟩;go_wp2_with fail;rw[xL];go_wp2_with fail;refine(S.o _).mono ?_;rintro e wz4 ⟨rfl,rfl⟩;go_wp2_with fail;rw[xL];have QU:=λW=>bX c W
        have hg0:u[0]' J=c:=by
         have h1:=HU.o;subst h1;exact WT
        go_wp2_with fail;have HCL:=Z QU;have HG0:=Z hg0;clear QU hg0;have hk3:=SY c;have hKc:=(by omega:yi c=0\/yi c=1\/yi c=2\/yi c=3);have KN:u.size=t.length+1:=Zb.o;have hux:∀m (h:m<t.length) (h2:m+1<u.size),u[m+1]=t[m]:=λm h h2=>by
         have h1:=HU.o;subst h1;exact WT
        have M:=Z hux;have f:=HCL.o wr;clear xlz xly xlx vef ved hux hk3 KN PX;rcases hKc with hK|hK|hK|hK
        .skip
         rw[hK]at f;refine f.mono ?_;rintro e w3 ⟨rfl,rfl⟩;have HK:=Z hK;clear hK f;go_wp2_with fail;go_loop [7] (λv=>∃m:Nat,m<=t.length/\v = .int .i64 ((m+1:Nat):Int)/\(t.take m).all (λd=>yi d==yi c)=true) (λv=>t.length+1 - (intOf v).toNat)
         case atStart=>exact⟨0,zQ _,rfl,rfl⟩
         case round =>
          obtain⟨m,hm,rfl,g⟩:=hrel;have ES:=Z g;clear g;by_cases iJ:m<t.length
          .have b1:m+1<u.size:=(by have wL:u.size=t.length+1:=Zb.o;omega);have U:=M.o m iJ b1;have b2:(m:Int)+1<(u.size:Int):=J;have b3:m+1<=u.size:=J;have k:=bX t[m] wr;obtain⟨B,j⟩:=zr (yi t[m]);rw[j]at k;have z:=Z k;have HK2:=Z j;clear k j;go_wp2_with fail;refine z.o.mono ?_;rintro e w4 ⟨rfl,rfl⟩;by_cases hq:B=0
           .have C:((B:Int)==0)=true:=(by rw[hq];rfl);exact Mu
           .have C:((B:Int)==0)=false:=(by simp;omega);have b7:=Qn (p:=λd=>yi d==yi c) hm ES.o (λh=>by simp[HK2.o,HK.o,hq]);have LH:=Z b7;clear b7 hq;exact zxd
          .have b7:=Qn (p:=λd=>yi d==yi c) hm ES.o (λh=>absurd h iJ);have LH:=Z b7;have b2:¬((m:Int)+1<(u.size:Int)):=(by have wL:u.size=t.length+1:=Zb.o;omega);have b1:¬(m+1<u.size):=J;have b3:m+1<=u.size:=Tw;clear b7 iJ;exact zxd
        .skip
         rw[hK]at f;refine f.mono ?_;rintro e w3 ⟨rfl,rfl⟩;have HK:=Z hK;clear hK f;go_wp2_with fail;go_loop [7] (λv=>∃m:Nat,m<=t.length/\v = .int .i64 ((m+1:Nat):Int)/\(t.take m).all (λd=>yi d==yi c)=true) (λv=>t.length+1 - (intOf v).toNat)
         case atStart=>exact⟨0,zQ _,rfl,rfl⟩
         case round =>
          obtain⟨m,hm,rfl,g⟩:=hrel;have ES:=Z g;clear g;by_cases iJ:m<t.length
          .have b1:m+1<u.size:=(by have wL:u.size=t.length+1:=Zb.o;omega);have U:=M.o m iJ b1;have b2:(m:Int)+1<(u.size:Int):=J;have b3:m+1<=u.size:=J;have k:=bX t[m] wr;obtain⟨B,j⟩:=zr (yi t[m]);rw[j]at k;have z:=Z k;have HK2:=Z j;clear k j;go_wp2_with fail;refine z.o.mono ?_;rintro e w4 ⟨rfl,rfl⟩;by_cases hq:B=1
           .have C:((B:Int)==1)=true:=(by rw[hq];rfl);exact Mu
           .have C:((B:Int)==1)=false:=(by simp;omega);have b7:=Qn (p:=λd=>yi d==yi c) hm ES.o (λh=>by simp[HK2.o,HK.o,hq]);have LH:=Z b7;clear b7 hq;exact yd5
          .have b7:=Qn (p:=λd=>yi d==yi c) hm ES.o (λh=>absurd h iJ);have LH:=Z b7;have b2:¬((m:Int)+1<(u.size:Int)):=(by have wL:u.size=t.length+1:=Zb.o;omega);have b1:¬(m+1<u.size):=J;have b3:m+1<=u.size:=Tw;clear b7 iJ;exact yd5
        .skip
         rw[hK]at f;refine f.mono ?_;rintro e w3 ⟨rfl,rfl⟩;have HK:=Z hK;clear hK f;go_wp2_with fail;go_loop [7] (λv=>∃m:Nat,m<=t.length/\v = .int .i64 ((m+1:Nat):Int)/\(t.take m).all (λd=>yi d==yi c)=true) (λv=>t.length+1 - (intOf v).toNat)
         case atStart=>exact⟨0,zQ _,rfl,rfl⟩
         case round =>
          obtain⟨m,hm,rfl,g⟩:=hrel;have ES:=Z g;clear g;by_cases iJ:m<t.length
          .have b1:m+1<u.size:=(by have wL:u.size=t.length+1:=Zb.o;omega);have U:=M.o m iJ b1;have b2:(m:Int)+1<(u.size:Int):=J;have b3:m+1<=u.size:=J;have k:=bX t[m] wr;obtain⟨B,j⟩:=zr (yi t[m]);rw[j]at k;have z:=Z k;have HK2:=Z j;clear k j;go_wp2_with fail;refine z.o.mono ?_;rintro e w4 ⟨rfl,rfl⟩;by_cases hq:B=2
           .have C:((B:Int)==2)=true:=(by rw[hq];rfl);exact Mu
           .have C:((B:Int)==2)=false:=(by simp;omega);exact zgb
          .exact zgu
        .skip
         rw[hK]at f;refine f.mono ?_;rintro e w3 ⟨rfl,rfl⟩;have HK:=Z hK;clear hK f;go_wp2_with fail;go_loop [7] (λv=>∃m:Nat,m<=t.length/\v = .int .i64 ((m+1:Nat):Int)/\(t.take m).all (λd=>yi d==yi c)=true) (λv=>t.length+1 - (intOf v).toNat)
         case atStart=>exact⟨0,zQ _,rfl,rfl⟩
         case round =>
          obtain⟨m,hm,rfl,g⟩:=hrel;have ES:=Z g;clear g;by_cases iJ:m<t.length
          .have b1:m+1<u.size:=(by have wL:u.size=t.length+1:=Zb.o;omega);have U:=M.o m iJ b1;have b2:(m:Int)+1<(u.size:Int):=J;have b3:m+1<=u.size:=J;have k:=bX t[m] wr;obtain⟨B,j⟩:=zr (yi t[m]);rw[j]at k;have z:=Z k;have HK2:=Z j;clear k j;go_wp2_with fail;refine z.o.mono ?_;rintro e w4 ⟨rfl,rfl⟩;by_cases hq:B=3
           .have C:((B:Int)==3)=true:=(by rw[hq];rfl);exact Mu
           .have C:((B:Int)==3)=false:=(by simp;omega);exact zgb
          .exact zgu
       .skip
        obtain⟨i,y⟩:=UC zZ q4;rw[q4,y]at G;have S:=Z G;have b:=R.o;rw[bC,i]at b;have G6:=Z b;have uR:((c::t).drop ([37]:List UInt8).length).length<=t.length:=zZ;have HDL:=Z uR;clear q4 i y b uR G;go_wp2_with fail;refine gY 6 ?_;rw[xL];go_wp2_with fail;refine(A.o _).mono ?_;rintro e I ⟨rfl,rfl⟩;go_wp2_with fail;rw[xL];go_wp2_with fail;refine(D.o _).mono ?_;rintro e P ⟨rfl,rfl⟩;go_wp2_with fail;rw[xL];go_wp2_with fail;refine(F.o _).mono ?_;rintro e wz2 ⟨rfl,rfl⟩;go_wp2_with fail;rw[xL];go_wp2_with fail;refine(L.o _).mono ?_;rintro e wz3 ⟨rfl,rfl⟩;go_wp2_with fail;rw[xL];go_wp2_with fail;refine(S.o _).mono ?_;rintro e wz4 ⟨rfl,rfl⟩;go_wp2_with (at_builtin;refine j9 fY rfl _ _ rfl (w:Nat) _ _ _ rfl (HO.o.alloc _) ⟨(wr:Nat),0,none⟩ 1 1 [zM [37]] rfl rfl Qp Bd J bw ?_);intro iP w5 XC Vm;have ZZ:zP w w5:=(hb.alloc hb.size _).grown Vm bw (λq hq=>(HO.o.lt q hq).1);obtain⟨a5,c5,rfl⟩:=zn XC;have oP:=Z XC;clear XC Vm;go_wp2;go_roundg n
        case measure=>omega
        case rel=>exact⟨acc++[[37]],_,rfl,Bb,ZZ,B6,P6,Bg⟩
      .skip
       obtain⟨i,y⟩:=UC zZ V;rw[V,y]at K;have L:=Z K;have b:=R.o;rw[bC,i]at b;have G6:=Z b;have uR:((c::t).drop ([44]:List UInt8).length).length<=t.length:=zZ;have HDL:=Z uR;clear V i y b uR K G;go_wp2_with fail;refine gY 6 ?_;rw[xL];go_wp2_with fail;refine(A.o _).mono ?_;rintro e I ⟨rfl,rfl⟩;go_wp2_with fail;rw[xL];go_wp2_with fail;refine(D.o _).mono ?_;rintro e P ⟨rfl,rfl⟩;go_wp2_with fail;rw[xL];go_wp2_with fail;refine(F.o _).mono ?_;rintro e wz2 ⟨rfl,rfl⟩;go_wp2_with fail;rw[xL];go_wp2_with fail;refine(L.o _).mono ?_;rintro e wz3 ⟨rfl,rfl⟩;go_wp2_with (at_builtin;refine j9 fY rfl _ _ rfl (w:Nat) _ _ _ rfl (HO.o.alloc _) ⟨(wr:Nat),0,none⟩ 1 1 [zM [44]] rfl rfl Qp Bd J bw ?_);intro iP w5 XC Vm;have ZZ:zP w w5:=(hb.alloc hb.size _).grown Vm bw (λq hq=>(HO.o.lt q hq).1);obtain⟨a5,c5,rfl⟩:=zn XC;have oP:=Z XC;clear XC Vm;go_wp2;go_roundg n
       case measure=>omega
       case rel=>exact⟨acc++[[44]],_,rfl,Bb,ZZ,B6,P6,Bg⟩
     .skip
      obtain⟨i,y⟩:=UC zZ q2;rw[q2,y]at N;have F:=Z N;have b:=R.o;rw[bC,i]at b;have G6:=Z b;have uR:((c::t).drop ([61]:List UInt8).length).length<=t.length:=zZ;have HDL:=Z uR;clear q2 i y b uR N K G;go_wp2_with fail;refine gY 6 ?_;rw[xL];go_wp2_with fail;refine(A.o _).mono ?_;rintro e I ⟨rfl,rfl⟩;go_wp2_with fail;rw[xL];go_wp2_with fail;refine(D.o _).mono ?_;rintro e P ⟨rfl,rfl⟩;go_wp2_with fail;rw[xL];go_wp2_with fail;refine(F.o _).mono ?_;rintro e wz2 ⟨rfl,rfl⟩;go_wp2_with (at_builtin;refine j9 fY rfl _ _ rfl (w:Nat) _ _ _ rfl (HO.o.alloc _) ⟨(wr:Nat),0,none⟩ 1 1 [zM [61]] rfl rfl Qp Bd J bw ?_);intro iP w5 XC Vm;have ZZ:zP w w5:=(hb.alloc hb.size _).grown Vm bw (λq hq=>(HO.o.lt q hq).1);obtain⟨a5,c5,rfl⟩:=zn XC;have oP:=Z XC;clear XC Vm;go_wp2;go_roundg n
      case measure=>omega
      case rel=>exact⟨acc++[[61]],_,rfl,Bb,ZZ,B6,P6,Bg⟩
    .skip
     obtain⟨i,y⟩:=UC zZ q1;rw[q1,y]at Q;have D:=Z Q;have b:=R.o;rw[bC,i]at b;have G6:=Z b;have uR:((c::t).drop ([46,46]:List UInt8).length).length<=t.length:=zZ;have HDL:=Z uR;clear q1 i y b uR Q N K G;go_wp2_with fail;refine gY 6 ?_;rw[xL];go_wp2_with fail;refine(A.o _).mono ?_;rintro e I ⟨rfl,rfl⟩;go_wp2_with fail;rw[xL];go_wp2_with fail;refine(D.o _).mono ?_;rintro e P ⟨rfl,rfl⟩;go_wp2_with (at_builtin;refine j9 fY rfl _ _ rfl (w:Nat) _ _ _ rfl (HO.o.alloc _) ⟨(wr:Nat),0,none⟩ 1 1 [zM [46,46]] rfl rfl Qp Bd J bw ?_);intro iP w5 XC Vm;have ZZ:zP w w5:=(hb.alloc hb.size _).grown Vm bw (λq hq=>(HO.o.lt q hq).1);obtain⟨a5,c5,rfl⟩:=zn XC;have oP:=Z XC;clear XC Vm;go_wp2;go_roundg n
     case measure=>omega
     case rel=>exact⟨acc++[[46,46]],_,rfl,Bb,ZZ,B6,P6,Bg⟩
   .skip
    obtain⟨i,y⟩:=UC zZ q0;rw[q0,y]at T;have A:=Z T;have b:=R.o;rw[bC,i]at b;have G6:=Z b;have uR:((c::t).drop ([33,61]:List UInt8).length).length<=t.length:=zZ;have HDL:=Z uR;clear q0 i y b uR T Q N K G;go_wp2_with fail;refine gY 6 ?_;rw[xL];go_wp2_with fail;refine(A.o _).mono ?_;rintro e I ⟨rfl,rfl⟩;go_wp2_with (at_builtin;refine j9 fY rfl _ _ rfl (w:Nat) _ _ _ rfl (HO.o.alloc _) ⟨(wr:Nat),0,none⟩ 1 1 [zM [33,61]] rfl rfl Qp Bd J bw ?_);intro iP w5 XC Vm;have ZZ:zP w w5:=(hb.alloc hb.size _).grown Vm bw (λq hq=>(HO.o.lt q hq).1);obtain⟨a5,c5,rfl⟩:=zn XC;have oP:=Z XC;clear XC Vm;go_wp2;go_roundg n
    case measure=>omega
    case rel=>exact⟨acc++[[33,61]],_,rfl,Bb,ZZ,B6,P6,Bg⟩
def SX(w:z8):(zA (.iface 259 (.agg #[])) 20 259 true).run Tryz.prog w = .ok (.tuple #[.agg #[],.bool true]) w:=yq
def Kq(B:Nat)(w:z8):CallsD Tryz.prog 121 #[(B,0)] .returning w λe c w'=>e = .returned (.tuple #[])/\c = .returning/\w'=w:=by
 refine EL func121 rfl λa cs b=>?_
 apply wpS_seq;apply wpS_region;simp[wpOpsS,go_sem,recoverD,b,ntmps121,Fq];refine wpS_of_wp ?_;go_wp2;cases a;simp_all [bodyPostS,yN,results121]
def CH(B:Nat)(u:Value)(a:List Eg)(w:z8)(hc:zu w B 0 u)(f:w.frozen? (B,0)=false) :
  CallsD Tryz.prog 121 #[(B,0)] (.panicking ({ v := .iface 259 (.agg #[]),recovered:=false }::a)) w λe h w' =>
   e = .returned (.tuple #[])/\h = .panicking ({ v := .iface 259 (.agg #[]),recovered:=true }::a)/\w'=(w.setCell (B,0) .nilFunc).alloc (.cells #[] 259):=by
 have ha:=SX;refine EL func121 rfl λi cs d=>?_
 apply wpS_seq;apply wpS_region;simp[wpOpsS,go_sem,recoverD,d,ntmps121,Fq];refine wpS_of_wp ?_;simp only[xl,zX,QL,List.set_cons_zero,List.set_cons_succ,List.append_toArray,xX,xK,Act.put];have b:B<(w:Nat):=X w _ hc;have c:zu (w.alloc (.cells #[] 259)) B 0 u:=(zc _ _ _ b).trans hc;have g:(w.alloc (.cells #[] 259)).frozen? (B,0)=false:=(zV (xZ _ _ _ b)).trans f;go_wp2;simp[bodyPostS,yN,results121]
def ykj{g:Wd}(h:Bm l=some g):NA g/\0<g.length:=by
 unfold Bm at h;split at h<;>cases h
 all_goals exact⟨⟨zZ,zZ,.inr zR⟩,zZ⟩
def zm8{p:UInt8->Bool}:∀{t:List UInt8} {d:UInt8},d∈t.takeWhile p->p d=true
 |[],_,h=>xc
 |c::t,d,h=>by
  by_cases hc:p c=true
  .rw[vZ hc]at h;rcases yX.1 h with q|q
   .rw[q];exact hc
   .exact zm8 q
  .rw[dU hc]at h;cases h
def CI{c:UInt8}{t:List UInt8}(h:yi c=2\/yi c=3):NA (c::t.takeWhile (λd=>yi d==yi c))\/1000<(c::t.takeWhile (λd=>yi d==yi c)).length:=by
 by_cases a:(c::t.takeWhile (λd=>yi d==yi c)).length<=1000
 .left;refine⟨zZ,a,?_⟩;rcases h with h|h
  .left;rw[vh,(X8 c).1 h,gR,zi];intro d hd;have:=zm8 hd;rw[h,beq_iff_eq]at this;exact(X8 d).1 this
  .right;have:¬yG c=true:=λe=>by have:=(X8 c).2 e;omega
   simpa using this
 .right;omega
def Hf(p:UInt8->Bool)(t:List UInt8):(t.takeWhile p).length+(t.dropWhile p).length=t.length:=by
 have:=congrArg xD (ZB (p:=p) (l:=t));rw[zy]at this;exact this
def CL:∀(n:Nat) (acc:List Wd) (l:List UInt8) (ws:List Wd),bC n acc l=some ws->l.length<=999->(∀x∈acc,NA x)->(∀x∈ws,NA x)/\ws.length<=acc.length+l.length
 |n,acc,[],ws,h,_,ha=>by
  rw[bC]at h;cases h;exact⟨ha,zZ⟩
 | 0,acc,c::t,ws,h,_,_=>by
  rw[bC]at h;cases h;all_goals (intro i;cases i)
 |n+1,acc,c::t,ws,h,j,ha=>by
  rw[bC]at h;simp only[zY]at j;cases hs:Bm (c::t) with
  |some g =>
   rw[hs]at h;dsimp only at h;obtain⟨e,f⟩:=ykj hs;have a:=CL n (acc++[g]) ((c::t).drop g.length) ws h yJ (λx hx=>by
    rcases zS.1 hx with q|q
    .exact ha x q
    .simp at q;subst q;exact e)
   refine⟨a.1,?_⟩;have:=a.2;simp at this|-;omega
  |none =>
   rw[hs]at h;dsimp only at h;by_cases h0:yi c=0
   .rw[yV h0]at h;cases h
   .rw[yz h0]at h;have k:=SY c;have b:=Hf (λd=>yi d==yi c) t;have a:=CL n _ (t.dropWhile (λd=>yi d==yi c)) ws h J (λx hx=>by
     by_cases h1:yi c=1
     .rw[yV h1]at hx;exact ha x hx
     .rw[yz h1]at hx;rcases zS.1 hx with q|q
      .exact ha x q
      .simp only[yX,Hn,or_false]at q;subst q;rcases CI (t:=t) (c:=c) J with w|w
       .exact w
       .simp only[zY]at w;omega)
    refine⟨a.1,?_⟩;have h2:=a.2;by_cases h1:yi c=1
    .rw[yV h1]at h2;simp;omega
    .rw[yz h1]at h2;simp at h2|-;omega
def ykg(h:aH l=some ws)(a:l.length<=200):(∀x∈ws,NA x)/\ws.length<=200:=by
 unfold aH at h;have:=CL _ _ _ _ h yJ (λx hx=>Qe);refine⟨this.1,?_⟩;have h2:=this.2;simp at h2;omega
def zm9:xzq (.func (.func 124) #[] #[]) Zi :=
 ⟨_,rfl,λargs w=>enters_of func124 yq rfl args w,λTs a c lo W h1 h2 b=>Sj Ts a c lo W h1 h2 b⟩
def ykf:xzq (.func (.func 126) #[] #[]) allT :=
 ⟨_,rfl,λargs w=>enters_of func126 yq rfl args w,λTs a c lo W h1 h2 b=>yk7 Ts a c lo W h1 h2 b⟩
def ykd(p:Nat)(w:z8)(a:RT p w):xzu p w (.func (.func 127) #[(p,0)] #[]) Vg :=
 ⟨_,_,_,rfl,λargs w=>enters_of func127 yq rfl args w,λW ws hb hp hx b=>Ni p ws W hp hx (a.but hb) b⟩
def zmz{of:Dg->Dg}{t u:List Wd}{F:Dg->Dg}(h:P8 of t=some (F,u)):Sub u t:=by
 unfold P8 at h;by_cases hm:Ag (t.headD [])=true
 .rw[yV hm]at h;cases hn:gG t.tail with
  |none=>rw[hn]at h;cases h
  |some q =>
   obtain⟨m,v⟩:=q;rw[hn]at h;dsimp only at h;by_cases h0:m=0
   .rw[yV h0]at h;cases h
   .rw[yz h0]at h;cases h;exact(Vn hn).trans (Sub.tail t)
 .rw[yz hm]at h;cases h;exact Sub.refl _
def Gj{wi b:Bool}{t:List Wd}{i:gj×Bool}(h:((jw wi ws).map λq=>((q.1,b),q.2))=some (i,t)):Sub t ws:=by
 cases a:jw wi ws with
 |none=>rw[a]at h;cases h
 |some q =>
  obtain⟨T,u⟩:=q;rw[a]at h;cases h;exact sG a
def L5{b:Bool}{t:List Wd}{i:gj×Bool}(h:((gG ws).map λq=>((fU q.1 q.1 false,b),q.2))=some (i,t)):Sub t ws:=by
 cases a:gG ws with
 |none=>rw[a]at h;cases h
 |some q =>
  obtain⟨T,u⟩:=q;rw[a]at h;cases h;exact Vn a
def SV{t:List Wd}{i:gj×Bool}(h:uw ws=some (i,t)):Sub t ws:=by
 have s1:=Sub.tail ws;have a:=(Sub.tail ws.tail).trans s1;unfold uw at h;split at h
 .exact M9
 split at h
 .exact M9
 split at h
 .split at h
  .exact(L5 h).trans a
  .exact(L5 h).trans s1
 .dsimp only at h;split at h
  .split at h
   .exact(Gj h).trans a
   .split at h
    .exact(Gj h).trans a
    .cases h
  .split at h
   .exact M9
   .split at h
    .exact M9
    .cases h
def SU{t:List Wd}(h:Vg ws=some (T,t)):Sub t ws:=by
 cases ws with
 |nil=>cases h
 |cons w u =>
  rw[Vg]at h;cases a:uI w with
  |none=>rw[a]at h;cases h
  |some of =>
   rw[a]at h;dsimp only at h;cases hm:P8 of u with
   |none=>rw[hm]at h;cases h
   |some q =>
    obtain⟨F,v⟩:=q;rw[hm]at h;dsimp only at h;cases hn:uw v with
    |none=>rw[hn]at h;cases h
    |some q2 =>
     obtain⟨⟨i,b⟩,x⟩:=q2;rw[hn]at h;cases h;exact((SV hn).trans (zmz hm)).trans ⟨λy hy=>zg4,zZ⟩
def CM{word:Wd}{P:Parser}(hs:∀us T t,P us=some (T,t)->Sub t us):∀{n:Nat} {acc ts:List gj} {ws t:List Wd},bk word P n acc ws=some (ts,t)->Sub t ws
 | 0,_,_,_,_,h=>xc
 |n+1,acc,ts,ws,t,h=>by
  rw[bk]at h;cases hi:P ws with
  |none=>rw[hi]at h;cases h
  |some r =>
   obtain⟨T,u⟩:=r;rw[hi]at h;dsimp only at h;by_cases hc:Yr word u=true
   .rw[yV hc]at h;exact((CM hs h).trans (Sub.tail u)).trans (hs _ _ _ hi)
   .rw[yz hc]at h;cases h;exact hs _ _ _ hi
def zmy{t:List Wd}(h:RV ws=some (T,t)):Sub t ws:=by
 unfold RV N8 at h;cases a:bk [97,110,100] Vg (ws.length+1) [] ws with
 |none=>rw[a]at h;cases h
 |some r =>
  obtain⟨ts,u⟩:=r;rw[a]at h;cases h;exact CM (λus T t h=>SU h) a
def sC(p pv:Nat)(ws:List Wd)(w:z8)(hp:dF w p ws)(hx:∀x∈ws,NA x)(g:RT p w)(k:ws.length<=1000)(hc:zu w pv 0 (p,0)) :
  zC Tryz.prog 125 #[(pv,0)] w (Xo p (RV ws) w):=by
 have l:∀(fn:Fn) (first cap:Array Value) (w:z8),(uV fn first cap).run Tryz.prog w = .ok (.func fn first cap) w:=λ_ _ _ _=>rfl
 have hr:=ml p [97,110,100] allT Vg _ _ ws w hp hx k ykf (ykd p w g) (λus T t h=>SU h);have j:=Z hr;clear hr hp hx g;go_enter func125,ntmps125;go_wp2_with fail;refine j.o.mono ?_;rintro e w1 ⟨b,hb⟩;have a:RV ws=N8 [97,110,100] allT Vg ws:=rfl;cases hn:N8 [97,110,100] allT Vg ws with
 |none =>
  rw[hn]at b;obtain rfl:=b;have c:=Z (a.trans hn);clear hn a;go_wp2;refine⟨rfl,?_,hb⟩;rw[c.o]
 |some q =>
  obtain⟨T,t⟩:=q;rw[hn]at b;obtain⟨⟨v,rfl,i⟩,hp⟩:=b;have c:=Z (a.trans hn);have f:=Z i;have d:=Z hp;clear hn i hp a;go_wp2;go_ret;refine⟨?_,hb⟩;rw[c.o];exact⟨⟨_,rfl,f.o⟩,d.o⟩
structure mr(w:z8):Prop where
 s:∃t v,zu w 8 0 (.iface t v)
 r:∃t v,zu w 9 0 (.iface t v)
def mr.below(h:mr w)(hb:zP w w'):mr w':=by
 obtain⟨⟨t,v,hs⟩,⟨t2,v2,hr⟩⟩:=h;exact⟨⟨t,v,(hb.cell (X w _ hs)).trans hs⟩,⟨t2,v2,(hb.cell (X w _ hr)).trans hr⟩⟩
def mr.at(h:mr w)(hb:zP w w')(hp:(w:Nat)<=p):RT p w':=by
 have h2:=h.below hb;obtain⟨⟨t,v,hs⟩,⟨t2,v2,hr⟩⟩:=h;have a:=X w _ hs;have b:=X w _ hr;dsimp only at a b;exact⟨h2.s,h2.r,J,J⟩
def xmj(r:Option gj)(w:z8)(e:xU)(w':z8):Prop :=
 (match r with|none=>e = .returned .nilFunc|some T=>∃v,e = .returned v/\j8 (w:Nat) (w':Nat) w' v T)/\zP w w'
def SQ{base:Nat}(h:w.ownsRow base 9 1 v ws.length (ws.map zM))(o:Obj):dF ((w.alloc (.cells #[v] 264)).alloc o) (w:Nat) ws:=by
 have hb:yD w w ((w.alloc (.cells #[v] 264)).alloc o):=((zv _ _).alloc (Y _) _).alloc zZ _;have b:(w:Nat)<(w.alloc (.cells #[v] 264)).heap.size:=zZ;have hc:zu ((w.alloc (.cells #[v] 264)).alloc o) (w:Nat) 0 v:=by
  rw[zc _ _ _ b];exact zx3
 have i:((w.alloc (.cells #[v] 264)).alloc o).frozen? (w,0)=false:=by
  rw[zV (xZ _ _ _ b)];simp
 have f:ws.length=ws.length:=rfl;rcases h.2 with⟨hv,h0⟩|⟨g,cap,c,hv,l,d,h1,h2,k,m⟩
 .subst hv;have hw:ws=[]:=zN h0;subst hw;exact⟨none,0,hc,i,Y _,zQ _,λj e=>absurd e (KV j)⟩
 .subst hv;have a:g<(w:Nat):=by
   rcases uM g (w:Nat)with q|q
   .exact q
   .rw[Zu J]at d;cases d
  refine⟨some ⟨g,0,none⟩,cap,hc,i,h1,h2,λj e=>⟨_,rfl,⟨by show g≠(w:Nat);omega,c,(0,0),(hb.block g a).trans d⟩,?_⟩⟩;rw[vS,hb.cell (p:=⟨g,j,none⟩) a,h.cellAt j J];simp[e]
def zmx(p pv:Nat)(w:z8)(b:RT p w)(hc:vP w pv (p,0))(a:pv≠p):xzu p w (.func (.func 125) #[] #[(pv,0)]) RV :=
 ⟨_,_,_,rfl,λargs w=>enters_of func125 yq rfl args w,λW ws hb hp hx d=>sC p pv ws W hp hx (b.but hb) d (hc.but hb a).c⟩
def Hd(s:ByteArray)(w:z8)(hs:s.size<=9223372036854775807)(hT:mr w):zC Tryz.prog 75 #[.string s] w (xmj (IG s.data.toList) w):=by
 have hmf:∀(fn:Fn) (first cap:Array Value) (w:z8),(uV fn first cap).run Tryz.prog w = .ok (.func fn first cap) w:=λ_ _ _ _=>rfl
 obtain⟨r,hr⟩:=zr (IG s.data.toList);rw[hr];unfold IG at hr;rw[vG]at hr;by_cases C:200<s.size
 .rw[yV C]at hr;subst hr;have h1:decide ((200:Int)<(s.size:Int))=true:=by simp;omega
  go_enter_defers func75,ntmps75;go_wp2;refine qb (f:=121) (args:=#[(w,0)]) zZ kL ?_;refine(Kq (w:Nat) _).mono ?_;rintro e u' Vk ⟨rfl,rfl,rfl⟩;simp[UA,Eu,yN,results75,go_sem];exact⟨rfl,(zv _ _).alloc (Y _) _⟩
 .rw[yz C]at hr;have h1:decide ((200:Int)<(s.size:Int))=false:=by simp;omega
  have htk:=λW=>ej s W J
  have HTK:=Z htk;have HR:=Z hr;have HT:=Z hT;clear htk hr hT;go_enter_defers func75,ntmps75;go_wp2_with fail;have F1:∃W,W=w.alloc (.cells #[.nilFunc] 177)/\zP w W/\vP W (w:Nat) .nilFunc/\W.heap.size=(w:Nat)+1:=⟨_,rfl,(zv _ _).alloc (Y _) _,vP.made _ _ _ zR,zZ⟩;obtain⟨W,hW,R,cB,hsW⟩:=F1;rw[<-hW];clear hW;refine(HTK.o W).mono ?_;rintro e w2 ⟨B,F⟩;have j:zP w w2:=R.trans (F.mono R.size);have n:vP w2 (w:Nat) .nilFunc:=cB.but (p:=(w2:Nat)) (xI.of F) (by have:=cB.lt;have:=F.size;omega);cases hn:aH s.data.toList with
  |none =>
   rw[hn]at B;obtain rfl:=B;have d:r=none:=(by rw[<-HR.o,hn]);have l:=Z d;clear hn d;refine qb (f:=121) (args:=#[(w,0)]) zZ kL ?_;refine(CH (w:Nat) _ [] _ n.c n.z).mono ?_;rintro e u' Vk ⟨rfl,rfl,rfl⟩;have b:zu ((w2.setCell (w,0) .nilFunc).alloc (.cells #[] 259)) (w:Nat) 0 .nilFunc:=by
    rw[zc _ _ _ (by simpa[xg]using n.lt),uX (h:=n.c)]
   simp[UA,Eu,yN,results75,go_sem,b];refine⟨?_,(j.setCell (Y _) _).alloc (by simpa[xg]using j.size) _⟩;rw[l.o]
  |some ws =>
   rw[hn]at B;obtain⟨v,rfl,A⟩:=B;obtain⟨Ij,hlen⟩:=ykg hn Gu;have HN:=Z hn;obtain⟨a,cap,rfl⟩:=zn A;have F3:∃u,u=(w2.alloc (.cells #[.slice a ws.length cap] 264)).alloc (.cells #[(zU (w2:Nat) 0)] 261)/\zP w2 u/\dF u (w2:Nat) ws/\vP u ((w2:Nat)+1) (zU (w2:Nat) 0)/\u.heap.size=(w2:Nat)+2:=by
    refine⟨_,rfl,((zv _ _).alloc (Y _) _).alloc zZ _,SQ A _,?_,zZ⟩;have hs:(w2.alloc (.cells #[.slice a ws.length cap] 264)).heap.size=(w2:Nat)+1:=zZ;exact AX
   obtain⟨u,P,Q,I,N,V⟩:=F3;have xcg:=n.lt;have cB3:vP u (w:Nat) .nilFunc:=n.but (p:=(u:Nat)) (xI.of Q) J;have y:zP w u:=j.trans (Q.mono j.size);have O:RT (w2:Nat) u:=HT.o.at y j.size;have D:=ml (w2:Nat) [111,114] Zi RV _ _ ws u I Ij J zm9 (zmx (w2:Nat) ((w2:Nat)+1) u O N J) (λus T t h=>zmy h);have L:=Z D;have M:=Z V;have HP3:=Z I;clear hn A D O V I Ij;go_wp2_with fail;rw[<-P];clear P;refine L.o.mono ?_;rintro e K ⟨B,G⟩;have hPB:(w:Nat)≠(w2:Nat):=J;have g:=cB3.but G hPB;have cP4:=N.but G J;have m:zP w K:=y.trans (G.low J y.size);cases hn:N8 [111,114] Zi RV ws with
   |none =>
    rw[hn]at B;obtain rfl:=B;have d:r=none:=(by rw[<-HR.o,HN.o];show(match pOr ws with|some (T,[])=>some T|_=>none)=none;unfold pOr;rw[hn]);have l:=Z d;clear hn d;refine qb (f:=121) (args:=#[(w,0)]) zZ kL ?_;refine(CH (w:Nat) _ [] _ g.c g.z).mono ?_;rintro e u' Vk ⟨rfl,rfl,rfl⟩;have b:zu ((K.setCell (w,0) .nilFunc).alloc (.cells #[] 259)) (w:Nat) 0 .nilFunc:=by
     rw[zc _ _ _ (by simpa[xg]using g.lt),uX (h:=g.c)]
    simp[UA,Eu,yN,results75,go_sem,b];refine⟨?_,(m.setCell (Y _) _).alloc (by simpa[xg]using m.size) _⟩;rw[l.o]
   |some q =>
    obtain⟨T,t⟩:=q;rw[hn]at B;obtain⟨⟨v,rfl,ht⟩,S⟩:=B;have U:pOr ws=some (T,t):=hn;have HPO:=Z U;have P9:=Z ht;have ul3:=S.lt;obtain⟨E,i,rfl,_⟩:=ht;obtain⟨a4,c4,e1,e2,e3,e4,e5⟩:=S;have yB:=g.c;have yBz:=g.z;have yP:=cP4.c;have hBt:(w:Nat)<(K:Nat):=g.lt;clear hn U e5;cases t with
    |nil =>
     have d:r=some T:=zvf;have l:=Z d;clear d;go_wp2;refine qb (f:=121) (args:=#[(zU (w:Nat) 0)]) zZ kL ?_;refine(Kq (w:Nat) _).mono ?_;rintro e u' Vk ⟨rfl,rfl,rfl⟩;have cF:=(g.same (.func (.func E) #[] i)).same (.func (.func E) #[] i);have H:yD w w ((K.setCell (zU (w:Nat) 0) (.func (.func E) #[] i)).setCell (zU (w:Nat) 0) (.func (.func E) #[] i)):=(m.setCell (Y _) _).setCell (Y _) _;have b:=cF.c;simp[UA,Eu,yN,results75,go_sem,b];refine⟨?_,H⟩;rw[l.o];have bh:((K.setCell (zU (w:Nat) 0) (.func (.func E) #[] i)).setCell (zU (w:Nat) 0) (.func (.func E) #[] i)).heap.size=(K:Nat):=(by simp[xg]);exact⟨_,rfl,P9.o.keep ⟨by rw[bh];exact Y _,λk k1 k2=>by
      have hk:k≠(w:Nat):=(by have:=M.o;omega);rw[yZ _ _ _ _ hk,yZ _ _ _ _ hk]⟩ (by have:=M.o;omega) (by rw[bh];exact Y _)⟩
    |cons x t' =>
     have d:r=none:=zvf;have l:=Z d;clear d;go_wp2;refine qb (f:=121) (args:=#[(zU (w:Nat) 0)]) zZ kL ?_;refine(Kq (w:Nat) _).mono ?_;rintro e u' Vk ⟨rfl,rfl,rfl⟩;have cF:=(g.same (.func (.func E) #[] i)).same .nilFunc;have H:yD w w ((K.setCell (zU (w:Nat) 0) (.func (.func E) #[] i)).setCell (zU (w:Nat) 0) .nilFunc):=(m.setCell (Y _) _).setCell (Y _) _;have b:=cF.c;simp[UA,Eu,yN,results75,go_sem,b];refine⟨?_,H⟩;rw[l.o]
variable{S:List (Nat×gj)}
def D6(lo hi:Nat)(w:z8)(a:Option yM)(S:List (Nat×gj)):Prop :=
 ∀j (h:j<S.length),∃g o v,a=some ⟨g,o,none⟩/\zu w g (o+j*2) (.int .i64 S[j].1)/\zu w g (o+j*2+1) v/\lo<=g/\g<hi/\j8 lo hi w v S[j].2
def D6.keep{a:Option yM}(h:D6 lo hi w a S)(b:xh lo hi w w')(h1:lo'<=lo)(h2:hi<=hi'):D6 lo' hi' w' a S:=λj l=>by
 obtain⟨g,o,v,e,f,i,c,d,k⟩:=h j l;exact⟨g,o,v,e,(b.cell (p:=⟨g,_,none⟩) c d).trans f,(b.cell (p:=⟨g,_,none⟩) c d).trans i,J,J,k.keep b h1 h2⟩
def n7(S:List (Nat×gj))(x:Dg):Nat:=match S.find? (λq=>q.2 x) with|some q=>q.1|none=>5
def Nl(S:List (Nat×gj))(a:Option yM)(c:Nat)(nv:Value)(x:Dg)(lo hi:Nat)(w:z8)(hl:S.length<=1000000)(ht:D6 lo hi w a S)(I:hi<=(w:Nat))(hn:uh w nv x) :
  zC Tryz.prog 38 #[.slice a S.length c,nv] w λe w'=>e = .returned (.int .i64 (n7 S x))/\zP w w':=by
 have HN:=Z hn;obtain⟨T,g,go,cap,n',k',rfl⟩:=hn.form;have F:∃W,W=w.alloc (.cells #[.bool T,.slice (g,go) n' cap,k'] 99)/\zP w W/\W.heap.size=(w:Nat)+1/\NR W (w:Nat) (.agg #[.bool T,.slice (g,go) n' cap,k']) :=
  ⟨_,rfl,(zv _ _).alloc (Y _) _,zZ,⟨zZ,_,_,_,rfl,uU,uU,uU⟩⟩
 obtain⟨W,V,t,hs,C⟩:=F;have HT:=Z (ht.keep (vu t I I) (Y _) (Y _));have O:=Z (HN.o.below t);have d:hi<=(W:Nat):=J;clear ht hn;go_enter func38,ntmps38;go_wp2_with fail;rw[<-V];clear V;obtain⟨B,hB⟩:∃B,B=(w:Nat):=⟨_,rfl⟩;rw[<-hB]at C|-;have mf:=Z hB;clear hB;go_loopw [9] (λi wr=>∃k:Nat,k<=S.length/\i = .int .i64 k/\(S.take k).find? (λq=>q.2 x)=none/\zP W wr) (λi _=>S.length - (intOf i).toNat)
 case atStart=>exact⟨0,zQ _,rfl,rfl,zv _ _⟩
 case round =>
  obtain⟨k,hk,rfl,y,b⟩:=hrel;have M:=Z y;clear y;have f:zP w wr:=t.trans (b.mono J);by_cases u:k<S.length
  .obtain⟨ga,o,v,rfl,D,E,h1,h2,U⟩:=HT.o k u;have H:ga<(W:Nat):=(by omega);have Vs:=(b.cell (p:=(ga,o+k*2)) H).trans D;have ul4:=(b.cell (p:=(ga,o+k*2+1)) H).trans E;have P:=vu (lo:=lo) b d d;have z:=U.keep P (Y _) (Y _);have HTR:=Z z;obtain⟨K,N,rfl,ot,j⟩:=z;have m:yD wr wr (wr.alloc (.cells #[.int .i64 S[k].1,.func (.func K) #[] N] 179)):=(zv _ _).alloc (Y _) _;have G:=j (wr.alloc (.cells #[.int .i64 S[k].1,.func (.func K) #[] N] 179)) (vu m (zj d b.size) (zj d b.size)) _ x ((O.o.below b).below m);have HC:=Z G;obtain⟨r,bb,ss,kk,e0,c0,c1,c2⟩:=C.below b;cases e0;have d0:∀o,(wr.alloc o).cell? (B,0)=_:=λo=>(zc _ _ _ r).trans c0
   have d1:∀o,(wr.alloc o).cell? (B,1)=_:=λo=>(zc _ _ _ r).trans c1
   have d2:∀o,(wr.alloc o).cell? (B,2)=_:=λo=>(zc _ _ _ r).trans c2
   have n:=b.trans (m.mono b.size);have h:=f.trans (m.mono f.size);have Q:(wr:Nat)<(wr.alloc (.cells #[.int .i64 S[k].1,.func (.func K) #[] N] 179)).heap.size:=zZ;have a0:zu (wr.alloc (.cells #[.int .i64 S[k].1,.func (.func K) #[] N] 179)) (wr:Nat) 0 (.int .i64 S[k].1):=zf _ _ _ _ _;clear D E U j G;go_wp2_with fail;refine HC.o.mono ?_;rintro e w1 ⟨rfl,s⟩;have OB:=n.trans (s.mono n.size);have A:zP w w1:=h.trans (s.mono h.size);have a1:=(s.cell (p:=(wr,0)) Q).trans a0;cases l:S[k].2 x
   .have L:(S.take (k+1)).find? (λq=>q.2 x)=none:=by
     rw[yj u,zr2,M.o];simp[l]
    have HF:=Z L;clear l L;exact Ad
   .have hf:n7 S x=S[k].1:=by
     have h1:S.find? (λq=>q.2 x)=some S[k]:=by
      have R:S=S.take k++S[k]::S.drop (k+1):=(by rw[<-yY u,Xx]);have h2:=congrArg (List.find? (λq=>q.2 x)) R;rw[zr2,M.o,Option.none_or,List.find?_cons_of_pos (p:=λq:Nat×gj=>q.2 x) l]at h2;exact h2
     unfold n7;rw[h1]
    have HF:=Z hf;clear l hf;go_wp2;go_ret;exact⟨gK,A⟩
  .obtain rfl:k=S.length:=(by omega);have y:=M.o;rw[fE]at y;have hf:n7 S x=5:=(by unfold n7;rw[y]);have HF:=Z hf;clear y M hf;go_wp2;go_ret;exact⟨gK,f⟩
def xmg(mi po gr:Int)(fi ne:Nat)(ds:List Int)(Sc So:List (Nat×gj)):jd Unit :=
 ⟨λn=>VS n.1 (xG (n.2.1++n.2.2)) n.2.2.length mi po gr fi ne ds,λb d=>n7 (if b then So else Sc) d,λ_ u=>(.no,u)⟩
def xzg{g:Nat}{ne:Nat}{ds:List Int}{f So:List (Nat×gj)}{a a':Option yM}{c':Nat}(y:Hx w g mi po gr fi ne ds)(z:g<(w:Nat))(m:I32 mi/\I32 po/\I32 gr/\∀x∈ds,I32 x)(p:fi<=255)(q:0<fi->0<ne)(i:ne<=255)
  (g0:zu w g 0 (.slice a f.length c)) (g1:zu w g 1 (.slice a' So.length c')) (t:f.length<=1000000/\So.length<=1000000) (hc:D6 lo hi w a f) (A:D6 lo hi w a' So) (e:hi<=(w:Nat))
  (s:∀n:uL,Ny n.2->(VS n.1 (xG (n.2.1++n.2.2)) n.2.2.length mi po gr fi ne ds).length<=5000) (r:∀b d,n7 (if b=true then So else f) d<6):xzz w g (xmg mi po gr fi ne ds f So):=by
 refine⟨λW l n hf hn=>?_,s,⟨_,_,λW hf=>⟨hf.cell g0 id,hf.cell g1 id⟩,λW l d hf hn=>?_,λW l d hf hn=>?_⟩,r⟩
 .obtain⟨gd,o,cap,rfl,h2,B,-,⟨c0,u⟩,v,k⟩:=hn;have j:=hf.size;refine IP g gd o cap n.2.2.length _ n.1 (xG (n.2.1++n.2.2)) mi po gr fi ne ds W (y.below (Ky hf) z) J v (X _ _ u) GV J h2 ?_ ?_ m p q i
  .have:=k.Bp;have:=k.D1;omega
  .exact rV (by rw[uJ,k.zcj,k.zk4];rfl)
 .have j:=hf.size;have h:=Nl f a c l d lo hi W t.1 (hc.keep (vu (Ky hf) e e) (Y _) (Y _)) J hn;exact h
 .have j:=hf.size;have h:=Nl So a' c' l d lo hi W t.2 (A.keep (vu (Ky hf) e e) (Y _) (Y _)) J hn;exact h
def Ds(r:Int):(yA r).length<=4:=by
 unfold yA;rw[vg];unfold TQ;repeat' split
 all_goals simp
def CN{f:Nat->List UInt8}(h:∀i,(f i).length<=c):∀k,((xB k).flatMap f).length<=k*c
 | 0=>zZ
 |k+1=>by
  have:=CN h k;have h2:=h k;simp only[List.range_succ,yn,zy,List.flatMap_singleton,Nat.succ_mul];omega
def SK(ds l:List Int)(k:Nat):(De ds l k).length<=4:=by
 unfold De;first|exact Ds _|(split<;>first|exact Ds _|simp)
def ef(a:Bool)(l:List Int)(sc:Nat)(mi po gr:Int)(fi ne:Nat)(ds:List Int)(h:l.length<=200)(hs:sc<=200):(VS a l sc mi po gr fi ne ds).length<=5000:=by
 unfold VS;have h1:(if a=true then yA mi else []).length<=4:=WR;have h2:(VY gr fi ne ds (l.take (l.length - sc)) (l.length - sc)).length<=(l.length - sc)*8:=by
  unfold VY;refine CN (λi=>?_) _;have:=SK ds (l.take (l.length - sc)) i;rw[zy];have b:(if (decide (0<i) && Yl gr fi ne ((l.take (l.length - sc)).length - i))=true then yA gr else []).length<=4:=WR;omega
 have b:(fO po ds (l.drop (l.length - sc)) sc).length<=sc*8:=by
  unfold fO;refine CN (λi=>?_) _;have:=SK ds (l.drop (l.length - sc)) i;rw[zy];have b:(if (i==0)=true then yA po else []).length<=4:=WR;omega
 rw[zy,zy];omega
variable{kv tv:Value}
def jR.fr{b:Nat}{f:Nat->Option Nat}(h:jR w b n f)(hf:Fr F F' w w')(hb:¬F b):jR w' b n f:=h.keep (hf.keep b h.lt hb)
def YD(cs:List Wd)(op:Nat):Nat->List Nat->Bool
 |_,[]=>true
 |j,k::r=>decide (k<cs.length) && (decide (j≠0) ||decide ((uW op).head?≠some 110) ||kV (cs.getD k [])) && YD cs op (j+1) r
def L6(cs:List Wd)(op:Nat):∀(r:List Nat) (j:Nat),j≠0->YD cs op j r=r.all (λk=>decide (k<cs.length))
 |[],_,_=>rfl
 |k::r,j,h=>by
  rw[YD,L6 cs op r (j+1) J];simp[h]
def Nn(cs:List Wd)(i:uG):X7 cs i=(YD cs i.op 0 i.k && decide (i.v<=999999999)):=by
 unfold X7;cases i.k with
 |nil=>simp[YD]
 |cons k r =>
  rw[YD,L6 cs i.op r 1 zR];simp only[vh];cases decide (k<cs.length)<;>cases r.all (λk=>decide (k<cs.length))<;>simp
def sH{g o:Nat}{rs:List (Value×Value)}{i:uG}(h:ug q s vC vI rs mb w)(hi:IV w g o i kv tv)(W:i.op<12)(V:i.k≠[]->uW i.op≠[])(hF:qj w)(hk:∀x∈i.k,x<=4000000000)(hv:i.v<=4294967295)(hc:∀c∈s.cs,c.length<=1000)(T:i.k.length<=1000000) :
  zC Tryz.prog 101 #[(q,0),(g,o)] w λe w'=>e = .returned (.bool (X7 s.cs i))/\Fr yH yH w w':=by
 obtain⟨a,cap,rfl⟩:=hi.k.slice;have c3:=hi.c3;have c2:=hi.c2;have c0:=hi.c0;obtain⟨n,hn⟩:=zr i.k.length;rw[hn]at c3 T;have z:=Z (zg h (zg hi hF));have HN:=Z hn;clear h hi hF hn;go_enter func101,ntmps101;go_wp2_with fail;go_loopw [12] (λiv wr=>∃j,j<=n/\iv = .int .i64 (j:Nat)/\YD s.cs i.op 0 i.k=YD s.cs i.op j (i.k.drop j)/\Fr yH yH w wr) (λiv _=>n - (intOf iv).toNat)
 case atStart=>exact⟨0,zQ _,rfl,rfl,Fr.refl _ _⟩
 case round =>
  obtain⟨j,hj,rfl,he,hf⟩:=hrel;by_cases U:j<n
  .have l:j<i.k.length:=(by rw[HN.o];exact U);have S:(j:Int)<(n:Int):=J;obtain⟨x,hx⟩:=zr (i.k[j]);have hd:i.k.drop j=x::i.k.drop (j+1):=(by rw[<-hx];exact yY l);have d:=Z (zg (show YD s.cs i.op 0 i.k=YD s.cs i.op j (x::i.k.drop (j+1))by rw[he,hd]) hf);clear he hf hd;obtain⟨a2,Gk,f,N,O,G⟩:=z.o.2.1.k.ex;obtain⟨b,rfl,hb⟩:=(by cases f;exact G j l:∃b,a=some b/\w.cell? (b.add j)=some (.int .i64 i.k[j]));rw[hx]at hb;have M:=d.o.2.cell hb id;have c0r:=d.o.2.cell c0 id;have q0r:=d.o.2.cell z.o.1.q0 id;obtain⟨m,hm⟩:=zr s.cs.length;obtain⟨pa,pc,rfl⟩:∃pa pc,vC = .slice pa m pc:=by
    rcases z.o.1.cC.2 with⟨e,e2⟩|⟨g',D,cur,e,-⟩
    .exact⟨none,0,by rw[e,<-hm];have:=e2;simp_all⟩
    .exact⟨_,_,by rw[e,<-hm]⟩
   clear f N O G hb;by_cases hxm:m<=x
   .have hxi:(m:Int)<=(x:Int):=(by omega);have L:=Z (show X7 s.cs i=false by rw[Nn,d.o.1,YD,decide_eq_false (show ¬x<s.cs.length by omega)];simp);go_wp2;go_ret;rw[L.o];exact⟨rfl,d.o.2⟩
   .have hxi:¬(m:Int)<=(x:Int):=(by omega);by_cases I:j=0
    .subst I;obtain⟨c,F,u⟩:∃c F,uW i.op=c::F:=by
      cases hf:uW i.op with
      |nil=>exact absurd hf (V (λe=>by rw[e]at l;simp at l))
      |cons c F=>exact⟨c,F,rfl⟩
     have R:=d.o.2.cell (z.o.2.2 i.op W) id;rw[u]at R;have PX:0<m:=J;have P:∃g',pa=some ⟨g',0,none⟩/\zu wr g' x (zM (s.cs.getD x [])):=by
      obtain⟨g',D,e1,-,-,e3⟩:=xf z.o.1.cC J;cases e1;refine⟨g',rfl,d.o.2.cell ?_ id⟩;rw[e3 x J];simp[show x<s.cs.length by omega]
     obtain⟨g',rfl,Q⟩:=P;have E:=M;have e0:b.add 0=b:=(by cases b;rfl);rw[e0]at E;have A:=Z u;clear u;by_cases r:c=110
     .subst r;have y:x<s.cs.length:=(by omega);have K:(s.cs.getD x []).length<=5000000:=by
       rw[ze,zk y];have:=hc _ (yf y);show(s.cs[x]).length<=5000000;omega
      have C:=Z (Io (s.cs.getD x []) wr K);have p:=Z (show YD s.cs i.op 0 i.k=(kV (s.cs.getD x []) && YD s.cs i.op (0+1) (i.k.drop (0+1)))by rw[d.o.1,YD,A.o,decide_eq_true y];simp);obtain⟨t,ht⟩:=zr (s.cs.getD x []);rw[ht]at C p Q;clear K ht;go_wp2_with fail;refine C.o.mono ?_;rintro e w5 ⟨rfl,H⟩;have B:=Z (d.o.2.trans H);clear H;cases hb:kV t
      .have L:=Z (show X7 s.cs i=false by rw[Nn,p.o,hb];simp);go_wp2;go_ret;rw[L.o];exact⟨rfl,B.o⟩
      .rw[hb,gR]at p;go_wp2;go_roundw
       case rel=>exact⟨0+1,J,rfl,p.o,B.o⟩
       case measure=>simp only[intOf];omega
     .have p:=Z (show YD s.cs i.op 0 i.k=YD s.cs i.op (0+1) (i.k.drop (0+1))by rw[d.o.1,YD,A.o,decide_eq_true (show x<s.cs.length by omega)];simp[r]);have hcn:¬(c.toNat:Int)=110:=λe=>r (dW.1 (by show c.toNat=110;omega))
      go_wp2;all_goals go_roundw
      case rel=>exact⟨0+1,J,rfl,p.o,d.o.2⟩
      case measure=>simp only[intOf];omega
    .have OK:((j:Int)=0)=False:=(by simp;omega);have p:=Z (show YD s.cs i.op 0 i.k=YD s.cs i.op (j+1) (i.k.drop (j+1))by rw[d.o.1,YD,decide_eq_true (show x<s.cs.length by omega)];simp[I]);go_wp2;go_roundw
     case rel=>exact⟨j+1,J,uN,p.o,d.o.2⟩
     case measure=>simp only[intOf];omega
  .have S:¬(j:Int)<(n:Int):=(by omega);have hdr:i.k.drop j=[]:=bn (by rw[HN.o];omega);have d:=Z (show X7 s.cs i=decide (i.v<=999999999)by rw[Nn,he,hdr];simp[YD]);have c2:=hf.cell c2 id;have HF:=Z hf;obtain⟨v,f⟩:=zr i.v;rw[f]at d c2;clear he hf hdr f z;go_wp2;go_ret;rw[d.o];refine⟨?_,HF.o⟩;show Ending.returned (.bool (decide ((v:Int)<=999999999)))=_;rw[show decide ((v:Int)<=999999999)=decide (v<=999999999)from decide_eq_decide.2 J]
end Go.Proofs.YtpggmjffejgakaaGreatDoor
