import Derived.Test.YtfcemhlpdcnckaaGreatDoorJG3
import Derived.Deep.LoopGhost
import Derived.WalkMore
import Derived.Defers
import Derived.Recover
import Derived.Maps.Own
import Derived.Maps.Views
import Derived.IntWalk
import Derived.Deep.RegionWith
import Derived.Lib.Builder
import Derived.Lib.RuneBytes
import Derived.Lib.DecodeN
import Derived.Lib.MapLaws
import Derived.Lib.RuneCount
import Derived.Lib.ValidU
import GoSem.Conv.StringToRunes
import Derived.OwnWalk
import Derived.Laws.IdiomCopy
set_option linter.defProp false
set_option maxHeartbeats 64000000
open Go.Act renaming put->ZP
open Go renaming Addr->yi,Calls->zE,Ending->gG,Leaves->WG,Oper->fG,Program->Me,TypeId->uP,Value->zx,World->z7,callsD_of_wpS->ypx,leaves_cons->jJ,plainElem_int->Zh,results->yk,rounds_succ->xk,run_underlying->zuu,settle->C4,wpAnyH->Bw,wp_loop_rounds->kh
open Go.Addr renaming add->xM
open Go.AllReadyH renaming cons->uv,nil->Ye
open Array renaming getElem?_eq_none->il,getElem?_modify->Zt,replicate->uJ
open Go.RowKit renaming Below->yX
open Go.RowKit.Below renaming heap_alloc->xA,heap_setCell->zh,refl->z8
open Bool renaming and_eq_true->zQ,and_true->Mo,not_eq_true->ZB,not_eq_true'->ypz,or_eq_true->gj,true_and->ze8
open ByteArray renaming empty->Mc
open Go.Conv renaming runesFrom->C0
open Go.DataW renaming map->zev
open Go.Exit renaming thenS->zex
open Go.ByteArray renaming toList_eq->dP
open Go.Instr renaming index->ZF,makeFunc->gP,typeAssert->zA
open Go.IntKind renaming i64->yU
open Go.Lib renaming BuilderAt->ygf,IsBuilder->ygg,Utf8Tabs->XL,cell_of_heap->zP,decodeN->kM,frozen_of_heap->yj,hasPrefix->ye,hid->Z,runeCountFrom->FJ,trimPrefix->qE,validD->zuz,validGoD->FK
open List renaming all_append->ie,all_cons->kP,all_eq_true->Yl,all_nil->PS,cons_append->yw,dropWhile_cons_of_neg->uS,dropWhile_cons_of_pos->kj,drop_drop->Vt,drop_eq_getElem_cons->yH,drop_of_length_le->yq,drop_zero->qH,eq_nil_of_length_eq_zero->zF,getD_eq_getElem?_getD->zM,getElem?_append_left->qM,getElem?_append_right->zc,getElem?_drop->MM,getElem?_eq_getElem->zw,getElem?_eq_none->Xe,getElem?_eq_some_iff->vq,getElem_append_left->lH,getElem_mem->xd,idxOf_lt_length_iff->UJ,isPrefixOf->kZ,length->qj,length_append->zI,length_cons->zm,length_drop->xz,length_nil->ur,length_pos_iff->xI,length_take->xr,map_cons->ve,map_nil->YW,mem_append->xY,mem_cons->yp,mem_cons_of_mem->yo,mem_cons_self->xB,mem_of_mem_tail->vB,mem_take_iff_getElem->XO,nil_append->kr,not_mem_nil->qW,replicate->yu,setIfInBounds_toArray->yb,set_cons_succ->xq,set_cons_zero->xu,takeWhile_cons_of_neg->kR,takeWhile_cons_of_pos->Un,take_length->kp,take_of_length_le->xJ,take_succ_cons->qO,take_succ_eq_append_getElem->zr
open Go.Maps renaming atKey_put_other->fF,atKey_put_same->dC,string_keyed->vE
open Nat renaming add_assoc->jo,add_sub_cancel_left->dD,add_zero->fD,le_of_lt->xx,le_refl->X,le_succ->bG,le_trans->zZ,lt_of_lt_of_le->ze,lt_succ_self->xf,min_eq_left->zeu,mul_le_mul->Gf,not_lt_zero->uf,pow_le_pow_right->zux,zero_add->V9,zero_le->zG
open Go.Obj.cells renaming injEq->aj
open Go.Op renaming equalIn->bE
open Option renaming map_some->MH
open Option.some renaming injEq->vw
open Go.Region renaming Mode->jx
open Go.Result renaming andThen->xO
open Go.Utf8 renaming encode->F9
open Go.Value renaming int->yF,pointer->qQ,slice->yI
open Go.WideMaps renaming keyOf_string_mk->xy
open Go.World renaming block_lt_of_cell?->Y,cell?_alloc_lt->za,cell?_of_block->yZ,cell?_setCell_same->uk,frozen?_of_block->zb,ownsMap_made->C5,ownsRow_lit->znu,ownsRow_nil->yr,setCell->xW,setCells->zeq
open Go.World.ownsRow renaming drew->bS
open Go.Proofs.Tryz
namespace Go.Proofs.YtfcemhlpdcnckaaGreatDoor
open Go Go.RowKit
set_option maxRecDepth 10000
variable{Q:Exit->Act->z7->Prop}{ws:List Wd}{j k p:Nat}{P:Me}{α β:Type}{u:zx}{w w':z7}
def tD(t:List Wd):Dw [[109,111,100],[37]] t=Y5 (t.headD []):=by
 cases t with
 |nil=>rfl
 |cons c u=>simp[Dw,vy,Y5]
def cT(w:z7)(m b:Wd)(g:Nat)(c:zy w g 0 (zv m))(a:zy w g 1 (zv b)):yM w (.slice (g,0) 2 2) [m,b] :=
 ⟨some ⟨g,0,none⟩,2,rfl,X _,zj,(λh=>xp),λj d=>by
  match j,d with
  | 0,_=>exact⟨_,rfl,by simpa[xM]using c⟩
  | 1,_=>exact⟨_,rfl,by simpa[xM]using a⟩⟩
def tB(p:Nat)(ws:List Wd)(W:z7)(hp:fB W p ws) :
  zE prog 117 #[(p,0),.slice (W,0) 2 2] (W.alloc (.cells #[zv [109,111,100],zv [37]] 9))
   λe w'=>e = .returned (.bool (Y5 (ws.headD [])))/\fB w' p (if Y5 (ws.headD [])then ws.tail else ws)/\xj p W w':=by
 have hb:yX W W (W.alloc (.cells #[zv [109,111,100],zv [37]] 9)):=(z8 _ _).alloc (X _) _;refine(tV p [[109,111,100],[37]] ws _ _ (hp.below hb) (cT _ _ _ _ (zg _ _ _ _ _) (zg _ _ _ _ _)) zY).mono ?_;rintro e w' ⟨rfl,h1,h2,_⟩;rw[tD]at h1|-;exact⟨rfl,h1,(xj.of hb).trans h2⟩
def Ln(p:Nat)(w:z7)(hp:fB w p []):zE prog 90 #[(p,0)] w (Xd p (bI []) w):=by
 obtain⟨a,cap,hc,hf,h1,h2,b⟩:=hp;clear b;go_enter func90,ntmps90;go_wp2;exact⟨rfl,rfl,xj.refl _ _⟩
def tC(fn:Fn)(first cap:Array zx)(w:z7):(binOp .eql 250 (.func fn first cap) .nilFunc).run prog w = .ok (.bool false) w:=by
 have h:∀d:Nat,(bE (d+1) 250 (.func fn first cap) .nilFunc).run prog w = .ok false w:=λd=>by
  simp[bE,zuu underlying250]
 exact If
def O2(w:z7):(binOp .eql 250 .nilFunc .nilFunc).run prog w = .ok (.bool true) w:=by
 have h:∀d:Nat,(bE (d+1) 250 .nilFunc .nilFunc).run prog w = .ok true w:=λd=>by
  simp[bE,zuu underlying250]
 exact If
def xj.frozen(h:xj p w w'){a:yi}(b:a.block<(w:Nat))(ha:a.block≠p):w'.frozen? a=w.frozen? a:=zb (h.block a.block b ha)
structure vd(w:z7)(k:Nat)(u:zx):Prop where
 c:zy w k 0 u
 z:w.frozen? (k,0)=false
 n:¬Li w k
def O3{a:yi}(h:Li (w.setCell a u) k):Li w k:=by
 obtain⟨cs,fr,h⟩:=h;by_cases d:k=a.block
 .simp only[xW,Zt,zl d.symm]at h;cases b:w.heap[k]? with
  |none=>simp[b]at h
  |some o =>
   simp only[b,MH]at h;cases o with
   |cells c e f =>
    simp only[vw,aj]at h;exact⟨c,f,by rw[b,h.2.1]⟩
   |_=>simp at h
 .exact⟨cs,fr,(zh _ _ _ _ d).symm.trans h⟩
def vd.lt(h:vd w k u):k<(w:Nat):=Y w _ h.c
def vd.but(h:vd w k u)(hb:xj p w w')(hp:k≠p):vd w' k u :=
 ⟨hb.cell h.c hp,(hb.frozen (a:=(k,0)) h.lt hp).trans h.z,λhs=>h.n (hs.of (hb.block k h.lt hp).symm)⟩
def vd.made(w:z7)(u:zx)(t:uP)(a:t≠9):vd (w.alloc (.cells #[u] t)) (w:Nat) u :=
 ⟨zg _ _ _ _ _,zY,λ⟨cs,fr,h⟩=>a (by
  have:(w.alloc (.cells #[u] t)).heap[(w:Nat)]? = some (.cells #[u] t):=R6;rw[this]at h;simp only[vw,aj]at h;exact h.2.1)⟩
def vd.same(h:vd w k u)(x:zx):vd (w.setCell (zX k 0) x) k x:=⟨by rw[uk (h:=h.c)],by simpa using h.z,λhs=>h.n (O3 hs)⟩
def vd.other(h:vd w k u)(a:k≠j)(x:zx):vd (w.setCell (j,0) x) k u :=
 ⟨(yZ (zh _ _ _ _ a)).trans h.c,(zb (zh _ _ _ _ a)).trans h.z,λhs=>h.n (O3 hs)⟩
def xj.alloc{a:z7}(h:xj p w a)(o:Obj):xj p w (a.alloc o):=h.below ((z8 _ _).alloc (X _) _)
def xj.put{a:z7}(h:xj p w a)(c:(w:Nat)<=k)(u:zx):xj p w (a.setCell (k,0) u) :=
 ⟨h.os,h.tape,h.output,by simpa[xW]using h.size,λj b hp=>(zh _ _ _ _ (show j≠k by omega)).trans (h.block j b hp)⟩
def fB.put(h:fB w p ws)(f:k≠p)(hs:¬Li w k)(u:zx):fB (w.setCell (k,0) u) p ws:=by
 obtain⟨a,cap,hc,hf,h1,h2,g⟩:=h;have hb:∀j,j≠k->(w.setCell (k,0) u).heap[j]? = w.heap[j]? := λj d=>zh _ _ _ _ d
 refine⟨a,cap,(yZ (hb p f.symm)).trans hc,(zb (hb p f.symm)).trans hf,h1,h2,λj d=>?_⟩;obtain⟨b,e1,e2,e3⟩:=g j d;have c:b.block≠k:=λe=>hs (e▸e2.2)
 exact⟨b,e1,⟨e2.1,e2.2.of (hb _ c)⟩,(yZ (hb _ (by rw[addr_add];exact c))).trans e3⟩
def ybv{γ δ:Type}{P:α->β->γ->δ->Prop}{A:Prop}(G:α->β->γ->δ->Prop)(h1:∀a b c d,P a b c d->G a b c d)(h2:(∀a b c d,P a b c d->G a b c d)->A):A:=h2 h1
def U8{md:jx}{ops:Array fG}{S:z7->Prop}{f:Nat}{m m':Array Bool}{a:Act}(hm:m'=m)(h:Bw P md ops Q S f m a w):Bw P md ops Q S f m' a w:=hm▸h
def CI(p:Nat)(c:Wd)(t:List Wd)(w:z7)(hp:fB w p (c::t))(hx:∀x∈c::t,Ll x)(T:RT p w)(hl:t.length<=999) :
  zE prog 90 #[(p,0)] w (Xd p (bI (c::t)) w):=by
 have R:=Z hp;have HX:=Z hx;have HT:=Z T;have ud:=hp.lt;obtain⟨a,cap,hc,hf,h1,h2,S⟩:=hp;obtain⟨b,rfl,hb,y⟩:=S 0 zY;have hx':w.cell? b=some (zv c):=by
  have:(b.add 0)=b:=IC;rw[this]at y;exact y
 have hmx:cap<=9223372036854775807:=RZ;have C:(c::t).length=t.length+1:=rfl;rw[C]at hc h1;obtain⟨r,hr⟩:=zo (bI (c::t));rw[hr];have HR:=Z hr;have u:=Le ⟨c.toArray⟩ w;rw[toList_mk]at u;have E:=Z u;have U:=tC;have V:=O2;have hmf:∀(fn:Fn) (first cap:Array zx) (w:z7),(gP fn first cap).run prog w = .ok (.func fn first cap) w:=λ_ _ _ _=>rfl
 clear y S hr hx T u;go_enter func90,ntmps90;go_wp2_with fail;refine E.o.mono ?_;rintro e w1 ⟨hq,rfl⟩;cases A:xF c with
 |none =>
  rw[A]at hq;obtain rfl:=hq;have j8:r=none:=by rw[<-HR.o,bI,A]
  have QR:=Z j8;clear j8 A;go_wp2;refine⟨rfl,?_,(xj.refl _ _).alloc _⟩;rw[QR.o]
 |some F =>
  rw[A]at hq;obtain⟨fv,rfl,s⟩:=hq;have HFV:=Z s;have hK:=s 0 0 w;obtain⟨kf,QT,rfl,_⟩:=hK;have HO:=Z A;clear s A;by_cases I:cap=1
  .have O:t=[]:=zF J;subst O;subst I;go_wp2_with fail;have D:∃d,d=(w.setCell (p,0) (.slice (some b) 0 0)).alloc (.cells #[.func (.func kf) #[] QT] 250)/\xj p w d/\d.heap.size=(w:Nat)+1/\fB d p ([]:List Wd)/\vd d (w:Nat) (.func (.func kf) #[] QT):=by
    have hs:(w.setCell (p,0) (.slice (some b) 0 0)).heap.size=(w:Nat):=ZA;refine⟨_,rfl,(xj.set p w 0 _).alloc _,ZA,((R.o.step hc).2 rfl).below ((z8 _ _).alloc (X _) _),?_⟩;exact S4
   obtain⟨d,fe,NJ,l,f,cQ1⟩:=D;have zg2:∀o,((w.setCell (zX p 0) (.slice (some b) 0 0)).alloc (.cells #[.func (.func kf) #[] QT] 250)).alloc o=d.alloc o:=λo=>by rw[fe]
   obtain⟨t,M⟩:∃t:List Wd,t=[]:=⟨_,rfl⟩;rw[<-M]at HX HR f;have hl:t.length<=999:=(by rw[M];decide);clear M;have G:=Z f;have H:=Z l;have g:=tB p t d f;rw[l]at g;have HIM:=Z g;clear f l g;exact rH
  .have fH:¬(cap:Int)=1:=(by omega);go_wp2_with fail;have D:∃d,d=(w.setCell (p,0) (.slice (some (b.add 1)) t.length (cap - 1))).alloc (.cells #[.func (.func kf) #[] QT] 250)/\xj p w d/\d.heap.size=(w:Nat)+1/\fB d p t/\vd d (w:Nat) (.func (.func kf) #[] QT):=by
    have hs:(w.setCell (p,0) (.slice (some (b.add 1)) t.length (cap - 1))).heap.size=(w:Nat):=ZA;refine⟨_,rfl,(xj.set p w 0 _).alloc _,ZA,((R.o.step hc).1).below ((z8 _ _).alloc (X _) _),?_⟩;exact S4
   obtain⟨d,fe,NJ,l,f,cQ1⟩:=D;have zg2:∀o,((w.setCell (zX p 0) (.slice (some (b.add 1)) t.length (cap - 1))).alloc (.cells #[.func (.func kf) #[] QT] 250)).alloc o=d.alloc o:=λo=>by rw[fe]
   have G:=Z f;have H:=Z l;have g:=tB p t d f;rw[l]at g;have HIM:=Z g;clear f l g;have B:(some (b.add 1):Option yi)=some ⟨b.block,b.off+1,none⟩:=rfl;rw[B]at zg2;exact rH
def Lo(p:Nat)(ws:List Wd)(w:z7)(hp:fB w p ws)(hx:∀x∈ws,Ll x)(a:RT p w)(hl:ws.length<=1000) :
  zE prog 90 #[(p,0)] w (Xd p (bI ws) w):=by
 match ws,hp,hx,hl with
 |[],hp,_,_=>exact Ln p w hp
 |c::t,hp,hx,hl=>exact CI p c t w hp hx a JB
variable{lo:Nat}{T:gx}
def zrk(p:Nat)(w:z7)(v:zx)(P:Parser):Prop :=
 ∃k first cap,v = .func (.func k) first cap/\(∀args w,(callFunc k args).run prog w = .ok (.enter k args) w) /\
  ∀W ws,xj p w W->fB W p ws->(∀x∈ws,Ll x)->ws.length<=1000->zE prog k (first++cap) W (Xd p (P ws) W)
def zrj(v:zx)(tog:List gx->gx):Prop :=
 ∃k,v = .func (.func k) #[] #[]/\(∀args w,(callFunc k args).run prog w = .ok (.enter k args) w) /\
  ∀(Ts:List gx) (a:Option yi) (c lo:Nat) (W:z7),Ts.length<=1000000->lo<=(W:Nat)->Zd lo (W:Nat) W a Ts ->
   zE prog k #[.slice a Ts.length c] W λe w'=>(∃v,e = .returned v/\kO lo w'.heap.size w' v (tog Ts))/\zJ W w'
def zrg(p:Nat)(word:Wd)(P:Parser)(r:Option (List gx×List Wd))(n0:Nat)(w:z7)(sv:zx)(n:Nat)(wr:z7):Prop :=
 ∃(Ts:List gx) (us:List Wd),Y7 (w:Nat) wr sv Ts/\fB wr p us/\xj p w wr/\us.length+Ts.length<=n0+1/\(∀x∈us,Ll x)/\us.length<=n/\us.length<=n0 /\
  (if Zg word us then qs word P n Ts us.tail else some (Ts,us))=r
def zf9{d b:Nat}(e:kO d b w u T)(c:lo<=d)(a:b<=(w:Nat))(i:lo<=(w:Nat)) :
  Y7 lo (w.alloc (.cells #[u] 132)) (.slice (w,0) 1 1) [T]:=by
 have hb:yX w w (w.alloc (.cells #[u] 132)):=(z8 _ _).alloc (X _) _;refine⟨[u],znu w #[u] 1 i zj rfl,λj h=>?_⟩;have:j=0:=by simp at h;omega
 subst this;exact⟨u,d,b,rfl,c,zZ a hb.size,λg f=>by cases f;exact .inr a,e.keep (uO hb a a) (X _) (X _)⟩
def Ag(p:Nat)(word:Wd)(K:List gx->gx)(P:Parser)(tv ov:zx)(ws:List Wd)(w:z7)(hp:fB w p ws)(hx:∀x∈ws,Ll x)(hl:ws.length<=1000)(ht:zrj tv K)(ho:zrk p w ov P)(hs:∀us T t,P us=some (T,t)->Sub t us) :
  zE prog 86 #[(p,0),zv word,tv,ov] w (Xd p (Dc word K P ws) w):=by
 obtain⟨r,hr⟩:=zo (qs word P (ws.length+1) [] ws);have hpr:Dc word K P ws=r.map λq=>(K q.1,q.2):=by unfold Dc;rw[hr]
 rw[hpr];obtain⟨HR,HX,HP,HS⟩:=hdd hr hx hp hs;have W:=hp.lt;obtain⟨kt,rfl,het,Q⟩:=ht;obtain⟨ko,first,cap,rfl,heo,h⟩:=ho;have xk2:=Z Q;have L:=Z h;clear hr hpr hx hp hs Q h;go_enter func86,ntmps86;go_wp2_with fail;refine(L.o w ws (xj.refl _ _) HP.o HX.o hl).mono ?_;rintro e w1 ⟨hq,U⟩;cases hn:P ws with
 |none =>
  rw[hn]at hq;obtain rfl:=hq;have D:r=none:=by rw[<-HR.o,qs,hn]
  have R:=Z D;clear D hn;go_wp2;refine⟨rfl,?_,U⟩;rw[R.o];rfl
 |some q =>
  obtain⟨T1,t1⟩:=q;rw[hn]at hq;obtain⟨⟨v,rfl,hT1⟩,hp1⟩:=hq;have z:=HS.o _ _ _ hn;have lA:=zf9 hT1 (X (w:Nat)) (X _) U.size;have HRL:=Z lA;obtain⟨kv,cpv,rfl,_⟩:=hT1;have xk3:xj p w (w1.alloc (.cells #[.func (.func kv) #[] cpv] 132)):=U.below ((z8 _ _).alloc (X _) _);have O:fB (w1.alloc (.cells #[.func (.func kv) #[] cpv] 132)) p t1:=hp1.below ((z8 _ _).alloc (X _) _);have HP1:=Z O;have aU:(if Zg word t1 then qs word P ws.length [T1] t1.tail else some ([T1],t1))=r:=by rw[<-HR.o,qs,hn];rfl
  have ZC:=Z aU;have mg:=Z (λx hx=>HX.o x (z.mem x hx));have N:=z.len;clear hn hp1 O lA aU z;go_wp2_with fail;go_loopg [9] ws.length (λn sv wr=>zrg p word P r ws.length w sv n wr)
  case atStart=>exact⟨[T1],t1,HRL.o,HP1.o,xk3,zV,mg.o,N,N,ZC.o⟩
  case round =>
   obtain⟨Ts,us,E,lJ,tE,hlen,PI,hun,hu0,f⟩:=hrel;obtain⟨gi,HPA,HXS,Qm⟩:=hdd E lJ PI f;obtain⟨a,c,rfl⟩:=E.form;clear E lJ PI f;go_wp2_with fail;refine(dY p word us _ HPA.o).mono ?_;rintro e w2 ⟨rfl,d,qX⟩;have b:=tE.trans qX;have i:=Z (gi.o.but qX W);have aK:=Z d;clear d;cases hi:Zg word us
   .have f:=Qm.o;rw[hi]at f;have d:=aK.o;rw[hi]at d;have B:=Z f;have HPZ:=Z d;have hsm:=xk2.o Ts a c (w:Nat) w2 J b.size i.o.tests;have HSM:=Z hsm;clear hi f d hsm;go_wp2_with fail;refine HSM.o.mono ?_;rintro e w3 ⟨⟨v,rfl,htt⟩,C⟩;have Ex:=Z htt;clear htt;go_wp2;go_ret;rw[<-B.o];exact⟨⟨⟨_,rfl,Ex.o⟩,HPZ.o.below C⟩,b.below C⟩
   .have f:=Qm.o;rw[hi]at f;have d:=aK.o;rw[hi]at d;have HPZ:=Z d;have aL:0<us.length:=by
     cases us with
     |nil=>cases hi
     |cons x y=>simp
    obtain⟨m,rfl⟩:∃m,gk=m+1:=⟨gk - 1,J⟩;have B:=Z f;have h:=L.o w2 us.tail b d (λx hx=>HXS.o x (vB hx)) zV;have HON:=Z h;clear hi f d h;go_wp2_with fail;refine HON.o.mono ?_;rintro e w3 ⟨I,C⟩;have j:=b.trans C;cases l:P us.tail with
    |none =>
     rw[l]at I;obtain rfl:=I;have D:r=none:=(by rw[<-B.o];simp[qs,l]);have R:=Z D;clear D l;go_wp2;refine⟨rfl,?_,j⟩;rw[R.o];rfl
    |some q3 =>
     obtain⟨T3,t3⟩:=q3;rw[l]at I;obtain⟨⟨v,rfl,hT3⟩,hp3⟩:=I;have A:=HS.o _ _ _ l;have M:(if Zg word t3 then qs word P m (Ts++[T3]) t3.tail else some (Ts++[T3],t3))=r:=(by rw[<-B.o];simp[qs,l]);have xk4:=Z M;obtain⟨vs,CZ,tG⟩:=i.o.but C W;obtain⟨HFT,HP4,lg,MP,HX3⟩:=FD hT3 hp3 tG CZ (λx hx=>HXS.o x (vB (A.mem x hx)));have hl3:t3.length+1<=us.length:=(by have:=A.len;simp at this;omega);obtain⟨kf,QT,rfl,_⟩:=hT3;clear hp3 tG CZ l M A;go_wp2_with (at_builtin;refine Xf QZ rfl _ _ rfl (w:Nat) _ Ts.length vs rfl (MP.o.alloc _) ⟨(w3:Nat),0,none⟩ 1 1 [.func (.func kf) #[] QT] rfl rfl Xq jr J (by have:=j.size;simp;omega) ?_);intro RN w5 Ya H NK;have G:yX w3 w3 (w3.alloc (.cells #[.func (.func kf) #[] QT] 132)):=(z8 _ _).alloc (X _) _;have s:∀g,(yI a Ts.length c).ownBlock=some g->(w:Nat)<=g/\g<(w2:Nat):=λg hg=>by
      obtain⟨_,ho3,_⟩:=i.o;exact ho3.lt g hg
     have F:Y7 (w:Nat) w5 RN (Ts++[T3]) :=
      Y7.more lg.o IG HFT.o (by have:=b.size;omega) (X _) (λg hg => .inl (s g hg).2) G H Is Ya
     have tF:fB w5 p t3:=(HP4.o.below G).row (MP.o.alloc _) W H;have V:xj p w w5:=(j.below G).SM H (λk hk=>(s k hk).1);obtain⟨a5,c5,rfl⟩:=zD Ya;have S:=Z F;have HP5:=Z tF;clear F tF Ya H NK G s;go_wp2;go_roundg m
     case measure=>omega
     case rel=>exact⟨Ts++[T3],t3,by simpa using S.o,HP5.o,V,zV,HX3.o,J,J,xk4.o⟩
variable{l:List UInt8}
def cW(s:ByteArray)(w:z7)(hs:s.size<=1000000) :
  zE prog 115 #[.string s,.string ⟨#[64]⟩] w λe w' =>
   e = .returned (.tuple #[.string ⟨(s.data.toList.take (s.data.toList.idxOf 64)).toArray⟩,.string ⟨(s.data.toList.drop (s.data.toList.idxOf 64+1)).toArray⟩,.bool (decide (s.data.toList.idxOf 64<s.size))])/\∃n,w'=w.drewN n:=by
 have a:=λw=>NL s 64 w hs
 have b:=Z a;clear a;go_enter func115,ntmps115;go_wp2_with fail;refine(b.o _).mono ?_;rintro e w' ⟨rfl,n,rfl⟩;go_wp2;go_ret3
 exact⟨rfl,n,rfl⟩
abbrev zfx:gG := .panicked [{ v := .iface 205 (.agg #[]),recovered:=false }]
def xk6(r:Option (List Wd))(w:z7)(e:gG)(w':z7):Prop :=
 (match r with|none=>e=zfx|some ws=>∃v,e = .returned v/\w'.ownsRow (w:Nat) 9 1 v ws.length (ws.map zv))/\zJ w w'
def zrf(r:Option (List Wd))(n0:Nat)(w:z7)(s sv:zx)(n:Nat)(wr:z7):Prop :=
 ∃(acc:List Wd) (l:List UInt8),s = .string ⟨l.toArray⟩/\wr.ownsRow (w:Nat) 9 1 sv acc.length (acc.map zv)/\zJ w wr/\l.length<n/\l.length+acc.length<=n0/\jh n acc l=r
def YH{m:List UInt8}(h:ye l m=false):qE l m=l:=by
 unfold qE;simp[h]
def VC{c:UInt8}{t m:List UInt8}(hm:m=[33,61]\/m=[46,46]\/m=[61]\/m=[44]\/m=[37])(h:ye (c::t) m=true):XT (c::t)=some m/\qE (c::t) m=(c::t).drop m.length:=by
 have a:qE (c::t) m=(c::t).drop m.length:=by unfold qE;rw[zl h]
 refine⟨?_,a⟩;unfold ye at h;rcases hm with rfl|rfl|rfl|rfl|rfl
 .exact nF
 .exact nF
 .exact RX
 .exact RX
 .exact RX
def cm{c:UInt8}{t:List UInt8}(a:ye (c::t) [33,61]=false)(h1:ye (c::t) [46,46]=false)(h2:ye (c::t) [61]=false)(b:ye (c::t) [44]=false)(d:ye (c::t) [37]=false):XT (c::t)=none:=by
 unfold XT;split
 .rename_i u e;cases e;simp[ye,kZ]at a
 .rename_i u e;cases e;simp[ye,kZ]at h1
 .rename_i u e;cases e;simp[ye,kZ]at h2
 .rename_i u e;cases e;simp[ye,kZ]at b
 .rename_i u e;cases e;simp[ye,kZ]at d
 .rfl
def Qz{p:UInt8->Bool}:∀{t:List UInt8} {m:Nat},m<=t.length->(t.take m).all p=true->(∀h:m<t.length,p t[m]=false)->t.takeWhile p=t.take m/\t.dropWhile p=t.drop m
 |[],0,_,_,_=>⟨rfl,rfl⟩
 |[],m+1,h,_,_=>absurd h zY
 |c::t,0,_,_,h=>by
  have:=h zY;have hc:p c=false:=by simpa using this
  rw[kR (by simp[hc]),uS (by simp[hc])];exact⟨rfl,rfl⟩
 |c::t,m+1,hm,ha,h=>by
  simp only[qO,kP,zQ]at ha;have a:=Qz (t:=t) (m:=m) (by simpa using hm) ha.2 (λb=>by have:=h zV;simpa using this);rw[Un ha.1,kj ha.1,a.1,a.2];exact⟨rfl,rfl⟩
def O4(c:UInt8):yJ c<=3:=by
 unfold yJ;split
 .decide
 split
 .decide
 split<;>decide
def SN(s:ByteArray)(w:z7)(hs:s.size<=1000):zE prog 85 #[.string s] w (xk6 (LG s.data.toList) w):=by
 obtain⟨r,hr⟩:=zo (LG s.data.toList);rw[hr];have hl0:(s.data.toList.take (s.data.toList.idxOf 64)).length<=s.size:=zV;unfold LG at hr;rw[yz]at hr;obtain⟨l0,hl⟩:=zo (s.data.toList.take (s.data.toList.idxOf 64));have hC:=cW s w J;rw[hl]at hr hl0 hC;have HR:=Z hr;have HC:=Z hC;have hcp:∀(s p:ByteArray) (W:z7),zE prog 99 #[.string s,.string p] W λe w'=>e = .returned (.tuple #[.string ⟨(qE s.data.toList p.data.toList).toArray⟩,.bool (ye s.data.toList p.data.toList)])/\W=w':=λs p W=>(Tryz.strings_CutPrefix s p W).mono λ_ _ h=>⟨h.1,h.2.symm⟩
 have E:=Z hcp;clear hr hl hC hcp;have yax:∀W:z7,(ZF 243 (.agg #[.string ⟨#[33,61]⟩,.string ⟨#[46,46]⟩,.string ⟨#[61]⟩,.string ⟨#[44]⟩,.string ⟨#[37]⟩]) (.int .i64 0)).run prog W = .ok (.string ⟨#[33,61]⟩) W:=λW=>yy
 have yav:∀W:z7,(ZF 243 (.agg #[.string ⟨#[33,61]⟩,.string ⟨#[46,46]⟩,.string ⟨#[61]⟩,.string ⟨#[44]⟩,.string ⟨#[37]⟩]) (.int .i64 1)).run prog W = .ok (.string ⟨#[46,46]⟩) W:=λW=>yy
 have yau:∀W:z7,(ZF 243 (.agg #[.string ⟨#[33,61]⟩,.string ⟨#[46,46]⟩,.string ⟨#[61]⟩,.string ⟨#[44]⟩,.string ⟨#[37]⟩]) (.int .i64 2)).run prog W = .ok (.string ⟨#[61]⟩) W:=λW=>yy
 have xk7:∀W:z7,(ZF 243 (.agg #[.string ⟨#[33,61]⟩,.string ⟨#[46,46]⟩,.string ⟨#[61]⟩,.string ⟨#[44]⟩,.string ⟨#[37]⟩]) (.int .i64 3)).run prog W = .ok (.string ⟨#[44]⟩) W:=λW=>yy
 have xk8:∀W:z7,(ZF 243 (.agg #[.string ⟨#[33,61]⟩,.string ⟨#[46,46]⟩,.string ⟨#[61]⟩,.string ⟨#[44]⟩,.string ⟨#[37]⟩]) (.int .i64 4)).run prog W = .ok (.string ⟨#[37]⟩) W:=λW=>yy
 go_enter func85,ntmps85;go_wp2_with fail;go_step3;go_wp2_with fail;refine HC.o.mono ?_;rintro e w1 ⟨rfl,nd,rfl⟩;go_wp2_with fail;go_step3;go_wp2_with fail;go_loopg [0,2] (s.size+1) (λn sl sv wr=>zrf r s.size w sl sv n wr)
 case atStart=>exact⟨[],l0,rfl,yr _ _ _ _,below_drewN (z8 _ _) nd,J,zV,HR.o⟩
 case round =>
  obtain⟨acc,l,rfl,H,hb,Vf,hla,b⟩:=hrel;obtain⟨a,cap,rfl⟩:=zD H;have HO:=Z H;have R:=Z b;obtain⟨n,rfl⟩:∃n,gk=n+1:=⟨gk - 1,J⟩;clear H b;cases l with
  |nil =>
   have hg:r=some acc:=(by rw[<-R.o,jh]);have HGG:=Z hg;clear hg;go_wp2;try rw[Exit.noGoto_ret]
   go_ret;rw[HGG.o];exact⟨⟨_,rfl,HO.o⟩,hb⟩
  |cons c t =>
   have O:=size_mk (c::t);obtain⟨u,hu⟩:∃u:ByteArray,u=⟨(c::t).toArray⟩:=⟨_,rfl⟩;have hud:u.data.toList=c::t:=(by rw[hu]);rw[<-hu]at O|-;have HU:=Z hu;have HUD:=Z hud;have aL:(0:Int)<(u.size:Int):=(by rw[O];simp);have U5:=Z O;clear hu hud;have ud:t.length+1<=s.size:=(by have h1:=hla;simp at h1;omega);clear O;have T:=E.o u ⟨#[33,61]⟩;have Q:=E.o u ⟨#[46,46]⟩;have N:=E.o u ⟨#[61]⟩;have K:=E.o u ⟨#[44]⟩;have G:=E.o u ⟨#[37]⟩;rw[HUD.o]at T;rw[HUD.o]at Q;rw[HUD.o]at N;rw[HUD.o]at K;rw[HUD.o]at G;cases q0:ye (c::t) (⟨#[33,61]⟩:ByteArray).data.toList
   .skip
    rw[q0,YH q0]at T;have A:=Z T;have Q0:=Z q0;clear T q0;cases q1:ye (c::t) (⟨#[46,46]⟩:ByteArray).data.toList
    .skip
     rw[q1,YH q1]at Q;have D:=Z Q;have Q1:=Z q1;clear Q q1;cases q2:ye (c::t) (⟨#[61]⟩:ByteArray).data.toList
     .skip
      rw[q2,YH q2]at N;have F:=Z N;have Q2:=Z q2;clear N q2;cases V:ye (c::t) (⟨#[44]⟩:ByteArray).data.toList
      .skip
       rw[V,YH V]at K;have L:=Z K;have Q3:=Z V;clear K V;cases q4:ye (c::t) (⟨#[37]⟩:ByteArray).data.toList
       .skip
        rw[q4,YH q4]at G;have S:=Z G;have Q4:=Z q4;clear G q4;have i:=cm Q0.o Q1.o Q2.o Q3.o Q4.o;have b:=R.o;rw[jh,i]at b;have Qm:=Z b;clear b i;go_wp2_with fail;refine kh 6 ?_;rw[xk];go_wp2_with fail;refine(A.o _).mono ?_;rintro e I ⟨rfl,rfl⟩;go_wp2_with fail;rw[xk];go_wp2_with fail;refine(D.o _).mono ?_;rintro e P ⟨rfl,rfl⟩;go_wp2_with fail;rw[xk];go_wp2_with fail;refine(F.o _).mono ?_;rintro e wz2 ⟨rfl,rfl⟩;go_wp2_with fail;rw[xk];go_wp2_with fail;refine(L.o _).mono ?_;rintro e wz3 ⟨rfl,rfl⟩;go_wp2_with fail;rw[xk];go_wp2_with fail;refine(S.o _).mono ?_;rintro e wz4 ⟨rfl,rfl⟩;go_wp2_with fail;rw[xk];have CD:=λW=>dZ c W
        have hg0:u[0]' J=c:=by
         have h1:=HU.o;subst h1;exact Rb
        go_wp2_with fail;have HCL:=Z CD;have HG0:=Z hg0;clear CD hg0;have hk3:=O4 c;have hKc:=(by omega:yJ c=0\/yJ c=1\/yJ c=2\/yJ c=3);have JJ:u.size=t.length+1:=U5.o;have hux:∀m (h:m<t.length) (h2:m+1<u.size),u[m+1]=t[m]:=λm h h2=>by
         have h1:=HU.o;subst h1;exact Rb
        have M:=Z hux;have f:=HCL.o wr;clear yax yav yau xk7 xk8 hux hk3 JJ aL;rcases hKc with hK|hK|hK|hK
        .skip
         rw[hK]at f;refine f.mono ?_;rintro e w3 ⟨rfl,rfl⟩;have HK:=Z hK;clear hK f;go_wp2_with fail;go_loop [7] (λv=>∃m:Nat,m<=t.length/\v = .int .i64 ((m+1:Nat):Int)/\(t.take m).all (λd=>yJ d==yJ c)=true) (λv=>t.length+1 - (intOf v).toNat)
         case atStart=>exact⟨0,zG _,rfl,rfl⟩
         case round =>
          obtain⟨m,hm,rfl,g⟩:=hrel;have Cb:=Z g;clear g;by_cases Wm:m<t.length
          .have b1:m+1<u.size:=(by have Wr:u.size=t.length+1:=U5.o;omega);have U:=M.o m Wm b1;have b2:(m:Int)+1<(u.size:Int):=J;have b3:m+1<=u.size:=J;have k:=dZ t[m] wr;obtain⟨B,j⟩:=zo (yJ t[m]);rw[j]at k;have z:=Z k;have HK2:=Z j;clear k j;go_wp2_with fail;refine z.o.mono ?_;rintro e w4 ⟨rfl,rfl⟩;by_cases hq:B=0
           .have C:((B:Int)==0)=true:=(by rw[hq];rfl);exact Iw
           .have C:((B:Int)==0)=false:=(by simp;omega);have dy:=Qz (p:=λd=>yJ d==yJ c) hm Cb.o (λh=>by simp[HK2.o,HK.o,hq]);have I7:=Z dy;clear dy hq;exact nM
          .have dy:=Qz (p:=λd=>yJ d==yJ c) hm Cb.o (λh=>absurd h Wm);have I7:=Z dy;have b2:¬((m:Int)+1<(u.size:Int)):=(by have Wr:u.size=t.length+1:=U5.o;omega);have b1:¬(m+1<u.size):=J;have b3:m+1<=u.size:=R0;clear dy Wm;exact nM
        .skip
         rw[hK]at f;refine f.mono ?_;rintro e w3 ⟨rfl,rfl⟩;have HK:=Z hK;clear hK f;go_wp2_with fail;go_loop [7] (λv=>∃m:Nat,m<=t.length/\v = .int .i64 ((m+1:Nat):Int)/\(t.take m).all (λd=>yJ d==yJ c)=true) (λv=>t.length+1 - (intOf v).toNat)
         case atStart=>exact⟨0,zG _,rfl,rfl⟩
         case round =>
          obtain⟨m,hm,rfl,g⟩:=hrel;have Cb:=Z g;clear g;by_cases Wm:m<t.length
          .have b1:m+1<u.size:=(by have Wr:u.size=t.length+1:=U5.o;omega);have U:=M.o m Wm b1;have b2:(m:Int)+1<(u.size:Int):=J;have b3:m+1<=u.size:=J;have k:=dZ t[m] wr;obtain⟨B,j⟩:=zo (yJ t[m]);rw[j]at k;have z:=Z k;have HK2:=Z j;clear k j;go_wp2_with fail;refine z.o.mono ?_;rintro e w4 ⟨rfl,rfl⟩;by_cases hq:B=1
           .have C:((B:Int)==1)=true:=(by rw[hq];rfl);exact Iw
           .have C:((B:Int)==1)=false:=(by simp;omega);have dy:=Qz (p:=λd=>yJ d==yJ c) hm Cb.o (λh=>by simp[HK2.o,HK.o,hq]);have I7:=Z dy;clear dy hq;exact zi9
          .have dy:=Qz (p:=λd=>yJ d==yJ c) hm Cb.o (λh=>absurd h Wm);have I7:=Z dy;have b2:¬((m:Int)+1<(u.size:Int)):=(by have Wr:u.size=t.length+1:=U5.o;omega);have b1:¬(m+1<u.size):=J;have b3:m+1<=u.size:=R0;clear dy Wm;exact zi9
        .skip
         rw[hK]at f;refine f.mono ?_;rintro e w3 ⟨rfl,rfl⟩;have HK:=Z hK;clear hK f;go_wp2_with fail;go_loop [7] (λv=>∃m:Nat,m<=t.length/\v = .int .i64 ((m+1:Nat):Int)/\(t.take m).all (λd=>yJ d==yJ c)=true) (λv=>t.length+1 - (intOf v).toNat)
         case atStart=>exact⟨0,zG _,rfl,rfl⟩
         case round =>
          obtain⟨m,hm,rfl,g⟩:=hrel;have Cb:=Z g;clear g;by_cases Wm:m<t.length
          .have b1:m+1<u.size:=(by have Wr:u.size=t.length+1:=U5.o;omega);have U:=M.o m Wm b1;have b2:(m:Int)+1<(u.size:Int):=J;have b3:m+1<=u.size:=J;have k:=dZ t[m] wr;obtain⟨B,j⟩:=zo (yJ t[m]);rw[j]at k;have z:=Z k;have HK2:=Z j;clear k j;go_wp2_with fail;refine z.o.mono ?_;rintro e w4 ⟨rfl,rfl⟩;by_cases hq:B=2
           .have C:((B:Int)==2)=true:=(by rw[hq];rfl);exact Iw
           .have C:((B:Int)==2)=false:=(by simp;omega);exact rh
          .exact rW
        .skip
         rw[hK]at f;refine f.mono ?_;rintro e w3 ⟨rfl,rfl⟩;have HK:=Z hK;clear hK f;go_wp2_with fail;go_loop [7] (λv=>∃m:Nat,m<=t.length/\v = .int .i64 ((m+1:Nat):Int)/\(t.take m).all (λd=>yJ d==yJ c)=true) (λv=>t.length+1 - (intOf v).toNat)
         case atStart=>exact⟨0,zG _,rfl,rfl⟩
         case round =>
          obtain⟨m,hm,rfl,g⟩:=hrel;have Cb:=Z g;clear g;by_cases Wm:m<t.length
          .have b1:m+1<u.size:=(by have Wr:u.size=t.length+1:=U5.o;omega);have U:=M.o m Wm b1;have b2:(m:Int)+1<(u.size:Int):=J;have b3:m+1<=u.size:=J;have k:=dZ t[m] wr;obtain⟨B,j⟩:=zo (yJ t[m]);rw[j]at k;have z:=Z k;have HK2:=Z j;clear k j;go_wp2_with fail;refine z.o.mono ?_;rintro e w4 ⟨rfl,rfl⟩;by_cases hq:B=3
           .have C:((B:Int)==3)=true:=(by rw[hq];rfl);exact Iw
           .have C:((B:Int)==3)=false:=(by simp;omega);exact rh
          .exact rW
       .skip
        obtain⟨i,y⟩:=VC zY q4;rw[q4,y]at G;have S:=Z G;have b:=R.o;rw[jh,i]at b;have Qm:=Z b;have uw:((c::t).drop ([37]:List UInt8).length).length<=t.length:=zY;have mf:=Z uw;clear q4 i y b uw G;go_wp2_with fail;refine kh 6 ?_;rw[xk];go_wp2_with fail;refine(A.o _).mono ?_;rintro e I ⟨rfl,rfl⟩;go_wp2_with fail;rw[xk];go_wp2_with fail;refine(D.o _).mono ?_;rintro e P ⟨rfl,rfl⟩;go_wp2_with fail;rw[xk];go_wp2_with fail;refine(F.o _).mono ?_;rintro e wz2 ⟨rfl,rfl⟩;go_wp2_with fail;rw[xk];go_wp2_with fail;refine(L.o _).mono ?_;rintro e wz3 ⟨rfl,rfl⟩;go_wp2_with fail;rw[xk];go_wp2_with fail;refine(S.o _).mono ?_;rintro e wz4 ⟨rfl,rfl⟩;go_wp2_with (at_builtin;refine vY uN rfl _ _ rfl (w:Nat) _ _ _ rfl (HO.o.alloc _) ⟨(wr:Nat),0,none⟩ 1 1 [zv [37]] rfl rfl Xq DI J j7 ?_);intro RN w5 Ya VV;have Xv:zJ w w5:=(hb.alloc hb.size _).grown VV j7 (λq hq=>(HO.o.lt q hq).1);obtain⟨a5,c5,rfl⟩:=zD Ya;have aO:=Z Ya;clear Ya VV;go_wp2;go_roundg n
        case measure=>omega
        case rel=>exact⟨acc++[[37]],_,rfl,DC,Xv,DY,N9,DG⟩
      .skip
       obtain⟨i,y⟩:=VC zY V;rw[V,y]at K;have L:=Z K;have b:=R.o;rw[jh,i]at b;have Qm:=Z b;have uw:((c::t).drop ([44]:List UInt8).length).length<=t.length:=zY;have mf:=Z uw;clear V i y b uw K G;go_wp2_with fail;refine kh 6 ?_;rw[xk];go_wp2_with fail;refine(A.o _).mono ?_;rintro e I ⟨rfl,rfl⟩;go_wp2_with fail;rw[xk];go_wp2_with fail;refine(D.o _).mono ?_;rintro e P ⟨rfl,rfl⟩;go_wp2_with fail;rw[xk];go_wp2_with fail;refine(F.o _).mono ?_;rintro e wz2 ⟨rfl,rfl⟩;go_wp2_with fail;rw[xk];go_wp2_with fail;refine(L.o _).mono ?_;rintro e wz3 ⟨rfl,rfl⟩;go_wp2_with (at_builtin;refine vY uN rfl _ _ rfl (w:Nat) _ _ _ rfl (HO.o.alloc _) ⟨(wr:Nat),0,none⟩ 1 1 [zv [44]] rfl rfl Xq DI J j7 ?_);intro RN w5 Ya VV;have Xv:zJ w w5:=(hb.alloc hb.size _).grown VV j7 (λq hq=>(HO.o.lt q hq).1);obtain⟨a5,c5,rfl⟩:=zD Ya;have aO:=Z Ya;clear Ya VV;go_wp2;go_roundg n
       case measure=>omega
       case rel=>exact⟨acc++[[44]],_,rfl,DC,Xv,DY,N9,DG⟩
     .skip
      obtain⟨i,y⟩:=VC zY q2;rw[q2,y]at N;have F:=Z N;have b:=R.o;rw[jh,i]at b;have Qm:=Z b;have uw:((c::t).drop ([61]:List UInt8).length).length<=t.length:=zY;have mf:=Z uw;clear q2 i y b uw N K G;go_wp2_with fail;refine kh 6 ?_;rw[xk];go_wp2_with fail;refine(A.o _).mono ?_;rintro e I ⟨rfl,rfl⟩;go_wp2_with fail;rw[xk];go_wp2_with fail;refine(D.o _).mono ?_;rintro e P ⟨rfl,rfl⟩;go_wp2_with fail;rw[xk];go_wp2_with fail;refine(F.o _).mono ?_;rintro e wz2 ⟨rfl,rfl⟩;go_wp2_with (at_builtin;refine vY uN rfl _ _ rfl (w:Nat) _ _ _ rfl (HO.o.alloc _) ⟨(wr:Nat),0,none⟩ 1 1 [zv [61]] rfl rfl Xq DI J j7 ?_);intro RN w5 Ya VV;have Xv:zJ w w5:=(hb.alloc hb.size _).grown VV j7 (λq hq=>(HO.o.lt q hq).1);obtain⟨a5,c5,rfl⟩:=zD Ya;have aO:=Z Ya;clear Ya VV;go_wp2;go_roundg n
      case measure=>omega
      case rel=>exact⟨acc++[[61]],_,rfl,DC,Xv,DY,N9,DG⟩
    .skip
     obtain⟨i,y⟩:=VC zY q1;rw[q1,y]at Q;have D:=Z Q;have b:=R.o;rw[jh,i]at b;have Qm:=Z b;have uw:((c::t).drop ([46,46]:List UInt8).length).length<=t.length:=zY;have mf:=Z uw;clear q1 i y b uw Q N K G;go_wp2_with fail;refine kh 6 ?_;rw[xk];go_wp2_with fail;refine(A.o _).mono ?_;rintro e I ⟨rfl,rfl⟩;go_wp2_with fail;rw[xk];go_wp2_with fail;refine(D.o _).mono ?_;rintro e P ⟨rfl,rfl⟩;go_wp2_with (at_builtin;refine vY uN rfl _ _ rfl (w:Nat) _ _ _ rfl (HO.o.alloc _) ⟨(wr:Nat),0,none⟩ 1 1 [zv [46,46]] rfl rfl Xq DI J j7 ?_);intro RN w5 Ya VV;have Xv:zJ w w5:=(hb.alloc hb.size _).grown VV j7 (λq hq=>(HO.o.lt q hq).1);obtain⟨a5,c5,rfl⟩:=zD Ya;have aO:=Z Ya;clear Ya VV;go_wp2;go_roundg n
     case measure=>omega
     case rel=>exact⟨acc++[[46,46]],_,rfl,DC,Xv,DY,N9,DG⟩
   .skip
    obtain⟨i,y⟩:=VC zY q0;rw[q0,y]at T;have A:=Z T;have b:=R.o;rw[jh,i]at b;have Qm:=Z b;have uw:((c::t).drop ([33,61]:List UInt8).length).length<=t.length:=zY;have mf:=Z uw;clear q0 i y b uw T Q N K G;go_wp2_with fail;refine kh 6 ?_;rw[xk];go_wp2_with fail;refine(A.o _).mono ?_;rintro e I ⟨rfl,rfl⟩;go_wp2_with (at_builtin;refine vY uN rfl _ _ rfl (w:Nat) _ _ _ rfl (HO.o.alloc _) ⟨(wr:Nat),0,none⟩ 1 1 [zv [33,61]] rfl rfl Xq DI J j7 ?_);intro RN w5 Ya VV;have Xv:zJ w w5:=(hb.alloc hb.size _).grown VV j7 (λq hq=>(HO.o.lt q hq).1);obtain⟨a5,c5,rfl⟩:=zD Ya;have aO:=Z Ya;clear Ya VV;go_wp2;go_roundg n
    case measure=>omega
    case rel=>exact⟨acc++[[33,61]],_,rfl,DC,Xv,DY,N9,DG⟩
variable{wi:Bool}{t:List Wd}
def O5(w:z7):(zA (.iface 205 (.agg #[])) 20 205 true).run prog w = .ok (.tuple #[.agg #[],.bool true]) w:=yy
def QY(B:Nat)(w:z7):CallsD prog 84 #[(B,0)] .returning w λe c w'=>e = .returned (.tuple #[])/\c = .returning/\w'=w:=by
 refine ypx func84 rfl λa cs b=>?_
 apply wpS_seq;apply wpS_region;simp[wpOpsS,go_sem,recoverD,b,ntmps84,zex];refine wpS_of_wp ?_;go_wp2;cases a;simp_all [bodyPostS,yk,results84]
def B0(B:Nat)(u:zx)(a:List PanicEntry)(w:z7)(hc:zy w B 0 u)(f:w.frozen? (B,0)=false) :
  CallsD prog 84 #[(B,0)] (.panicking ({ v := .iface 205 (.agg #[]),recovered:=false }::a)) w λe h w' =>
   e = .returned (.tuple #[])/\h = .panicking ({ v := .iface 205 (.agg #[]),recovered:=true }::a)/\w'=(w.setCell (B,0) .nilFunc).alloc (.cells #[] 205):=by
 have ha:=O5;refine ypx func84 rfl λi cs d=>?_
 apply wpS_seq;apply wpS_region;simp[wpOpsS,go_sem,recoverD,d,ntmps84,zex];refine wpS_of_wp ?_;simp only[uJ,yu,yb,xu,xq,List.append_toArray,yw,kr,ZP];have b:B<(w:Nat):=Y w _ hc;have c:zy (w.alloc (.cells #[] 205)) B 0 u:=(za _ _ _ b).trans hc;have g:(w.alloc (.cells #[] 205)).frozen? (B,0)=false:=(zb (xA _ _ _ b)).trans f;go_wp2;simp[bodyPostS,yk,results84]
def zfv{g:Wd}(h:XT l=some g):Ll g/\0<g.length:=by
 unfold XT at h;split at h<;>cases h
 all_goals exact⟨⟨zY,zY,.inr zj⟩,zY⟩
def tH{p:UInt8->Bool}:∀{t:List UInt8} {d:UInt8},d∈t.takeWhile p->p d=true
 |[],_,h=>xp
 |c::t,d,h=>by
  by_cases hc:p c=true
  .rw[Un hc]at h;rcases yp.1 h with q|q
   .rw[q];exact hc
   .exact tH q
  .rw[kR hc]at h;cases h
def B4{c:UInt8}{t:List UInt8}(h:yJ c=2\/yJ c=3):Ll (c::t.takeWhile (λd=>yJ d==yJ c))\/1000<(c::t.takeWhile (λd=>yJ d==yJ c)).length:=by
 by_cases a:(c::t.takeWhile (λd=>yJ d==yJ c)).length<=1000
 .left;refine⟨zY,a,?_⟩;rcases h with h|h
  .left;rw[kP,(YE c).1 h,ze8,Yl];intro d hd;have:=tH hd;rw[h,beq_iff_eq]at this;exact(YE d).1 this
  .right;have:¬yn c=true:=λe=>by have:=(YE c).2 e;omega
   simpa using this
 .right;omega
def CL(p:UInt8->Bool)(t:List UInt8):(t.takeWhile p).length+(t.dropWhile p).length=t.length:=by
 have:=congrArg qj (List.takeWhile_append_dropWhile (p:=p) (l:=t));rw[zI]at this;exact this
def B5:∀(n:Nat) (acc:List Wd) (l:List UInt8) (ws:List Wd),jh n acc l=some ws->l.length<=999->(∀x∈acc,Ll x)->(∀x∈ws,Ll x)/\ws.length<=acc.length+l.length
 |n,acc,[],ws,h,_,ha=>by
  rw[jh]at h;cases h;exact⟨ha,zY⟩
 | 0,acc,c::t,ws,h,_,_=>by
  rw[jh]at h;cases h;all_goals (intro j;cases j)
 |n+1,acc,c::t,ws,h,k,ha=>by
  rw[jh]at h;simp only[zm]at k;cases hs:XT (c::t) with
  |some g =>
   rw[hs]at h;dsimp only at h;obtain⟨f,i⟩:=zfv hs;have a:=B5 n (acc++[g]) ((c::t).drop g.length) ws h zV (λx hx=>by
    rcases xY.1 hx with q|q
    .exact ha x q
    .simp at q;subst q;exact f)
   refine⟨a.1,?_⟩;have:=a.2;simp at this|-;omega
  |none =>
   rw[hs]at h;dsimp only at h;by_cases b:yJ c=0
   .rw[zl b]at h;cases h
   .rw[zL b]at h;have m:=O4 c;have e:=CL (λd=>yJ d==yJ c) t;have a:=B5 n _ (t.dropWhile (λd=>yJ d==yJ c)) ws h J (λx hx=>by
     by_cases h1:yJ c=1
     .rw[zl h1]at hx;exact ha x hx
     .rw[zL h1]at hx;rcases xY.1 hx with q|q
      .exact ha x q
      .simp only[yp,qW,or_false]at q;subst q;rcases B4 (t:=t) (c:=c) J with w|w
       .exact w
       .simp only[zm]at w;omega)
    refine⟨a.1,?_⟩;have h2:=a.2;by_cases h1:yJ c=1
    .rw[zl h1]at h2;simp;omega
    .rw[zL h1]at h2;simp at h2|-;omega
def Af(h:LG l=some ws)(a:l.length<=200):(∀x∈ws,Ll x)/\ws.length<=200:=by
 unfold LG at h;have:=B5 _ _ _ _ h zV (λx hx=>by cases hx);refine⟨this.1,?_⟩;have h2:=this.2;simp at h2;omega
def tI:zrj (.func (.func 87) #[] #[]) gv :=
 ⟨_,rfl,λargs w=>enters_of func87 yy rfl args w,λTs a c lo W h1 h2 b=>Nh Ts a c lo W h1 h2 b⟩
def zfu:zrj (.func (.func 89) #[] #[]) allT :=
 ⟨_,rfl,λargs w=>enters_of func89 yy rfl args w,λTs a c lo W h1 h2 b=>zf2 Ts a c lo W h1 h2 b⟩
def zfq(p:Nat)(w:z7)(a:RT p w):zrk p w (.func (.func 90) #[(p,0)] #[]) bI :=
 ⟨_,_,_,rfl,λargs w=>enters_of func90 yy rfl args w,λW ws hb hp hx b=>Lo p ws W hp hx (a.but hb) b⟩
def tL{of:Dg->Dg}{u:List Wd}{F:Dg->Dg}(h:Us of t=some (F,u)):Sub u t:=by
 unfold Us at h;by_cases hm:Y5 (t.headD [])=true
 .rw[zl hm]at h;cases hn:uE t.tail with
  |none=>rw[hn]at h;cases h
  |some q =>
   obtain⟨m,v⟩:=q;rw[hn]at h;dsimp only at h;by_cases a:m=0
   .rw[zl a]at h;cases h
   .rw[zL a]at h;cases h;exact(VU hn).trans (Sub.tail t)
 .rw[zL hm]at h;cases h;exact Sub.refl _
def JX{b:Bool}{i:gx×Bool}(h:((qF wi ws).map λq=>((q.1,b),q.2))=some (i,t)):Sub t ws:=by
 cases a:qF wi ws with
 |none=>rw[a]at h;cases h
 |some q =>
  obtain⟨T,u⟩:=q;rw[a]at h;cases h;exact cS a
def ER{b:Bool}{i:gx×Bool}(h:((uE ws).map λq=>((uA q.1 q.1 false,b),q.2))=some (i,t)):Sub t ws:=by
 cases a:uE ws with
 |none=>rw[a]at h;cases h
 |some q =>
  obtain⟨T,u⟩:=q;rw[a]at h;cases h;exact VU a
def O6{i:gx×Bool}(h:ya ws=some (i,t)):Sub t ws:=by
 have s1:=Sub.tail ws;have a:=(Sub.tail ws.tail).trans s1;unfold ya at h;split at h
 .exact IB
 split at h
 .exact IB
 split at h
 .split at h
  .exact(ER h).trans a
  .exact(ER h).trans s1
 .dsimp only at h;split at h
  .split at h
   .exact(JX h).trans a
   .split at h
    .exact(JX h).trans a
    .cases h
  .split at h
   .exact IB
   .split at h
    .exact IB
    .cases h
def O7(h:bI ws=some (T,t)):Sub t ws:=by
 cases ws with
 |nil=>cases h
 |cons w u =>
  rw[bI]at h;cases a:xF w with
  |none=>rw[a]at h;cases h
  |some of =>
   rw[a]at h;dsimp only at h;cases hm:Us of u with
   |none=>rw[hm]at h;cases h
   |some q =>
    obtain⟨F,v⟩:=q;rw[hm]at h;dsimp only at h;cases hn:ya v with
    |none=>rw[hn]at h;cases h
    |some q2 =>
     obtain⟨⟨i,b⟩,x⟩:=q2;rw[hn]at h;cases h;exact((O6 hn).trans (tL hm)).trans ⟨λy hy=>by simp[hy],zY⟩
def B6{word:Wd}{P:Parser}(hs:∀us T t,P us=some (T,t)->Sub t us):∀{n:Nat} {acc ts:List gx} {ws t:List Wd},qs word P n acc ws=some (ts,t)->Sub t ws
 | 0,_,_,_,_,h=>xp
 |n+1,acc,ts,ws,t,h=>by
  rw[qs]at h;cases hi:P ws with
  |none=>rw[hi]at h;cases h
  |some r =>
   obtain⟨T,u⟩:=r;rw[hi]at h;dsimp only at h;by_cases hc:Zg word u=true
   .rw[zl hc]at h;exact((B6 hs h).trans (Sub.tail u)).trans (hs _ _ _ hi)
   .rw[zL hc]at h;cases h;exact hs _ _ _ hi
def tM(h:De ws=some (T,t)):Sub t ws:=by
 unfold De Dc at h;cases a:qs [97,110,100] bI (ws.length+1) [] ws with
 |none=>rw[a]at h;cases h
 |some r =>
  obtain⟨ts,u⟩:=r;rw[a]at h;cases h;exact B6 (λus T t h=>O7 h) a
def cr(p pv:Nat)(ws:List Wd)(w:z7)(hp:fB w p ws)(hx:∀x∈ws,Ll x)(g:RT p w)(k:ws.length<=1000)(hc:zy w pv 0 (p,0)) :
  zE prog 88 #[(pv,0)] w (Xd p (De ws) w):=by
 have l:∀(fn:Fn) (first cap:Array zx) (w:z7),(gP fn first cap).run prog w = .ok (.func fn first cap) w:=λ_ _ _ _=>rfl
 have hr:=Ag p [97,110,100] allT bI _ _ ws w hp hx k zfu (zfq p w g) (λus T t h=>O7 h);have j:=Z hr;clear hr hp hx g;go_enter func88,ntmps88;go_wp2_with fail;refine j.o.mono ?_;rintro e w1 ⟨b,hb⟩;have a:De ws=Dc [97,110,100] allT bI ws:=rfl;cases hn:Dc [97,110,100] allT bI ws with
 |none =>
  rw[hn]at b;obtain rfl:=b;have c:=Z (a.trans hn);clear hn a;go_wp2;refine⟨rfl,?_,hb⟩;rw[c.o]
 |some q =>
  obtain⟨T,t⟩:=q;rw[hn]at b;obtain⟨⟨v,rfl,i⟩,hp⟩:=b;have c:=Z (a.trans hn);have f:=Z i;have d:=Z hp;clear hn i hp a;go_wp2;go_ret;refine⟨?_,hb⟩;rw[c.o];exact⟨⟨_,rfl,f.o⟩,d.o⟩
variable{v:zx}
structure tN(w:z7):Prop where
 s:∃t v,zy w 5 0 (.iface t v)
 r:∃t v,zy w 6 0 (.iface t v)
def tN.below(h:tN w)(hb:zJ w w'):tN w':=by
 obtain⟨⟨t,v,hs⟩,⟨t2,v2,hr⟩⟩:=h;exact⟨⟨t,v,(hb.cell (Y w _ hs)).trans hs⟩,⟨t2,v2,(hb.cell (Y w _ hr)).trans hr⟩⟩
def tN.at(h:tN w)(hb:zJ w w')(hp:(w:Nat)<=p):RT p w':=by
 have h2:=h.below hb;obtain⟨⟨t,v,hs⟩,⟨t2,v2,hr⟩⟩:=h;have a:=Y w _ hs;have b:=Y w _ hr;dsimp only at a b;exact⟨h2.s,h2.r,J,J⟩
def yaq(r:Option gx)(w:z7)(e:gG)(w':z7):Prop :=
 (match r with|none=>e = .returned .nilFunc|some T=>∃v,e = .returned v/\kO (w:Nat) (w':Nat) w' v T)/\zJ w w'
def O8{base:Nat}(h:w.ownsRow base 9 1 v ws.length (ws.map zv))(o:Obj):fB ((w.alloc (.cells #[v] 210)).alloc o) (w:Nat) ws:=by
 have hb:yX w w ((w.alloc (.cells #[v] 210)).alloc o):=((z8 _ _).alloc (X _) _).alloc zY _;have b:(w:Nat)<(w.alloc (.cells #[v] 210)).heap.size:=zY;have hc:zy ((w.alloc (.cells #[v] 210)).alloc o) (w:Nat) 0 v:=by
  rw[za _ _ _ b];exact zg _ _ _ _ _
 have f:((w.alloc (.cells #[v] 210)).alloc o).frozen? (w,0)=false:=by
  rw[zb (xA _ _ _ b)];simp
 have e:ws.length=ws.length:=rfl;rcases h.2 with⟨hv,i⟩|⟨g,cap,cur,hv,l,c,h1,h2,k,m⟩
 .subst hv;have hw:ws=[]:=zF i;subst hw;exact⟨none,0,hc,f,X _,zG _,λj d=>absurd d (uf j)⟩
 .subst hv;have a:g<(w:Nat):=by
   rcases Nat.lt_or_ge g (w:Nat)with q|q
   .exact q
   .rw[il J]at c;cases c
  refine⟨some ⟨g,0,none⟩,cap,hc,f,h1,h2,λj d=>⟨_,rfl,⟨by show g≠(w:Nat);omega,cur,(0,0),(hb.block g a).trans c⟩,?_⟩⟩;rw[vA,hb.cell (p:=⟨g,j,none⟩) a,h.cellAt j J];simp[d]
def tP(p pv:Nat)(w:z7)(b:RT p w)(hc:vd w pv (p,0))(a:pv≠p):zrk p w (.func (.func 88) #[] #[(pv,0)]) De :=
 ⟨_,_,_,rfl,λargs w=>enters_of func88 yy rfl args w,λW ws hb hp hx d=>cr p pv ws W hp hx (b.but hb) d (hc.but hb a).c⟩
def CM(s:ByteArray)(w:z7)(hs:s.size<=9223372036854775807)(hT:tN w):zE prog 53 #[.string s] w (yaq (VD s.data.toList) w):=by
 have hmf:∀(fn:Fn) (first cap:Array zx) (w:z7),(gP fn first cap).run prog w = .ok (.func fn first cap) w:=λ_ _ _ _=>rfl
 obtain⟨r,hr⟩:=zo (VD s.data.toList);rw[hr];unfold VD at hr;rw[yz]at hr;by_cases C:200<s.size
 .rw[zl C]at hr;subst hr;have h1:decide ((200:Int)<(s.size:Int))=true:=by simp;omega
  go_enter_defers func53,ntmps53;go_wp2;refine jJ (f:=84) (args:=#[(w,0)]) zY dz ?_;refine(QY (w:Nat) _).mono ?_;rintro e u' Fz ⟨rfl,rfl,rfl⟩;simp[WG,C4,yk,results53,go_sem];exact⟨rfl,(z8 _ _).alloc (X _) _⟩
 .rw[zL C]at hr;have h1:decide ((200:Int)<(s.size:Int))=false:=by simp;omega
  have htk:=λW=>SN s W J
  have HTK:=Z htk;have HR:=Z hr;have HT:=Z hT;clear htk hr hT;go_enter_defers func53,ntmps53;go_wp2_with fail;have F1:∃W,W=w.alloc (.cells #[.nilFunc] 132)/\zJ w W/\vd W (w:Nat) .nilFunc/\W.heap.size=(w:Nat)+1:=⟨_,rfl,(z8 _ _).alloc (X _) _,vd.made _ _ _ zj,zY⟩;obtain⟨W,hW,R,cB,hsW⟩:=F1;rw[<-hW];clear hW;refine(HTK.o W).mono ?_;rintro e w2 ⟨B,F⟩;have j:zJ w w2:=R.trans (F.mono R.size);have n:vd w2 (w:Nat) .nilFunc:=cB.but (p:=(w2:Nat)) (xj.of F) (by have:=cB.lt;have:=F.size;omega);cases hn:LG s.data.toList with
  |none =>
   rw[hn]at B;obtain rfl:=B;have d:r=none:=(by rw[<-HR.o,hn]);have l:=Z d;clear hn d;refine jJ (f:=84) (args:=#[(w,0)]) zY dz ?_;refine(B0 (w:Nat) _ [] _ n.c n.z).mono ?_;rintro e u' Fz ⟨rfl,rfl,rfl⟩;have b:zy ((w2.setCell (w,0) .nilFunc).alloc (.cells #[] 205)) (w:Nat) 0 .nilFunc:=by
    rw[za _ _ _ (by simpa[xW]using n.lt),uk (h:=n.c)]
   simp[WG,C4,yk,results53,go_sem,b];refine⟨?_,(j.setCell (X _) _).alloc (by simpa[xW]using j.size) _⟩;rw[l.o]
  |some ws =>
   rw[hn]at B;obtain⟨v,rfl,A⟩:=B;obtain⟨PI,hlen⟩:=Af hn Jd;have HN:=Z hn;obtain⟨a,cap,rfl⟩:=zD A;have F3:∃u,u=(w2.alloc (.cells #[.slice a ws.length cap] 210)).alloc (.cells #[(zX (w2:Nat) 0)] 207)/\zJ w2 u/\fB u (w2:Nat) ws/\vd u ((w2:Nat)+1) (zX (w2:Nat) 0)/\u.heap.size=(w2:Nat)+2:=by
    refine⟨_,rfl,((z8 _ _).alloc (X _) _).alloc zY _,O8 A _,?_,zY⟩;have hs:(w2.alloc (.cells #[.slice a ws.length cap] 210)).heap.size=(w2:Nat)+1:=zY;exact S4
   obtain⟨u,P,Q,I,N,V⟩:=F3;have yak:=n.lt;have cB3:vd u (w:Nat) .nilFunc:=n.but (p:=(u:Nat)) (xj.of Q) J;have y:zJ w u:=j.trans (Q.mono j.size);have O:RT (w2:Nat) u:=HT.o.at y j.size;have D:=Ag (w2:Nat) [111,114] gv De _ _ ws u I PI J tI (tP (w2:Nat) ((w2:Nat)+1) u O N J) (λus T t h=>tM h);have L:=Z D;have M:=Z V;have HP3:=Z I;clear hn A D O V I PI;go_wp2_with fail;rw[<-P];clear P;refine L.o.mono ?_;rintro e K ⟨B,G⟩;have hPB:(w:Nat)≠(w2:Nat):=J;have g:=cB3.but G hPB;have cP4:=N.but G J;have m:zJ w K:=y.trans (G.low J y.size);cases hn:Dc [111,114] gv De ws with
   |none =>
    rw[hn]at B;obtain rfl:=B;have d:r=none:=(by rw[<-HR.o,HN.o];show(match pOr ws with|some (T,[])=>some T|_=>none)=none;unfold pOr;rw[hn]);have l:=Z d;clear hn d;refine jJ (f:=84) (args:=#[(w,0)]) zY dz ?_;refine(B0 (w:Nat) _ [] _ g.c g.z).mono ?_;rintro e u' Fz ⟨rfl,rfl,rfl⟩;have b:zy ((K.setCell (w,0) .nilFunc).alloc (.cells #[] 205)) (w:Nat) 0 .nilFunc:=by
     rw[za _ _ _ (by simpa[xW]using g.lt),uk (h:=g.c)]
    simp[WG,C4,yk,results53,go_sem,b];refine⟨?_,(m.setCell (X _) _).alloc (by simpa[xW]using m.size) _⟩;rw[l.o]
   |some q =>
    obtain⟨T,t⟩:=q;rw[hn]at B;obtain⟨⟨v,rfl,ht⟩,S⟩:=B;have U:pOr ws=some (T,t):=hn;have HPO:=Z U;have Ex:=Z ht;have vqx:=S.lt;obtain⟨E,i,rfl,_⟩:=ht;obtain⟨a4,c4,e1,e2,e3,e4,e5⟩:=S;have yB:=g.c;have yBz:=g.z;have yP:=cP4.c;have hBt:(w:Nat)<(K:Nat):=g.lt;clear hn U e5;cases t with
    |nil =>
     have d:r=some T:=od;have l:=Z d;clear d;go_wp2;refine jJ (f:=84) (args:=#[(zX (w:Nat) 0)]) zY dz ?_;refine(QY (w:Nat) _).mono ?_;rintro e u' Fz ⟨rfl,rfl,rfl⟩;have cF:=(g.same (.func (.func E) #[] i)).same (.func (.func E) #[] i);have H:yX w w ((K.setCell (zX (w:Nat) 0) (.func (.func E) #[] i)).setCell (zX (w:Nat) 0) (.func (.func E) #[] i)):=(m.setCell (X _) _).setCell (X _) _;have b:=cF.c;simp[WG,C4,yk,results53,go_sem,b];refine⟨?_,H⟩;rw[l.o];have dw:((K.setCell (zX (w:Nat) 0) (.func (.func E) #[] i)).setCell (zX (w:Nat) 0) (.func (.func E) #[] i)).heap.size=(K:Nat):=(by simp[xW]);exact⟨_,rfl,Ex.o.keep ⟨by rw[dw];exact X _,λk k1 k2=>by
      have hk:k≠(w:Nat):=(by have:=M.o;omega);rw[zh _ _ _ _ hk,zh _ _ _ _ hk]⟩ (by have:=M.o;omega) (by rw[dw];exact X _)⟩
    |cons x t' =>
     have d:r=none:=od;have l:=Z d;clear d;go_wp2;refine jJ (f:=84) (args:=#[(zX (w:Nat) 0)]) zY dz ?_;refine(QY (w:Nat) _).mono ?_;rintro e u' Fz ⟨rfl,rfl,rfl⟩;have cF:=(g.same (.func (.func E) #[] i)).same .nilFunc;have H:yX w w ((K.setCell (zX (w:Nat) 0) (.func (.func E) #[] i)).setCell (zX (w:Nat) 0) .nilFunc):=(m.setCell (X _) _).setCell (X _) _;have b:=cF.c;simp[WG,C4,yk,results53,go_sem,b];refine⟨?_,H⟩;rw[l.o]
variable{S:List (Nat×gx)}{hi hi' lo':Nat}
def tR(lo hi:Nat)(w:z7)(a:Option yi)(S:List (Nat×gx)):Prop :=
 ∀j (h:j<S.length),∃g o v,a=some ⟨g,o,none⟩/\zy w g (o+j*2) (.int .i64 S[j].1)/\zy w g (o+j*2+1) v/\lo<=g/\g<hi/\kO lo hi w v S[j].2
def tR.keep{a:Option yi}(h:tR lo hi w a S)(b:xS lo hi w w')(h1:lo'<=lo)(h2:hi<=hi'):tR lo' hi' w' a S:=λj e=>by
 obtain⟨g,o,v,e1,e2,e3,e4,c,d⟩:=h j e;exact⟨g,o,v,e1,(b.cell (p:=⟨g,_,none⟩) e4 c).trans e2,(b.cell (p:=⟨g,_,none⟩) e4 c).trans e3,J,J,d.keep b h1 h2⟩
def XW:List ByteArray:=[⟨#[122,101,114,111]⟩,⟨#[111,110,101]⟩,⟨#[116,119,111]⟩,⟨#[102,101,119]⟩,⟨#[109,97,110,121]⟩,⟨#[111,116,104,101,114]⟩]
def kb(w:z7):Prop:=∀j,j<6->zy w 1 j (.string (XW.getD j Mc))
def kb.below(h:kb w)(hb:zJ w w'):kb w':=λj a=>(hb.cell (Y w _ (h j a))).trans (h j a)
variable{vs:List zx}{cap n:Nat}{sv:zx}{w1:z7}
abbrev KZ:=Wd×List UInt8
def fu(w:z7)(v:zx)(rs:List KZ):Prop :=
 ∃a cap,v = .slice a rs.length cap/\∀j (h:j<rs.length),∃g o,a=some ⟨g,o,none⟩/\zy w g (o+j*2) (zv rs[j].1)/\zy w g (o+j*2+1) (zv rs[j].2)
def fu.below{rs:List KZ}(h:fu w v rs)(hb:zJ w w'):fu w' v rs:=by
 obtain⟨a,cap,hv,h⟩:=h;refine⟨a,cap,hv,λj b=>?_⟩;obtain⟨g,o,e1,e2,e3⟩:=h j b;exact⟨g,o,e1,(hb.cell (Y w _ e2)).trans e2,(hb.cell (Y w _ e3)).trans e3⟩
def VE(n:Wd):Int:=Lib.idxOfS XW ⟨n.toArray⟩
def Y8:List KZ->List Wd->List (Nat×gx)->Option (List (Nat×gx))
 |[],_,acc=>some acc
 |(n,c)::t,seen,acc=>match VD c with
  |none=>none
  |some T=>if VE n<0\/n∈seen then none else Y8 t (n::seen) (acc++[((VE n).toNat,T)])
def Ad(rs:List KZ):Option (List (Nat×gx)):=Y8 rs [[111,116,104,101,114]] []
def tS:bH prog 89 134 (.agg #[.int .i64 0,.nilFunc]) 2 16 :=
 ⟨underlying89,info_parts yy,rfl,zj,zj⟩
def Y9(lo:Nat)(w:z7)(sv:zx)(S:List (Nat×gx)):Prop :=
 ∃vs:List zx,w.ownsRow lo 134 2 sv S.length vs /\
  ∀j (h:j<S.length),∃u l h',vs[j*2]? = some (.int .i64 S[j].1)/\vs[j*2+1]? = some u/\lo<=l/\h'<=(w:Nat)/\(∀g,sv.ownBlock=some g->g<l\/h'<=g)/\kO l h' w u S[j].2
def Y9.nil(lo:Nat)(w:z7):Y9 lo w (.slice none 0 0) []:=⟨[],yr _ _ _ _,λj h=>absurd h (uf j)⟩
def Y9.form(h:Y9 lo w sv S):∃a cap,sv = .slice a S.length cap:=by
 obtain⟨vs,b,_⟩:=h;exact zD b
def Y9.lt(h:Y9 lo w sv S):∀g,sv.ownBlock=some g->lo<=g/\g<(w:Nat):=by
 obtain⟨vs,a,_⟩:=h;exact a.lt
def Y9.but{b:Nat}(h:Y9 lo w sv S)(hb:xj b w w')(a:sv.ownBlock≠some b)
  (o:b<lo\/(w:Nat)<=b):Y9 lo w' sv S:=by
 obtain⟨vs,m,n⟩:=h;refine⟨vs,m.kept (row:=some b) ⟨hb.os,hb.tape,hb.output,hb.size,λi hi hn=>hb.block i hi (λe=>hn (by rw[e]))⟩ (.inr a),λj g=>?_⟩;obtain⟨u,l,f,e1,e2,e3,e4,c,d⟩:=n j g;refine⟨u,l,f,e1,e2,e3,zZ e4 hb.size,c,d.keep ⟨zZ e4 hb.size,λk k1 k2=>hb.block k J J⟩ (X _) (X _)⟩
def Y9.below(h:Y9 lo w sv S)(hb:zJ w w'):Y9 lo w' sv S :=
 h.but (xj.of (p:=(w:Nat)) hb) (λe=>by have:=(h.lt _ e).2;omega) (.inr (X _))
def ES{k:uP}{R:zx->Option (DataW Unit×List MemPlace)}{b:Nat}{D:DataW Unit}(h:w.ownsMap prog k R b n D)(hb:zJ w w'):w'.ownsMap prog k R b n D :=
 h.kept (row:=none) ⟨hb.os,hb.tape,hb.output,hb.size,λi hi _=>hb.block i hi⟩ zY
def tT(fn:Fn)(first cap:Array zx)(w:z7):(binOp .eql 132 (.func fn first cap) .nilFunc).run prog w = .ok (.bool false) w:=by
 have h:∀d:Nat,(bE (d+1) 132 (.func fn first cap) .nilFunc).run prog w = .ok false w:=λd=>by
  simp[bE,zuu underlying132]
 exact If
def O9(w:z7):(binOp .eql 132 .nilFunc .nilFunc).run prog w = .ok (.bool true) w:=by
 have h:∀d:Nat,(bE (d+1) 132 .nilFunc .nilFunc).run prog w = .ok true w:=λd=>by
  simp[bE,zuu underlying132]
 exact If
def Y9.more{l0 h0:Nat}{a:zx}{q:Nat×gx}
  (o:∀j (h:j<S.length),∃u l h',vs[j*2]? = some (.int .i64 S[j].1)/\vs[j*2+1]? = some u/\lo<=l/\h'<=(w:Nat)/\(∀g,sv.ownBlock=some g->g<l\/h'<=g)/\kO l h' w u S[j].2) (d:vs.length=S.length*2)
  (hT:kO l0 h0 w u q.2) (f:lo<=l0) (S2:h0<=(w:Nat)) (hg0:∀g,sv.ownBlock=some g->g<l0\/h0<=g)
  (hb:zJ w w1) (jA:w1.grownBy w' sv.ownBlock) (hat:a.ownBlock=sv.ownBlock\/a.ownBlock=some (w1:Nat)) (ho:w'.ownsRow lo 134 2 a (S.length+1) (vs++[.int .i64 q.1,u])) :
  Y9 lo w' a (S++[q]):=by
 have A9:∀l h',h'<=(w:Nat)->(∀g,sv.ownBlock=some g->g<l\/h'<=g)->xS l h' w w':=pn;have b:∀l h',h'<=(w:Nat)->(∀g,sv.ownBlock=some g->g<l\/h'<=g)->∀g,a.ownBlock=some g->g<l\/h'<=g:=nJ;refine⟨vs++[.int .i64 q.1,u],IQ,λj n=>?_⟩;by_cases c:j<S.length
 .obtain⟨x,l,h',e1,e2,e3,e4,i,m⟩:=o j c;refine⟨x,l,h',?_,?_,e3,zZ e4 (zZ hb.size jA.size),b l h' e4 i,?_⟩
  .rw[qM J,lH c];exact e1
  .rw[qM J];exact e2
  .rw[lH c];exact m.keep (A9 l h' e4 i) (X _) (X _)
 .have e:j=S.length:=by simp at n;omega
  subst e;refine⟨u,l0,h0,?_,?_,f,zZ S2 (zZ hb.size jA.size),b l0 h0 S2 hg0,?_⟩
  .rw[zc J,d,List.getElem_append_right J];simp
  .rw[zc J,d];simp
  .exact sf
def Y9.set{a:Option yi}(h:Y9 lo w (.slice a S.length cap) S):tR lo (w:Nat) w a S:=by
 obtain⟨vs,i,k⟩:=h;intro j f;obtain⟨u,l,n,e1,e2,e3,e4,m,d⟩:=k j f;obtain⟨g,c,hv,e,b,hc⟩:=vK i J;cases hv;refine⟨g,0,u,rfl,?_,?_,e,b,d.keep (vX e4) e3 e4⟩
 .rw[V9,hc (j*2) J];exact e1
 .rw[V9,hc (j*2+1) J];exact e2
def xkz(r:Option (List (Nat×gx)))(w:z7)(e:gG)(w':z7):Prop :=
 (match r with|none=>e = .returned (.tuple #[.slice none 0 0,.bool false])|some S=>∃a c,e = .returned (.tuple #[.slice a S.length c,.bool true])/\tR (w:Nat) (w':Nat) w' a S)/\zJ w w'
def Ab(D:DataW Unit)(seen:List Wd):Prop:=Maps.IsMap D/\∀n:Wd,∃c:Int,D.atKey (.string n) (.lit (.int .i64 0)) = .lit (.int .i64 c)/\(0<c ↔ n∈seen)/\0<=c/\c<=seen.length
def zfg(rs:List KZ)(r:Option (List (Nat×gx)))(mb:Nat)(w:z7)(sv:zx)(k:Nat)(wr:z7):Prop :=
 ∃(S:List (Nat×gx)) (seen:List Wd) (D:DataW Unit),Y9 (mb+1) wr sv S/\wr.ownsMap prog 9 (plainElem prog 3) mb (k+1) D/\Ab D seen/\seen.length<=k+1/\zJ w wr/\(w:Nat)<=mb /\
  S.length<=k/\Y8 (rs.drop k) seen S=r
def SP:Ab ((zev []:DataW Unit).put (.string [111,116,104,101,114]) (.lit (.int .i64 1))) [[111,116,104,101,114]]:=by
 refine⟨⟨_,rfl⟩,λn=>?_⟩;by_cases h:n=[111,116,104,101,114]
 .subst h;exact⟨1,yy,zY,zj,zY⟩
 .refine⟨0,?_,by simp[h],zj,zY⟩;rw[fF (by simpa using h)];rfl
def ez{D:DataW Unit}{seen:List Wd}{n:Wd}(h:Ab D seen){c:Int}(hc:D.atKey (.string n) (.lit (.int .i64 0)) = .lit (.int .i64 c)):Ab (D.put (.string n) (.lit (.int .i64 (c+1)))) (n::seen):=by
 obtain⟨⟨es,rfl⟩,h2⟩:=h;refine⟨⟨_,rfl⟩,λm=>?_⟩;by_cases hm:m=n
 .subst hm;obtain⟨a,e1,e2,e3,e4⟩:=h2 m;rw[hc]at e1;cases e1;exact⟨c+1,dC ⟨_,rfl⟩ (by trivial) _ _,zV,J,zV⟩
 .obtain⟨a,e1,e2,e3,e4⟩:=h2 m;refine⟨a,?_,by simp[hm,e2],e3,zV⟩;rw[fF (by simpa using hm)];exact e1
def SR(rs:List KZ)(v:zx)(w:z7)(hv:fu w v rs)(hl:rs.length<=1000000)(hz:∀q∈rs,q.1.length<=1000000/\q.2.length<=1000000)(hT:tN w)(hN:kb w) :
  zE prog 33 #[v] w (xkz (Ad rs) w):=by
 obtain⟨a,cap,rfl,N⟩:=hv;obtain⟨r,hr⟩:=zo (Ad rs);rw[hr];obtain⟨HR,HC,HZ,HT,HN⟩:=FD hr N hz hT hN;have lY:=@run_makeMap prog;clear hr N hz hT hN;go_enter func33,ntmps33;go_wp2;obtain⟨w1,dy,Q,O⟩:=(C5 (H:=Unit) w prog 9 (plainElem prog 3)).update (vE underlying9) underlying103 Z7 (xy (s:=⟨#[111,116,104,101,114]⟩) underlying9 zj) (Zh underlying3 (q := .i64) (a:=1) zj);rw[dy];simp only[xO];have hb:zJ w w1:=((z8 _ _).alloc (X _) _).grown O zY (λj hj=>by cases hj;exact X _);have aN:=Z Q;clear dy Q O;obtain⟨mb,PL⟩:∃mb,mb=(w:Nat):=⟨_,rfl⟩;rw[<-PL]at aN;go_wp2;rw[<-PL];have HMB:=Z PL;clear PL;go_loopw [2,13] (λsv i wr=>∃k:Nat,k<=rs.length/\i = .int .i64 k/\zfg rs r mb w sv k wr) (λ_ i _=>rs.length - (intOf i).toNat)
 case atStart=>exact⟨0,zG _,rfl,[],[[111,116,104,101,114]],_,Y9.nil _ _,aN.o,SP,zY,hb,by have:=HMB.o;omega,zY,HR.o⟩
 case round =>
  obtain⟨k,hk,rfl,S,seen,D,R,yaj,V,hsl,L,yaf,hSk,y⟩:=hrel;obtain⟨d,yad,E,Qm⟩:=hdd R yaj V y;obtain⟨sa,sc,rfl⟩:=R.form;clear R yaj V y hb;by_cases ud:k<rs.length
  .obtain⟨g,o,rfl,c1,c2⟩:=HC.o k ud;have d1:=(L.cell (Y w _ c1)).trans c1;have d2:=(L.cell (Y w _ c2)).trans c2;clear c1 c2;go_wp2_with fail;have hzk:=HZ.o rs[k] (xd ud);obtain⟨nm,Cq⟩:=zo (rs[k].1);obtain⟨wh,hwh⟩:=zo (rs[k].2);rw[Cq,hwh]at hzk;rw[Cq]at d1|-;rw[hwh]at d2|-;have F:∃W,W=wr.alloc (.cells #[zv nm,zv wh] 47)/\zJ wr W/\zy W (wr:Nat) 0 (zv nm)/\zy W (wr:Nat) 1 (zv wh):=⟨_,rfl,(z8 _ _).alloc (X _) _,zg _ _ _ _ _,zg _ _ _ _ _⟩;obtain⟨W,hW,m,b0,b1⟩:=F;rw[<-hW];have t:Y8 (rs.drop k) seen S=match VD wh with
     |none=>none
     |some T=>if VE nm<0\/nm∈seen then none else Y8 (rs.drop (k+1)) (nm::seen) (S++[((VE nm).toNat,T)]):=by
    rw[yH ud];have hp:rs[k]=(nm,wh):=(by rw[<-Cq,<-hwh]);rw[hp,Y8]
   rw[Qm.o]at t;have bd:=Z t;have x:zJ w W:=L.trans (m.mono L.size);obtain⟨B,hB⟩:∃B,B=(wr:Nat):=⟨_,rfl⟩;rw[<-hB]at b0 b1|-;have HBB:=Z hB;clear hW t Cq hwh d1 d2 hB;have jq:zy W.drew B 0 (zv nm):=b0;refine bW (λW':z7=>zy W' B 0 (zv nm)) [0,1,2] 2 jq ?_;refine bF 3 (λK hK=>?_);go_simp;have Cy:kb W.drew:=HN.o.below (show yX w w W.drew from x.drew);refine(Tryz.slices_Index_string 1 0 6 6 XW ⟨nm.toArray⟩ _ zj zj (λj hj=>by rw[V9];exact Cy j hj)).mono ?_;rintro e w' ⟨rfl,rfl⟩;refine hK.out _ _ jq λ_=>?_;clear hK K;refine Xo [4] 0 jq ?_;refine fR ?_ _;have hix:Lib.idxOfS (XW.take 6) ⟨nm.toArray⟩=VE nm:=rfl;rw[hix];obtain⟨ix,yab⟩:=zo (VE nm);rw[yab]at bd|-
   have hcnd:=CM ⟨wh.toArray⟩ W.drew (by rw[size_mk];omega) (HT.o.below x.drew);rw[toList_mk]at hcnd;have xkx:=Z hcnd;have b1d:zy W.drew B 1 (zv wh):=b1;clear hix yab hcnd Cy;go_wp2_with fail;refine xkx.o.mono ?_;rintro e w3 ⟨hq,kL⟩;have f:zJ W w3:=(z8 _ W).drew.trans kL;have mW:zJ w w3:=x.trans (f.mono x.size);have hB:B<(W:Nat):=Y W _ b0;have e0:=(f.cell (p:=(zX B 0)) hB).trans b0;have C:=Z ((d.o.below m).below f);have l:=Z (ES (ES yad.o m) f);obtain⟨c,xnj,hat,SS⟩:=l.o.lookup_int (vE underlying9) underlying103 underlying3 (q := .i64) Io (key:=zv nm) (xy (s:=⟨nm.toArray⟩) underlying9 GV);rw[toList_mk]at hat;obtain⟨c',z,A,Fy,dS⟩:=E.o.2 nm;rw[z]at hat;cases hat;have hef:=tT;have hen:=O9;cases hc:VD wh with
   |none =>
    rw[hc]at hq;obtain rfl:=hq;have h:r=none:=(by rw[bd.o,hc]);have HRN:=Z h;clear hc h A z;by_cases h1:ix<0
    .have g1:decide (ix<0)=true:=decide_eq_true h1;exact D5
    .have g1:decide (ix<0)=false:=decide_eq_false h1;by_cases h2:0<c
     .have g2:decide (0<c)=true:=decide_eq_true h2;exact D5
     .have g2:decide (0<c)=false:=decide_eq_false h2;exact D5
   |some T =>
    rw[hc]at hq;obtain⟨tv,rfl,hT3⟩:=hq;have Zz:=bd.o;rw[hc]at Zz;dsimp only at Zz;have G:=Z Zz;have HFT:=Z hT3;obtain⟨kf,QT,rfl,_⟩:=hT3;clear hc Zz;by_cases h1:ix<0
    .have g1:decide (ix<0)=true:=decide_eq_true h1;have h:r=none:=(by rw[G.o,zl (.inl h1)]);have HRN:=Z h;clear h A z;exact D5
    .have g1:decide (ix<0)=false:=decide_eq_false h1;by_cases h2:0<c
     .have g2:decide (0<c)=true:=decide_eq_true h2;have h:r=none:=(by rw[G.o,zl (.inr (A.1 h2))]);have HRN:=Z h;clear h A z;exact D5
     .obtain rfl:c=0:=(by omega);have hns:¬nm∈seen:=λhm=>h2 (A.2 hm)
      have hrc:Y8 (rs.drop (k+1)) (nm::seen) (S++[(ix.toNat,T)])=r:=(by rw[G.o,zL (λq=>q.elim h1 hns)]);have HRC:=Z hrc;have UR:=Z z;obtain⟨iN,hiN⟩:∃iN:Nat,ix=(iN:Int):=⟨ix.toNat,J⟩;subst hiN;rw[Int.toNat_natCast]at HRC;obtain⟨w4,vqq,n,b⟩:=l.o.update (vE underlying9) underlying103 Z7 (key:=zv nm) (xy (s:=⟨nm.toArray⟩) underlying9 (by rw[size_mk];unfold maxLen;omega)) (Zh underlying3 (q := .i64) (a:=1) zj);rw[toList_mk]at n;have I:xj mb w3 w4:=⟨b.os,b.tape,b.output,b.size,λi hi hn=>b.block i hi (λe=>hn (by cases e;rfl))⟩;have vqk:=l.o.lt;have yc0:Y9 (mb+1) w4 (.slice sa S.length sc) S:=C.o.but I (λe=>by have:=(C.o.lt _ e).1;omega) (.inl (xf _));have M:zJ w w4:=mW.grown b mW.size (λq hq=>by cases hq;exact yaf);have hmW:mb<(wr:Nat):=yad.o.lt;have yc1:kO W.drew.heap.size (w3:Nat) w4 (.func (.func kf) #[] QT) T:=HFT.o.keep ⟨b.size,λj j1 j2=>b.block j j2 (λe=>by cases e;have:=m.size;change (W:Nat)<=mb at j1;omega)⟩ (X _) (X _);have xkv:=Z yc1;have yc2:=Z n;obtain⟨vs,CZ,tG⟩:=yc0;have MP:=Z CZ;have lg:=Z tG;have e04:zy w4 B 0 (zv nm):=I.cell e0 (by show B≠mb;have:=HBB.o;omega);clear z A hrc yc1 n CZ tG hns h1 h2;go_wp2_with (at_builtin;refine Xf tS rfl _ _ rfl (mb+1) _ S.length vs rfl (MP.o.alloc _) ⟨(w4:Nat),0,none⟩ 1 1 [.int .i64 iN,.func (.func kf) #[] QT] rfl rfl ?k1 ?k2 J (by have:=b.size;have:=m.size;have:=f.size;simp;omega) ?_)
      case k1 =>
       intro j u hu;rw[vA];match j,hu with
       | 0,hu=>simp at hu;subst hu;exact zg _ _ _ _ _
       | 1,hu=>simp at hu;subst hu;exact zg _ _ _ _ _
      case k2 =>
       exact Ef
      intro RN w5 Ya VV NK;have hbA:yX w4 w4 (w4.alloc (.cells #[iN,.func (.func kf) #[] QT] 134)):=(z8 _ _).alloc (X _) _;have U:Y9 (mb+1) w5 RN (S++[(iN,T)]) :=
       Y9.more lg.o IG xkv.o (by have:=m.size;show mb+1<=(W:Nat);omega) b.size (λq hq => .inl (by have:=(d.o.lt q hq).2;have:=m.size;show q<(W:Nat);omega)) hbA VV Is Ya
      have P:=(yc2.o.alloc (.cells #[iN,.func (.func kf) #[] QT] 134)).kept VV (λe=>by have:=(d.o.lt mb e.symm).1;omega);have zfd:zJ w w5:=(M.alloc M.size _).grown VV (by have:=M.size;simp;omega) (λq hq=>by have:=(d.o.lt q hq).1;omega);obtain⟨a5,c5,rfl⟩:=zD Ya;have yc3:=Z U;have yc4:=Z P;clear U P Ya VV NK hbA;go_wp2;go_roundw
      case rel=>exact⟨k+1,J,xi,S++[(iN,T)],nm::seen,_,by simpa using yc3.o,yc4.o,ez E.o UR.o,zV,zfd,yaf,zV,HRC.o⟩
      case measure=>simp[intOf];omega
  .obtain rfl:k=rs.length:=(by omega);have y:=Qm.o;rw[yq (X _)]at y;have hr:r=some S:=(by rw[<-y,Y8]);have ZC:=Z hr;clear y hr;go_wp2;go_ret2
   refine⟨?_,L⟩;rw[ZC.o];exact⟨sa,sc,rfl,d.o.set.keep (vX (X _)) J (X _)⟩
def dH(l:List (List UInt8))(x:List UInt8):Int:=if l.idxOf x<l.length then (l.idxOf x:Int)else -1
def Oz{l:List (List UInt8)}{x:List UInt8}(hk:k<l.length)(h:x ∉ l.take k)(hx:l[k]=x):dH l x=k:=by
 have e:l.idxOf x=k:=zl6;unfold dH;rw[e,zl hk]
def Oy{l:List (List UInt8)}{x:List UInt8}(h:x ∉ l):dH l x = -1:=by
 unfold dH;rw[zL (by rw[UJ];exact h)]
def B7{l:List (List UInt8)}{x:List UInt8}:0<=dH l x ↔ x∈l:=by
 unfold dH;rw[<-UJ];split<;>simp_all
def B8(v:zx)(ws:List (List UInt8))(m:ByteArray)(w:z7)(h:yM w v ws)(hw:ws.length<=1000000) :
  zE prog 25 #[v,.string m] w λe w'=>e = .returned (.int .i64 (dH ws m.data.toList))/\w=w':=by
 obtain⟨a,cap,rfl,l,hm,p,hc⟩:=h;have g:=Z hc;clear hc;obtain⟨n,hn⟩:=zo ws.length;have HN:=Z hn;rw[hn]at l hw|-;clear hn;obtain⟨R,hR⟩:=zo (dH ws m.data.toList);rw[hR];have f:=Z hR;clear hR;go_enter func25,ntmps25;go_wp2;go_loop [5] (λi=>∃k:Nat,k<=n/\i = .int .i64 k/\m.data.toList ∉ ws.take k) (λi=>n - (intOf i).toNat)
 case atStart=>exact⟨0,zG _,rfl,zY⟩
 case round =>
  obtain⟨k,r,rfl,b⟩:=hrel;have aW:=Z b;clear b;by_cases ud:k<n
  .obtain⟨y,rfl,j⟩:=g.o k gA;by_cases hq:ws[k]' gA=m.data.toList
   .have d:(ws[k]' gA==m.toList)=true:=(by rw[uu,hq];simp);have HF:=Z (show R=(k:Int)from f.o▸Oz (by rw[HN.o];exact ud) aW.o hq);clear hq;exact VQ
   .have d:(ws[k]' gA==m.toList)=false:=(by rw[uu];simpa using hq);exact sP
  .obtain rfl:k=n:=(by omega);have c:=aW.o;rw[xJ Lq]at c;have HF:=Z (show R = -1 from f.o▸Oy c);clear c;exact VQ
end Go.Proofs.YtfcemhlpdcnckaaGreatDoor
namespace Go.Proofs.YtfcemhlpdcnckaaGreatDoor
open Go
set_option maxRecDepth 10000
def B9(s:List UInt8):Bool:=(JT s ([48],[])).isSome
def ey:Good ([48],[]):=by unfold Good;decide
def eu(s:List UInt8):B9 s=(VD s).isSome:=by
 unfold B9;rw[tj s ey];cases VD s<;>rfl
end Go.Proofs.YtfcemhlpdcnckaaGreatDoor
namespace Go.Proofs.YtfcemhlpdcnckaaGreatDoor
open Go
set_option maxRecDepth 10000
def ET:Wd:=[111,116,104,101,114]
def XA:List Wd:=[[122,101,114,111],[111,110,101],[116,119,111],[102,101,119],[109,97,110,121]]
def dI:List KZ->List Wd->Bool
 |[],_=>true
 |(n,c)::t,seen=>decide (n∈XA) && (!(decide (n∈seen)) && (B9 c && dI t (seen++[n])))
def Zb(rs:List KZ):Bool:=dI rs []
def AZ(n:Wd):0<=VE n ↔ n∈XA\/n=ET:=by
 unfold VE;rw[Lib.idxOfS_nonneg_iff];constructor
 .intro h;simp only[XW,yp,qW,or_false]at h;have e:∀(a:Array UInt8),(⟨n.toArray⟩:ByteArray)=⟨a⟩->n=a.toList:=λa q=>by
   have:=congrArg (λb:ByteArray=>b.data.toList) q;simpa using this
  rcases h with h|h|h|h|h|h<;>(have:=e _ h;simp at this;subst this;simp[XA,ET])
 .rintro(h|h)
  .simp only[XA,yp,qW,or_false]at h;rcases h with h|h|h|h|h<;>(subst h;simp[XW])
  .subst h;simp[XW,ET]
def Bz:∀(rs:List KZ) (a b:List Wd) (acc:List (Nat×gx)),(∀n,n∈a ↔ n∈b\/n=ET)->dI rs b=(Y8 rs a acc).isSome
 |[],_,_,_,_=>rfl
 |(n,c)::t,a,b,acc,hs=>by
  unfold dI Y8;rw[eu];cases hc:VD c with
  |none=>simp
  |some T =>
   dsimp only;by_cases hn:VE n<0\/n∈a
   .rw[zl hn];have d:n∈XA->n∈b:=λhm=>by
     rcases hn with q|q
     .exact absurd ((AZ n).2 (.inl hm)) J
     .rcases (hs n).1 q with q|q
      .exact q
      .subst q;exact absurd hm zj
    by_cases hm:n∈XA
    .simp[d hm]
    .simp[hm]
   .rw[zL hn];have e:0<=VE n:=(by omega);have h1:n ∉ a:=λq=>hn (.inr q)
    have h2:n ∉ b:=λq=>h1 ((hs n).2 (.inl q))
    have f:n≠ET:=λq=>h1 ((hs n).2 (.inr q))
    have g:n∈XA:=by
     rcases (AZ n).1 e with q|q
     .exact q
     .exact absurd q f
    rw[<-Bz t (n::a) (b++[n]) (acc++[((VE n).toNat,T)]) (λm=>by
     simp only[yp,xY,hs m,qW,or_false];constructor
     .rintro(q|q|q)
      .exact .inl (.inr q)
      .exact .inl (.inl q)
      .exact .inr q
     .rintro((q|q)|q)
      .exact .inr (.inl q)
      .exact .inl q
      .exact .inr (.inr q))]
    simp[h2,g]
def ej(rs:List KZ):Zb rs=(Ad rs).isSome:=Bz rs _ _ _ (λn=>by simp[ET])
end Go.Proofs.YtfcemhlpdcnckaaGreatDoor
namespace Go.Proofs.YtfcemhlpdcnckaaGreatDoor
open Go Go.RowKit
set_option maxRecDepth 10000
variable{v:zx}{w:z7}
def By(ws:List Wd):Nat:=(ws.map qj).sum
def tW(ws:List Wd)(k:Nat)(a:k<ws.length):By (ws.take (k+1))=By (ws.take k)+ws[k].length:=by
 unfold By;rw[zr a,List.map_append,List.sum_append];simp only[ve,YW,List.sum_cons,List.sum_nil,fD]
def zfb(ws:List Wd):∀m∈ws,m.length<=By ws:=by
 induction ws with
 |nil=>intro m h;cases h
 |cons a t b =>
  intro m h;have e:By (a::t)=a.length+By t:=by simp[By]
  rcases yp.1 h with rfl|h
  .omega
  .have:=b m h;omega
def tA(ws:List Wd)(w:z7)(e:gG)(w':z7):Prop:=w=w'/\∃n:Nat,e = .returned n/\n<=281474976710656/\(n<=65536->ws.length<=65536/\∀m∈ws,m.length<=65536)
def EW(v:zx)(ws:List Wd)(w:z7)(I:yM w v ws)(K:ws.length<=140737488355328)(s:∀m∈ws,m.length<=140737488355328) :
  zE prog 4 #[v] w (tA ws w):=by
 obtain⟨na,E,rfl,z,A,B,l⟩:=I;have x:=Z l;have y:=Z s;clear l s z A B;go_enter func4,ntmps4;go_wp2;go_loop [3,4] (λn i=>∃k:Nat,k<=ws.length/\i = .int .i64 k/\∃t:Nat,n = .int .i64 t/\t=ws.length+By (ws.take k)/\(k=0\/t<=65536)) (λ_ i=>ws.length - (intOf i).toNat)
 case atStart=>exact⟨0,zG _,rfl,ws.length,rfl,by simp[By],.inl rfl⟩
 case round =>
  obtain⟨k,O,rfl,t,rfl,f,d⟩:=hrel;have j:=Z f;clear f;by_cases e:k<ws.length
  .obtain⟨g,rfl,hc⟩:=x.o k e;have L:=y.o _ (xd e);have G:=Z (tW ws k e);obtain⟨m,hm⟩:=zo (ws[k]);rw[hm]at hc L;have u:=Z hm;have C:t<=140737488355328:=by
    rcases d with h|h
    .have h2:=j.o;subst h;rw[List.take_zero]at h2;have:By []=0:=rfl;omega
    .omega
   have p:(⟨m.toArray⟩:ByteArray).size=m.length:=size_mk m;have r:yU.wrap ((t:Int)+(m.length:Int))=((t+m.length:Nat):Int):=qK;have F:=Z d;clear hm d;by_cases D:65536<t+m.length
   .have g1:decide ((65536:Int)<((t+m.length:Nat):Int))=true:=(by simp;omega);have g2:decide ((65536:Int)<(t:Int)+(m.length:Int))=true:=zV;go_wp2;go_ret;exact⟨rfl,t+m.length,by first|rfl|(simp[go_sem,p,r];done),J,λq=>J⟩
   .have g1:decide ((65536:Int)<((t+m.length:Nat):Int))=false:=(by simp;omega);have g2:decide ((65536:Int)<(t:Int)+(m.length:Int))=false:=zV;go_wp2;go_round
    case rel=>exact⟨k+1,J,xi,t+m.length,by first|rfl|(simp[p,r];done),by have a:=j.o;have b:=G.o;have c:=u.o;rw[b,c];omega,.inr J⟩
    case measure=>simp[intOf];omega
  .obtain rfl:k=ws.length:=(by omega);have f:=j.o;rw[kp]at f;have C:t<=140737488355328:=by
    rcases d with h|h
    .have h2:ws=[]:=zF h;rw[h2]at f;have H:By []=0:=rfl;rw[H]at f;have N:([]:List Wd).length=0:=rfl;omega
    .omega
   have M:=Z d;clear f d;go_wp2;go_ret;exact⟨rfl,t,rfl,J,λq=>⟨by have:=j.o;omega,λm hm=>by have h1:=j.o;rw[kp]at h1;have:=zfb ws m hm;omega⟩⟩
def yg:List Wd->List KZ
 |a::b::t=>(a,b)::yg t
 |_=>[]
def uz(rs:List KZ):List zx:=rs.flatMap λr=>[zv r.1,zv r.2]
def UW(rs:List KZ):(uz rs).length=rs.length*2:=by
 induction rs with
 |nil=>rfl
 |cons r t a=>simp[uz]at a|-;omega
def QX(rs:List KZ)(j:Nat)(h:j<rs.length):(uz rs)[j*2]? = some (zv rs[j].1)/\(uz rs)[j*2+1]? = some (zv rs[j].2):=by
 induction rs generalizing j with
 |nil=>cases h
 |cons r t a =>
  have e:uz (r::t)=zv r.1::zv r.2::uz t:=rfl;rw[e];cases j with
  |zero=>exact⟨rfl,rfl⟩
  |succ j =>
   have:=a j Jq;rw[show(j+1)*2=j*2+1+1 by omega];simpa using this
def dL(ws:List Wd):(yg ws).length=ws.length / 2:=by
 match ws with
 |[]=>rfl
 |[x]=>simp[yg]
 |a::b::t=>have:=dL t;simp[yg,this];omega
def QV:∀(ws:List Wd) (n:Nat),(∀m∈ws,m.length<=n)->∀q∈yg ws,q.1.length<=n/\q.2.length<=n
 |[],_,_,q,c=>by cases c
 |[_],_,_,q,c=>by cases c
 |a::b::t,n,h,q,c=>by
  rcases yp.1 c with rfl|c
  .exact⟨h _ (xB ..),h _ (yo _ (xB ..))⟩
  .exact QV t n (λm hm=>h m (yo _ (yo _ hm))) q c
def Ox(ws:List Wd)(k:Nat)(h:2*k+1<ws.length):yg (ws.take (2*(k+1)))=yg (ws.take (2*k))++[(ws[2*k],ws[2*k+1])]:=by
 induction k generalizing ws with
 |zero =>
  match ws,h with
  |a::b::t,_=>rfl
 |succ k f =>
  match ws,h with
  |a::b::t,h =>
   have:=f t Jq;have h1:(a::b::t).take (2*(k+1+1))=a::b::t.take (2*(k+1)):=(by rw[show 2*(k+1+1)=2*(k+1)+1+1 by omega];rfl);have h2:(a::b::t).take (2*(k+1))=a::b::t.take (2*k):=(by rw[show 2*(k+1)=2*k+1+1 by omega];rfl);have d:∀(n i:Nat) (hn:n=i+1+1) (e:n<(a::b::t).length) (c:i<t.length),(a::b::t)[n]=t[i]:=by
    intro n i hn e c;subst hn;rfl
   rw[h1,h2,yg,yg,this,d _ (2*k) J _ (by simp at h;omega),d _ (2*k+1) J _ (by simp at h;omega)];rfl
def SW(ws:List Wd)(k:Nat)(h:¬2*k+1<ws.length):yg (ws.take (2*k))=yg ws:=by
 induction k generalizing ws with
 |zero =>
  match ws,h with
  |[],_=>rfl
  |[_],_=>rfl
  |a::b::t,h=>simp at h
 |succ k c =>
  match ws,h with
  |[],_=>rfl
  |[_],_=>rfl
  |a::b::t,h =>
   have:=c t Jq;rw[show 2*(k+1)=2*k+1+1 by omega];simp only[qO,yg];rw[this]
def YI:bH prog 25 47 (.agg #[.string ⟨#[]⟩,.string ⟨#[]⟩]) 2 32 :=
 ⟨underlying25,info_parts yy,rfl,zj,zj⟩
def fu.bY{base:Nat}{rs:List KZ}(h:w.ownsRow base 47 2 v rs.length (uz rs)):fu w v rs:=by
 rcases Nat.eq_zero_or_pos rs.length with c|c
 .obtain⟨a,cap,hv⟩:=zD h;exact⟨a,cap,hv,λj b=>J⟩
 .obtain⟨g,cap,hv,_,_,hc⟩:=vK h c;refine⟨_,_,hv,λj b=>⟨g,0,rfl,?_,?_⟩⟩
  .rw[V9,hc _ J];exact(QX rs j b).1
  .rw[V9,hc _ J];exact(QX rs j b).2
def EA(v:zx)(ws:List Wd)(w:z7)(hN:yM w v ws)(hwl:ws.length<=1000000) :
  zE prog 7 #[v] w λe w'=>(∃rv,e = .returned rv/\w'.ownsRow (w:Nat) 47 2 rv (yg ws).length (uz (yg ws)))/\zJ w w':=by
 obtain⟨na,vqj,rfl,R,S,T,t⟩:=hN;have m:=Z t;clear t R S T;go_enter func7,ntmps7;go_wp2;go_loopw [3,4] (λsv i wr=>∃k:Nat,2*k<=ws.length/\i = .int .i64 ((2*k:Nat):Int)/\wr.ownsRow (w:Nat) 47 2 sv (yg (ws.take (2*k))).length (uz (yg (ws.take (2*k))))/\zJ w wr) (λ_ i _=>ws.length - (intOf i).toNat)
 case atStart=>exact⟨0,zG _,rfl,yr _ _ _ _,z8 _ _⟩
 case round =>
  obtain⟨k,hk,rfl,b,a⟩:=hrel;obtain⟨i,hi⟩:=zo (2*k);rw[hi]at b hk|-;have G:=Z b;obtain⟨E,sc,rfl⟩:=zD b;clear b;have D:=Z hi;by_cases f:2*k+1<ws.length
  .obtain⟨g,rfl,n⟩:=m.o (2*k) J;obtain⟨g',r,p⟩:=m.o (2*k+1) f;cases r;have d0:=(a.cell (Y _ _ n)).trans n;have d1:=(a.cell (Y _ _ p)).trans p;have L:=Z (Ox ws k f);obtain⟨x,hx⟩:=zo (ws[2*k]);obtain⟨y,hy⟩:=zo (ws[2*k+1]);rw[hx]at d0;rw[hy]at d1;have HX:=Z hx;have HY:=Z hy;have l:(yg (ws.take i)).length=k:=(by rw[dL,xr,zeu J];omega);have Sj:=Z l;rw[hi]at d0 d1;have lS:i+1<ws.length:=J;clear hx hy l n p hi;have hi0:i<ws.length:=J;have lV:(i:Int)<(ws.length:Int):=J;have hi3:(i:Int)+1<(ws.length:Int):=J;have hi4:((i:Int)+1).toNat=i+1:=J;have hi5:(0:Int)<=(i:Int)+1:=J;have hi6:yU.wrap ((i:Int)+1)=(i:Int)+1:=qK;rw[show g.add (i+1)=⟨g.block,g.off+(i+1),none⟩from IC]at d1;have M:wr.drew.cell? (g.add i)=some (zv x)/\zy wr.drew g.block (g.off+(i+1)) (zv y):=⟨d0,d1⟩;go_wp2_with fail;refine bW (λW':z7=>W'.cell? (g.add i)=some (zv x)/\zy W' g.block (g.off+(i+1)) (zv y)) [0,1,2,3,4,5,6,7,8,9,10] 3 M ?_;refine bF 11 (λK hK=>?_);go_simp;have F:∃W,W=(wr.alloc (.cells #[zv x,zv y] 47)).drew/\zJ wr W/\W.heap.size=(wr:Nat)+1/\zy W (wr:Nat) 0 (zv x)/\W.cell? (zX (wr:Nat) 1)=some (zv y) /\
     W.cell? (g.add i)=some (zv x)/\zy W g.block (g.off+(i+1)) (zv y)/\W.ownsRow (w:Nat) 47 2 (.slice E (yg (ws.take i)).length sc) (yg (ws.take i)).length (uz (yg (ws.take i))) :=
    ⟨_,rfl,((z8 _ _).alloc (X _) _).drew,zY,(zg wr _ _ _ _ :),(zg wr _ _ _ _ :),(za _ _ _ (Y _ _ d0)).trans d0,(za _ _ _ (Y _ _ d1)).trans d1,bS (G.o.alloc _)⟩
   obtain⟨W,hW,O,hsW,q0,q1,V,e1,ho⟩:=F;rw[<-hW];clear hW;refine hK.out _ _ ⟨V,e1⟩ λ_=>?_;clear hK K;refine bF 12 (λK hK=>?_);rw[zl xK];obtain⟨U,s,hz,h2,h3⟩:=YI.info;refine wp_append_own W _ _ 25 rfl (w:Nat) 47 U _ 2 32 YI.under s hz h2 h3 YI.UL YI.pos _ _ _ rfl ho ⟨(wr:Nat),0,none⟩ 1 1 [zv x,zv y] rfl rfl ?_ ?_ (by unfold maxLen;have:=Sj.o;omega) Qu (by have:=a.size;omega) ?_
   .intro j u hu;rw[vA];match j,hu with
    | 0,hu=>simp at hu;subst hu;exact q0
    | 1,hu=>simp at hu;subst hu;exact q1
   .exact Ef
   .intro v5 w5 B d _;have c:∀q,(yI E (yg (ws.take i)).length sc).ownBlock=some q->(w:Nat)<=q:=λq hq=>(G.o.lt q hq).1
    have N:zJ w w5:=(a.trans (O.mono a.size)).grown d (by have:=a.size;omega) c;have hgl:g.block<(w:Nat):=by
     obtain⟨g',r,P⟩:=m.o i J;cases r;have h:=Y _ _ P;rwa [addr_add]at h
    have z:some g.block≠(yI E (yg (ws.take i)).length sc).ownBlock:=λe=>by have:=c _ e.symm;omega
    have p0:=d.cell V (by rw[addr_add];exact z);have p1:=d.cell e1 z;have HF:=Z (show yg (ws.take (2*(k+1)))=yg (ws.take i)++[(x,y)]by rw[L.o,HX.o,HY.o,D.o]);have C:uz (yg (ws.take i)++[(x,y)])=uz (yg (ws.take i))++[zv x,zv y]:=(by simp[uz]);have I:=Z (show w5.ownsRow (w:Nat) 47 2 v5 (yg (ws.take (2*(k+1)))).length (uz (yg (ws.take (2*(k+1)))))by rw[HF.o,C];simpa using B);refine hK.out _ _ ⟨p0,p1⟩ λ_=>?_;clear hK K C B d c;refine Xo [13] 0 ⟨p0,p1⟩ ?_;refine fR ?_ _;have Q:yU.wrap ((i:Int)+2)=(i:Int)+2:=qK
    go_wp2;go_roundw
    case rel=>exact⟨k+1,by have:=D.o;omega,by have:=D.o;go_num,I.o,N⟩
    case measure=>simp[intOf];omega
  .have vqg:¬i+1<ws.length:=(by omega);have L:=Z (SW ws k f);have Q:yU.wrap ((i:Int)+1)=(i:Int)+1:=qK;have he:yg (ws.take i)=yg ws:=(by rw[<-D.o,L.o]);have A:wr.ownsRow (w:Nat) 47 2 (.slice E (yg (ws.take i)).length sc) (yg ws).length (uz (yg ws)):=by
    have h:=G.o;rw[he]at h|-;exact h
   have H:=Z A;clear he A;clear hi f;go_wp2;go_ret;exact⟨⟨_,rfl,H.o⟩,a⟩
variable{Q:Exit->Act->z7->Prop}{cap:Nat}{w':z7}
def uW(w:z7)(v:zx)(rs:List KZ):Prop:=fu w v rs/\((v = .slice none 0 0/\rs=[])\/∃g o cap,v = .slice (some ⟨g,o,none⟩) rs.length cap)
def uW.below{rs:List KZ}(h:uW w v rs)(hb:zJ w w'):uW w' v rs:=⟨h.1.below hb,h.2⟩
def uW.bY{base:Nat}{rs:List KZ}(h:w.ownsRow base 47 2 v rs.length (uz rs)):uW w v rs:=by
 refine⟨fu.bY h,?_⟩;rcases h.2 with⟨hv,a⟩|⟨g,cap,cur,hv,_⟩
 .exact .inl ⟨hv,zF a⟩
 .exact .inr ⟨g,0,cap,hv⟩
def eg{g o:Nat}{rs:List KZ}(h:fu w (.slice (g,o) rs.length cap) rs):∀j u,(uz rs)[j]? = some u->w.cell? ((⟨g,o,none⟩:yi).add j)=some u:=by
 obtain⟨a,c,hv,hc⟩:=h;cases hv;intro j u d;have k:j<rs.length*2:=by rw[<-UW];exact(vq.1 d).1
 have f:j / 2<rs.length:=J;obtain⟨g',l,e,c0,c1⟩:=hc (j / 2) f;cases e;obtain⟨i,r1⟩:=QX rs (j / 2) f;have b:(⟨g,o,none⟩:yi).add j=⟨g,o+j,none⟩:=by
  unfold xM;split
  .next h=>subst h;rfl
  .rfl
 rw[b];rcases Nat.mod_two_eq_zero_or_one j with h|h
 .have e:j / 2*2=j:=by omega
  rw[e]at c0 i;rw[c0,<-i,d]
 .have e:j / 2*2+1=j:=by omega
  rw[jo,e]at c1;rw[e]at r1;rw[c1,<-r1,d]
def SA(rs:List KZ):∀u∈uz rs,u.oneCell'=true:=by
 intro u a;obtain⟨r,_,hr⟩:=List.mem_flatMap.1 a;simp at hr;rcases hr with rfl|rfl<;>rfl
def Ov{ops:Array fG}{rest:List fG}{o:fG}{a:Act}(b:o.guard=none)(s x:Operand)
  (c:o.op = .call { callee := .builtin .append,args:=#[s,x],argTypes:=#[25,25] }) (hs:a.eval s = .slice none 0 0)  (hx:a.eval x=v) {rs:List KZ} (hv:uW w v rs) (e:rs.length<=1000000)
  (h:∀v' w',w'.ownsRow (w:Nat) 47 2 v' rs.length (uz rs)->zJ w w'->wpList prog ops Q rest (a.put o.dst v') w'):wpList prog ops Q (o::rest) a w:=by
 have hi:∃i,prog.info? 47=some i:=by
  cases h:prog.info? 47 with
  |some i=>exact⟨i,rfl⟩
  |none=>exact absurd (show(prog.info? 47).isSome=true by kernel_rfl) (by rw[h];decide)
 obtain⟨i,hi⟩:=hi;rcases hv.2 with⟨rfl,rfl⟩|⟨g,of,cap,rfl⟩
 .exact wpList_append_own_none b s x 25 c 0 47 i 2 underlying25 hi (.slice none 0 0) 0 [] hs (yr _ _ _ _) hx (h _ _ (yr _ _ _ _) (z8 _ _))
 .refine vY YI b s x c (w:Nat) _ 0 [] hs (yr _ _ _ _) ⟨g,of,none⟩ rs.length cap (uz rs) hx (UW rs) (eg hv.1) (SA rs) J (X _) (λv' w' h1 h2=>?_);refine h v' w' (by simpa using h1) ?_;exact(z8 _ _).grown h2 (X _) (λq d=>by cases d)
variable{l:List UInt8}{n:Nat}
def qD(r:Int):Bool:=decide (0<=r/\r<=0x10FFFF/\(r<0xD800\/0xDFFF<r))
def dX(r:Int)(w:z7) :
  zE prog 16 #[.int .i32 r] w λe w'=>e = .returned (.bool (qD r))/\w=w':=by
 by_cases h:qD r=true
 .have b:=h;simp only[qD,qP]at b;obtain⟨h1,h2,a⟩:=b;rcases a with a|a;all_goals
   go_enter func16,ntmps16;go_wp2;go_ret;refine⟨dE ?_,rfl⟩;simp[*]
 .have b:qD r=false:=by simpa using h
  have h2:r<0\/0x10FFFF<r\/(0xD800<=r/\r<=0xDFFF):=by
   simp only[qD,qP]at h;omega
  clear h;rcases h2 with h2|h2|⟨h2,a⟩
  .go_enter func16,ntmps16;exact Rz
  .go_enter func16,ntmps16;have c:0<=r:=(by omega);exact Rz
  .go_enter func16,ntmps16;have c:0<=r:=(by omega);have h1:r<=0x10FFFF:=J;exact Rz
def jB(l:List UInt8)(v:Nat):Nat:=l.foldl (λv c=>64*v+(c.toNat - 128)) v
def qu(c:UInt8):Bool:=128<=c && c<=191
def least(n:Nat):Int:=if n=4 then 65536 else if n=3 then 2048 else if n=2 then 128 else 0
def uV(l:List UInt8)(n v:Nat):Nat :=
 if l.length<n then 0 else if (l.tail.take (n - 1)).all qu=false then 0
 else if (jB (l.tail.take (n - 1)) v:Int)<least n\/qD (jB (l.tail.take (n - 1)) v)=false then 0 else n
def yR(l:List UInt8):Nat :=
 let c:=(l.headD 0).toNat
 if 240<=c/\c<248 then uV l 4 (c - 240)
 else if 224<=c/\c<240 then uV l 3 (c - 224)
 else if 192<=c/\c<224 then uV l 2 (c - 192)
 else if 128<=c then 0
 else uV l 1 c
def Zv(c:UInt8):qu c=true ↔ (128:Int)<=(c.toNat:Int)/\(c.toNat:Int)<=191:=by
 simp[qu,UInt8.le_iff_toNat_le];omega
def aa(s:ByteArray)(k:Nat)(h1:1<=k)(h:k<s.size):s.data.toList.tail.take k=s.data.toList.tail.take (k - 1)++[s[k]]:=by
 obtain⟨j,rfl⟩:∃j,k=j+1:=⟨k - 1,J⟩;rw[zr zV];simp[<-getElem_toList s (j+1) h]
def Rw(l:List UInt8)(c:UInt8)(v:Nat):jB (l++[c]) v=64*jB l v+(c.toNat - 128):=by simp[jB]
def Bx(l:List UInt8):∀(v:Nat),l.all qu=true->jB l v<64 ^ l.length*(v+1):=by
 induction l with
 |nil=>intro v _;simp[jB]
 |cons a l b =>
  intro v h;simp only[kP,zQ]at h;have ha:=(Zv a).1 h.1;have:=b (64*v+(a.toNat - 128)) h.2;have e:jB (a::l) v=jB l (64*v+(a.toNat - 128)):=rfl;rw[e];refine ze this ?_;rw[zm,Nat.pow_succ,Nat.mul_assoc];exact Nat.mul_le_mul_left _ J
def qB{l:List UInt8}{n v:Nat}(H:(240<=(l.headD 0).toNat/\(l.headD 0).toNat<248/\n=4/\v=(l.headD 0).toNat - 240) \/
  (224<=(l.headD 0).toNat/\(l.headD 0).toNat<240/\n=3/\v=(l.headD 0).toNat - 224) \/
  (192<=(l.headD 0).toNat/\(l.headD 0).toNat<224/\n=2/\v=(l.headD 0).toNat - 192) \/
  ((l.headD 0).toNat<128/\n=1/\v=(l.headD 0).toNat)):yR l=uV l n v:=by
 unfold yR;rcases H with⟨h1,h2,rfl,rfl⟩|⟨h1,h2,rfl,rfl⟩|⟨h1,h2,rfl,rfl⟩|⟨h1,rfl,rfl⟩
 .rw[zl ⟨h1,h2⟩]
 .rw[zL J,zl ⟨h1,h2⟩]
 .rw[zL J,zL J,zl ⟨h1,h2⟩]
 .rw[zL J,zL J,zL J,zL J]
def bM{v:Nat}(h:l.length<n):uV l n v=0:=by rw[uV,zl h]
def VH{v:Nat}(h:(l.tail.take (n - 1)).all qu=false):uV l n v=0:=by
 unfold uV;rw[zl h];simp
def Xb{v:Nat}(a:¬l.length<n)(h:(l.tail.take (n - 1)).all qu=true) :
  uV l n v=if (jB (l.tail.take (n - 1)) v:Int)<least n\/qD (jB (l.tail.take (n - 1)) v)=false then 0 else n:=by
 unfold uV;rw[zL a,zL (by rw[h];simp)]
def Yz(s:ByteArray)(k n:Nat)(h1:1<=k)(a:k<n)(hn:n<=s.size)(hc:qu s[k]=false):(s.data.toList.tail.take (n - 1)).all qu=false:=by
 rw[List.all_eq_false];refine⟨s[k],?_,by simp[hc]⟩;rw[<-getElem_toList s k J,XO];refine⟨k - 1,zV,?_⟩;simp only[List.getElem_tail];congr 1;omega
set_option maxRecDepth 100000 in
def th(s:ByteArray)(w:z7)(I:0<s.size)(hs:s.size<=2000000000) :
  zE prog 27 #[.string s] w λe w'=>e = .returned (.int .i64 (yR s.data.toList))/\w=w':=by
 have z:=se s I;have hb:s[0].toNat<256:=UInt8.toNat_lt _;by_cases p:128<=s[0].toNat/\(s[0].toNat<192\/248<=s[0].toNat)
 .have B:yR s.data.toList=0:=by
   unfold yR;rw[z,zL J,zL J,zL J,zl J]
  have Hz:=Z B;have G:=Z z;clear B z;obtain⟨K,u⟩:=p;rcases u with u|u;all_goals
   go_enter func27,ntmps27;go_wp2;go_ret;rw[Hz.o];exact⟨rfl,rfl⟩
 .obtain⟨n,v,H⟩:∃n v,(240<=s[0].toNat/\s[0].toNat<248/\n=4/\v=s[0].toNat - 240) \/
   (224<=s[0].toNat/\s[0].toNat<240/\n=3/\v=s[0].toNat - 224) \/
   (192<=s[0].toNat/\s[0].toNat<224/\n=2/\v=s[0].toNat - 192) \/
   (s[0].toNat<128/\n=1/\v=s[0].toNat):=by
   by_cases c1:240<=s[0].toNat
   .exact⟨_,_,.inl ⟨J,J,rfl,rfl⟩⟩
   by_cases c2:224<=s[0].toNat
   .exact⟨_,_,.inr (.inl ⟨J,J,rfl,rfl⟩)⟩
   by_cases c3:192<=s[0].toNat
   .exact⟨_,_,.inr (.inr (.inl ⟨J,J,rfl,rfl⟩))⟩
   .exact⟨_,_,.inr (.inr (.inr ⟨J,rfl,rfl⟩))⟩
  have B:yR s.data.toList=uV s.data.toList n v:=qB (by rw[z];exact H);have Hz:=Z B;have G:=Z z;clear B z p;have hn:1<=n/\n<=4/\v<=127:=J;rcases H with⟨h1,h2,rfl,hv⟩|⟨h1,h2,rfl,hv⟩|⟨h1,h2,rfl,hv⟩|⟨h1,rfl,hv⟩
  .have f:(v:Int)=(s[0].toNat:Int) - 240:=(by omega);have t:v<=127:=hn.2.2;have i1:(240:Int)<=(s[0].toNat:Int):=J;have D:(s[0].toNat:Int)<248:=J;have y:=Z f;clear hv f hn;by_cases m:s.size<4
   .have Vk:=Z (bM (l:=s.data.toList) (n:=4) (v:=v) (by simpa using m));exact Ps
   .have E:(4:Int)<=(s.size:Int):=(by omega);go_enter func27,ntmps27;go_wp2;go_loop [5,7] (λx i=>∃k:Nat,1<=k/\k<=4/\i = .int .i64 k/\x = .int .i64 (jB (s.data.toList.tail.take (k - 1)) v)/\(s.data.toList.tail.take (k - 1)).all qu=true) (λ_ i=>4 - (intOf i).toNat)
    case atStart=>exact⟨1,J,J,rfl,by rw[<-y.o];rfl,zY⟩
    case round =>
     obtain⟨k,Fv,A,rfl,rfl,Zw⟩:=hrel;have c:=Bx _ v Zw;have b:(s.data.toList.tail.take (k - 1)).length<=3:=zV;have d:jB (s.data.toList.tail.take (k - 1)) v<=64 ^ 3*128:=xx (ze c (Gf (zux J b) J));clear c b;by_cases g:k<4
     .by_cases hc:qu s[k]=true
      .exact Rh
      .have Pn:qu s[k]=false:=(by simpa using hc);have Vk:=Z (VH (v:=v) (Yz s k 4 Fv g J Pn));exact Ra
     .obtain rfl:k=4:=(by omega);have Vk:=Z (Xb (n:=4) (v:=v) zV Zw);have a:least 4=least 4:=rfl;generalize jB (s.data.toList.tail.take (4 - 1)) v=q at *;have F:(q:Int)<=33554432:=J;clear d Zw a;go_wp2_with fail;refine(dX _ _).mono ?_;rintro e w' ⟨rfl,rfl⟩;by_cases a:(q:Int)<65536
      .have PD:(if (q:Int)<least 4\/qD q=false then 0 else 4)=0:=zl (.inl a);exact Ek
      .have r:decide ((q:Int)<65536)=false:=(by simpa using a);have Hle:=Z a;clear a;by_cases hp:qD q=true
       .have PD:(if (q:Int)<least 4\/qD q=false then 0 else 4)=4:=zL Rc;exact Ek
       .have j:qD q=false:=(by simpa using hp);have PD:(if (q:Int)<least 4\/qD q=false then 0 else 4)=0:=zl (.inr j);exact Rl
  .have f:(v:Int)=(s[0].toNat:Int) - 224:=(by omega);have t:v<=127:=hn.2.2;have i1:(224:Int)<=(s[0].toNat:Int):=J;have D:(s[0].toNat:Int)<240:=J;have y:=Z f;clear hv f hn;by_cases m:s.size<3
   .have Vk:=Z (bM (l:=s.data.toList) (n:=3) (v:=v) (by simpa using m));exact Ps
   .have E:(3:Int)<=(s.size:Int):=(by omega);go_enter func27,ntmps27;go_wp2;go_loop [5,7] (λx i=>∃k:Nat,1<=k/\k<=3/\i = .int .i64 k/\x = .int .i64 (jB (s.data.toList.tail.take (k - 1)) v)/\(s.data.toList.tail.take (k - 1)).all qu=true) (λ_ i=>3 - (intOf i).toNat)
    case atStart=>exact⟨1,J,J,rfl,by rw[<-y.o];rfl,zY⟩
    case round =>
     obtain⟨k,Fv,A,rfl,rfl,Zw⟩:=hrel;have c:=Bx _ v Zw;have b:(s.data.toList.tail.take (k - 1)).length<=3:=zV;have d:jB (s.data.toList.tail.take (k - 1)) v<=64 ^ 3*128:=xx (ze c (Gf (zux J b) J));clear c b;by_cases g:k<3
     .by_cases hc:qu s[k]=true
      .exact Rh
      .have Pn:qu s[k]=false:=(by simpa using hc);have Vk:=Z (VH (v:=v) (Yz s k 3 Fv g J Pn));exact Ra
     .obtain rfl:k=3:=(by omega);have Vk:=Z (Xb (n:=3) (v:=v) zV Zw);have a:least 3=least 3:=rfl;generalize jB (s.data.toList.tail.take (3 - 1)) v=q at *;have F:(q:Int)<=33554432:=J;clear d Zw a;go_wp2_with fail;refine(dX _ _).mono ?_;rintro e w' ⟨rfl,rfl⟩;by_cases a:(q:Int)<2048
      .have PD:(if (q:Int)<least 3\/qD q=false then 0 else 3)=0:=zl (.inl a);exact Ek
      .have r:decide ((q:Int)<2048)=false:=(by simpa using a);have Hle:=Z a;clear a;by_cases hp:qD q=true
       .have PD:(if (q:Int)<least 3\/qD q=false then 0 else 3)=3:=zL Rc;exact Ek
       .have j:qD q=false:=(by simpa using hp);have PD:(if (q:Int)<least 3\/qD q=false then 0 else 3)=0:=zl (.inr j);exact Rl
  .have f:(v:Int)=(s[0].toNat:Int) - 192:=(by omega);have t:v<=127:=hn.2.2;have i1:(192:Int)<=(s[0].toNat:Int):=J;have D:(s[0].toNat:Int)<224:=J;have y:=Z f;clear hv f hn;by_cases m:s.size<2
   .have Vk:=Z (bM (l:=s.data.toList) (n:=2) (v:=v) (by simpa using m));exact Ps
   .have E:(2:Int)<=(s.size:Int):=(by omega);go_enter func27,ntmps27;go_wp2;go_loop [5,7] (λx i=>∃k:Nat,1<=k/\k<=2/\i = .int .i64 k/\x = .int .i64 (jB (s.data.toList.tail.take (k - 1)) v)/\(s.data.toList.tail.take (k - 1)).all qu=true) (λ_ i=>2 - (intOf i).toNat)
    case atStart=>exact⟨1,J,J,rfl,by rw[<-y.o];rfl,zY⟩
    case round =>
     obtain⟨k,Fv,A,rfl,rfl,Zw⟩:=hrel;have c:=Bx _ v Zw;have b:(s.data.toList.tail.take (k - 1)).length<=3:=zV;have d:jB (s.data.toList.tail.take (k - 1)) v<=64 ^ 3*128:=xx (ze c (Gf (zux J b) J));clear c b;by_cases g:k<2
     .by_cases hc:qu s[k]=true
      .exact Rh
      .have Pn:qu s[k]=false:=(by simpa using hc);have Vk:=Z (VH (v:=v) (Yz s k 2 Fv g J Pn));exact Ra
     .obtain rfl:k=2:=(by omega);have Vk:=Z (Xb (n:=2) (v:=v) zV Zw);have a:least 2=least 2:=rfl;generalize jB (s.data.toList.tail.take (2 - 1)) v=q at *;have F:(q:Int)<=33554432:=J;clear d Zw a;go_wp2_with fail;refine(dX _ _).mono ?_;rintro e w' ⟨rfl,rfl⟩;by_cases a:(q:Int)<128
      .have PD:(if (q:Int)<least 2\/qD q=false then 0 else 2)=0:=zl (.inl a);exact Ek
      .have r:decide ((q:Int)<128)=false:=(by simpa using a);have Hle:=Z a;clear a;by_cases hp:qD q=true
       .have PD:(if (q:Int)<least 2\/qD q=false then 0 else 2)=2:=zL Rc;exact Ek
       .have j:qD q=false:=(by simpa using hp);have PD:(if (q:Int)<least 2\/qD q=false then 0 else 2)=0:=zl (.inr j);exact Rl
  .have Vk:uV s.data.toList 1 v=1:=by
    rw[Xb (by rw[yz];omega) zY];refine zL ?_;have e1:jB (s.data.toList.tail.take (1 - 1)) v=v:=(by simp[jB]);rw[e1];have e2:least 1=0:=rfl;have e3:qD (v:Int)=true:=(by simp only[qD,qP];omega);rw[e2,e3];intro h;rcases h with h|h
    .omega
    .cases h
   have C:=Z Vk;have hp:qD ((s[0].toNat:Int))=true:=(by simp[qD];omega);have D:(s[0].toNat:Int)<128:=J;have E:¬((s.size:Int)<1):=J;have y:=Z hv;clear Vk hv hn;go_enter func27,ntmps27;go_wp2;refine kh 1 ?_;rw[xk];go_wp2_with fail;refine(dX _ _).mono ?_;rintro e w' ⟨rfl,rfl⟩;go_wp2;go_ret;rw[Hz.o,C.o];exact⟨rfl,rfl⟩
variable{k:Nat}{v':zx}{w1:z7}
def ef(l:List UInt8)(n v:Nat):uV l n v<=l.length/\uV l n v<=n:=by
 unfold uV;repeat' split
 all_goals omega
def dA(l:List UInt8):yR l<=l.length/\yR l<=4:=by
 have h:=λn v=>ef l n v
 unfold yR;simp only[];split
 .exact h 4 _
 split
 .exact⟨(h 3 _).1,by have:=(h 3 ((l.headD 0).toNat - 224)).2;omega⟩
 split
 .exact⟨(h 2 _).1,by have:=(h 2 ((l.headD 0).toNat - 192)).2;omega⟩
 split
 .omega
 .exact⟨(h 1 _).1,by have:=(h 1 ((l.headD 0).toNat)).2;omega⟩
def xn(l:List UInt8):List (List UInt8)×Nat :=
 if h:l=[]\/yR l=0 then ([],0) else
  let r:=xn (l.drop (yR l))
  (l.take (yR l)::r.1,yR l+r.2)
 termination_by l.length
 decreasing_by
  simp only[not_or]at h;have:=xI.2 h.1;simp;omega
def qJ:xn []=([],0):=by rw[xn];simp
def fk(h:yR l=0):xn l=([],0):=by rw[xn];simp[h]
def kJ(a:l≠[])(h:yR l≠0):xn l=(l.take (yR l)::(xn (l.drop (yR l))).1,yR l+(xn (l.drop (yR l))).2):=by
 rw[xn,dif_neg (by simp[a,h])]
def Sa(l:List UInt8)(w:z7)(e:gG)(w':z7):Prop :=
 ∃v,e = .returned (.tuple #[v,.int .i64 (xn l).2])/\w'.ownsRow (w:Nat) 9 1 v (xn l).1.length ((xn l).1.map zv)/\zJ w w'
def hH(l:List UInt8)(w:z7)(v i:zx)(wr:z7):Prop :=
 ∃(k:Nat) (acc:List (List UInt8)),k<=l.length/\i = .int .i64 k/\wr.ownsRow (w:Nat) 9 1 v acc.length (acc.map zv)/\zJ w wr /\
  acc.length<=k/\(xn l).1=acc++(xn (l.drop k)).1/\(xn l).2=k+(xn (l.drop k)).2
def Ou{acc:List (List UInt8)}(e:k<l.length)(hn:yR (l.drop k)=n)(d:n≠0)
  (b:w1.ownsRow (w:Nat) 9 1 v' (acc.length+1) (acc.map zv++[zv ((l.drop k).take n)])) (hb:zJ w w1)
  (f:acc.length<=k) (h1:(xn l).1=acc++(xn (l.drop k)).1) (h2:(xn l).2=k+(xn (l.drop k)).2):hH l w v' (.int .i64 ((k:Int)+n)) w1:=by
 have c:l.drop k≠[]:=zV;have a:=(dA (l.drop k)).1;rw[hn]at a;simp only[xz]at a;rw[kJ c J,hn,Vt]at h1 h2;refine⟨k+n,acc++[(l.drop k).take n],J,xi,?_,hb,?_,?_,?_⟩
 .simpa using b
 .simp;omega
 .rw[h1];simp
 .rw[h2];simp;omega
def QU(s:ByteArray)(w:z7)(hs:s.size<=1000000000) :
  zE prog 17 #[.string s] w (Sa s.data.toList w):=by
 go_enter func17,ntmps17;go_wp2;go_loopw [4,5] (λv i wr=>hH s.data.toList w v i wr) (λ_ i _=>s.size - (intOf i).toNat)
 case atStart=>exact⟨0,[],J,rfl,yr _ _ _ _,z8 _ _,zY,zY,zY⟩
 case round =>
  obtain⟨k,acc,j,rfl,uT,hb,l,h1,h2⟩:=hrel;rw[yz]at j;have H1:=Z h1;have H2:=Z h2;clear h1 h2;by_cases f:k<s.size
  .have e1:(s.extract k s.size).data.toList=s.data.toList.drop k:=(by rw[ub]);have c:=dA (s.data.toList.drop k);simp only[xz,yz]at c;obtain⟨n,hn⟩:=zo (yR (s.data.toList.drop k));rw[hn]at c;go_wp2_with fail;refine(th _ _ zV zV).mono ?_;rw[e1,hn];have g:=Z hn;clear hn e1;rintro e w' ⟨rfl,rfl⟩;by_cases d:n=0
   .subst d;go_wp2;go_ret2
    have hz:=fk g.o;exact oP
   .have h:((n:Int)==0)=false:=(by simpa using d);go_wp2_with (at_builtin;refine vY uN rfl _ _ rfl (w:Nat) _ _ _ rfl (uT.alloc _) ⟨(wr:Nat),0,none⟩ 1 1 [.string (s.extract k (k+n))] rfl rfl Qx jr J j7 ?_);intro v' w1 a b;go_wp2;go_roundw
    case rel =>
     have e2:s.extract k (k+n)=⟨((s.data.toList.drop k).take n).toArray⟩:=(by rw[extract_eq,dD]);rw[e2]at a;exact Ou (by rw[yz];exact f) g.o d a ((hb.alloc hb.size _).grown b j7 (λq m=>(uT.lt q m).1)) l H1.o H2.o
    case measure=>simp[intOf];omega
  .go_wp2;go_ret2
   have hz:xn (s.data.toList.drop k)=([],0):=(by rw[yq zV,qJ]);exact oP
abbrev CN(c o:zx)(mi po gr fi ne:Int)(dg:ByteArray):zx :=
 .agg #[c,o,.int .i32 mi,.int .i32 po,.int .i32 gr,.int .u8 fi,.int .u8 ne,.string dg]
def enc(r:Int):List UInt8:=(F9 r).data.toList
def Yh(r:Int):(enc r).length<=4/\(F9 r).size<=4:=by
 have h:(F9 r).size<=4:=by
  unfold F9;simp only[];generalize (if Utf8.valid r=true then r.toNat else Utf8.runeError)=x;split
  .exact(by decide:1<=4)
  split
  .exact(by decide:2<=4)
  split
  .exact(by decide:3<=4)
  .exact(by decide:4<=4)
 exact⟨by simpa[enc]using h,h⟩
variable{dg:ByteArray}{fi gr mi po:Int}{B:Nat}{c o:zx}
structure GL(w:z7)(b:Nat)(c o:zx)(mi po gr fi ne:Int)(dg:ByteArray):Prop where
 c0:zy w b 0 c
 c1:zy w b 1 o
 c2:zy w b 2 (.int .i32 mi)
 c3:zy w b 3 (.int .i32 po)
 c4:zy w b 4 (.int .i32 gr)
 c5:zy w b 5 (.int .u8 fi)
 c6:zy w b 6 (.int .u8 ne)
 c7:zy w b 7 (.string dg)
def GL.below{b:Nat}{ne:Int}(h:GL w b c o mi po gr fi ne dg)(hb:yX B w w')(a:b<B):GL w' b c o mi po gr fi ne dg :=
 ⟨(hb.cell (p:=(b,0)) a).trans h.c0,(hb.cell (p:=(b,1)) a).trans h.c1,(hb.cell (p:=(b,2)) a).trans h.c2,(hb.cell (p:=(b,3)) a).trans h.c3,
  (hb.cell (p:=(b,4)) a).trans h.c4,(hb.cell (p:=(b,5)) a).trans h.c5,(hb.cell (p:=(b,6)) a).trans h.c6,(hb.cell (p:=(b,7)) a).trans h.c7⟩
def GL.drew{b:Nat}{ne:Int}(h:GL w b c o mi po gr fi ne dg):GL w.drew b c o mi po gr fi ne dg :=
 ⟨h.c0,h.c1,h.c2,h.c3,h.c4,h.c5,h.c6,h.c7⟩
def toList_eq(s:ByteArray):s.toList=s.data.toList:=by
 exact dP s
def XZ(w:z7)(v:zx)(xs:List Int):Prop:=∃a cap,v = .slice a xs.length cap/\xs.length<=maxLen/\∀j (h:j<xs.length),∃b,a=some b/\w.cell? (b.add j)=some (.int .i64 xs[j])
def XZ.below{xs:List Int}(h:XZ w v xs)(hb:zJ w w'):XZ w' v xs:=by
 obtain⟨a,cap,hv,c,hc⟩:=h;refine⟨a,cap,hv,c,λj hj=>?_⟩;exact nR
def wz(xs:List Int)(k:Nat):Int:=if h:k<xs.length then wrap32 xs[k]else 0
def Bv(v:zx)(xs:List Int)(k:Nat)(g:k<=2)(w:z7)(h:XZ w v xs) :
  zE prog 8 #[v,k] w λe w'=>e = .returned (.int .i32 (wz xs k))/\w=w':=by
 obtain⟨a,cap,rfl,f,hc⟩:=h;unfold maxLen at f;by_cases ud:k<xs.length
 .obtain⟨b,rfl,d⟩:=hc k ud;have RO:wz xs k=wrap32 xs[k]:=by unfold wz;rw[dif_pos ud]
  have HF:=Z RO;have c:decide ((k:Int)<(xs.length:Int))=true:=IU;exact sF
 .have RO:wz xs k=0:=by unfold wz;rw[dif_neg ud]
  have HF:=Z RO;have c:decide ((k:Int)<(xs.length:Int))=false:=IU;exact sF

structure wy(w:z7)(g:Nat)(mi po gr fi ne:Int)(ds:List Int):Prop where
 c2:zy w g 2 (.int .i32 mi)
 c3:zy w g 3 (.int .i32 po)
 c4:zy w g 4 (.int .i32 gr)
 c5:zy w g 5 fi
 c6:zy w g 6 ne
 len:ds.length=10
 c7:∀j (h:j<ds.length),zy w g (7+j) (.int .i32 ds[j])
variable{e:uP}
def wy.below{g:Nat}{ne:Int}{ds:List Int}(h:wy w g mi po gr fi ne ds)(hb:yX B w w')(a:g<B):wy w' g mi po gr fi ne ds where
 c2:=by rw[hb.cell (p:=(zX g 2)) a];exact h.c2
 c3:=by rw[hb.cell (p:=(zX g 3)) a];exact h.c3
 c4:=by rw[hb.cell (p:=(zX g 4)) a];exact h.c4
 c5:=by rw[hb.cell (p:=(zX g 5)) a];exact h.c5
 c6:=by rw[hb.cell (p:=(zX g 6)) a];exact h.c6
 len:=h.len
 c7:=λj b=>by rw[hb.cell (p:=⟨g,7+j,none⟩) a];exact h.c7 j b
def IsBuilder.later{T:uP}{b:Nat}{a:List zx}(h:ygg T e B b a w)(hb:zJ w w'):ygg T e B b a w':=by
 have key:∀p,ygf T e B b p a w->ygf T e B b p a w':=λp h=>by
  have c:=h.lt;obtain⟨h1,v,h2,d,f⟩:=h;exact⟨h1,v,by rw[hb.block b c];exact h2,bn d hb,f⟩
 exact h.elim (λx => .inl (key _ x)) (λx => .inr (key _ x))
variable{b0 b1 b2 b3:Nat}
def dV(l:List UInt8):Nat×Nat:=kM l.length (l.getD 0 0).toNat (l.getD 1 0).toNat (l.getD 2 0).toNat (l.getD 3 0).toNat
def QQ(c:UInt8):qu c=decide (128<=c.toNat/\c.toNat<=191):=by
 by_cases h:qu c=true
 .have:=(Zv c).1 h;rw[h,decide_eq_true J]
 .have a:qu c=false:=by simpa using h
  rw[a,eq_comm,decide_eq_false_iff_not];intro hc;exact h ((Zv c).2 J)
abbrev Xs(v:Nat):Prop:=v<=1114111/\(v<55296\/57343<v)
def Oq(v:Nat):qD (v:Int)=true ↔ Xs v:=by
 unfold qD Xs;simp only[qP];omega
def XY(l t:List UInt8)(n v x:Nat)(d:n<=l.length)(c:l.tail.take (n - 1)=t)(hx:t.all qu=true->jB t v=x) :
  uV l n v=if t.all qu=true/\least n<=(x:Int)/\Xs x then n else 0:=by
 unfold uV;rw[zL J,c];by_cases h1:t.all qu=true
 .have b:¬(t.all qu=false):=by rw[h1];simp
  rw[hx h1,zL b];by_cases h2:least n<=(x:Int)/\Xs x
  .have r1:¬((x:Int)<least n\/qD (x:Int)=false):=by
    rintro(a|a)
    .omega
    .rw[(Oq x).2 h2.2]at a;cases a
   rw[zL r1,zl ⟨h1,h2⟩]
  .have r1:(x:Int)<least n\/qD (x:Int)=false:=by
    by_cases a:least n<=(x:Int)
    .refine .inr ?_;rw[<-ZB,Oq];exactλh=>h2 ⟨a,h⟩
    .exact .inl J
   rw[zl r1,zL (λh=>h2 h.2)]
 .have b:t.all qu=false:=by simpa using h1
  rw[zl b,zL (λh=>h1 h.1)]
def dN1(h:b0<128):kM n b0 b1 b2 b3=(b0,1):=by rw[kM,zl h]
def yc6(h:(128<=b0/\b0<192)\/248<=b0):kM n b0 b1 b2 b3=(65533,1):=by
 rw[kM,zL J,zL J,zL J,zL J]
def dN2(h:192<=b0/\b0<224) :
  kM n b0 b1 b2 b3=if (1<n/\128<=b1/\b1<=191)/\128<=64*(b0 - 192)+(b1 - 128)then (64*(b0 - 192)+(b1 - 128),2)else (65533,1):=by
 rw[kM,zL J];by_cases h1:1<n/\128<=b1/\b1<=191
 .have e:b0 % 32*64+b1 % 64=64*(b0 - 192)+(b1 - 128):=by omega
  rw[zl J,e];by_cases h2:128<=64*(b0 - 192)+(b1 - 128)
  .rw[zl h2,zl ⟨h1,h2⟩]
  .rw[zL h2,zL (λa=>h2 a.2)]
 .by_cases b:b0 / 32=6/\1<n/\b1 / 64=2
  .exfalso;omega
  .rw[zL b,zL J,zL J,zL (λa=>h1 a.1)]
def dN3(h:224<=b0/\b0<240) :
  kM n b0 b1 b2 b3=if (2<n/\(128<=b1/\b1<=191)/\128<=b2/\b2<=191)/\2048<=64*(64*(b0 - 224)+(b1 - 128))+(b2 - 128)/\Xs (64*(64*(b0 - 224)+(b1 - 128))+(b2 - 128))then (64*(64*(b0 - 224)+(b1 - 128))+(b2 - 128),3)else (65533,1):=by
 rw[kM,zL J,zL J];by_cases h1:2<n/\(128<=b1/\b1<=191)/\128<=b2/\b2<=191
 .have e:b0 % 16*4096+b1 % 64*64+b2 % 64=64*(64*(b0 - 224)+(b1 - 128))+(b2 - 128):=by omega
  rw[zl J,e];generalize 64*(64*(b0 - 224)+(b1 - 128))+(b2 - 128)=v;by_cases h2:2048<=v/\Xs v
  .rw[zl IK,zl ⟨h1,h2⟩]
  .rw[zL IK,zL (λa=>h2 a.2)]
 .by_cases b:b0 / 16=14/\(1<n/\b1 / 64=2)/\2<n/\b2 / 64=2
  .exfalso;omega
  .rw[zL b,zL J,zL (λa=>h1 a.1)]
def dN4(h:240<=b0/\b0<248) :
  kM n b0 b1 b2 b3=if (3<n/\(128<=b1/\b1<=191)/\(128<=b2/\b2<=191)/\128<=b3/\b3<=191)/\65536<=64*(64*(64*(b0 - 240)+(b1 - 128))+(b2 - 128))+(b3 - 128)/\Xs (64*(64*(64*(b0 - 240)+(b1 - 128))+(b2 - 128))+(b3 - 128))then (64*(64*(64*(b0 - 240)+(b1 - 128))+(b2 - 128))+(b3 - 128),4)else (65533,1):=by
 rw[kM,zL J,zL J,zL J];by_cases h1:3<n/\(128<=b1/\b1<=191)/\(128<=b2/\b2<=191)/\128<=b3/\b3<=191
 .have e:b0 % 8*262144+b1 % 64*4096+b2 % 64*64+b3 % 64=64*(64*(64*(b0 - 240)+(b1 - 128))+(b2 - 128))+(b3 - 128):=by omega
  rw[zl J,e];generalize 64*(64*(64*(b0 - 240)+(b1 - 128))+(b2 - 128))+(b3 - 128)=v;by_cases h2:65536<=v/\Xs v
  .rw[zl IK,zl ⟨h1,h2⟩]
  .rw[zL IK,zL (λa=>h2 a.2)]
 .by_cases b:b0 / 8=30/\(1<n/\b1 / 64=2)/\(2<n/\b2 / 64=2)/\3<n/\b3 / 64=2
  .exfalso;omega
  .rw[zL b,zL (λa=>h1 a.1)]
def Bu(l:List UInt8):Prop:=(yR l=0/\dV l=(65533,1))\/(yR l=(dV l).2/\0<yR l/\¬((dV l).1=65533/\(dV l).2=1))
def bL{a:UInt8}{r:List UInt8}(hd:dV (a::r)=(65533,1))(hs:yR (a::r)=0)(_h:128<=a.toNat):Bu (a::r) := .inl ⟨hs,hd⟩
def sg{a:UInt8}{r:List UInt8}{v:Nat}(hd:dV (a::r)=(v,k))(hs:yR (a::r)=k)(h:1<k):Bu (a::r) :=
 .inr ⟨by rw[hs,hd],J,by rw[hd];intro q;have:=q.2;simp at this;omega⟩
def KY(a:UInt8)(r:List UInt8):Bu (a::r):=by
 have e:(a::r).headD 0=a:=rfl;have ha:=a.toNat_lt;by_cases c1:a.toNat<128
 .have hd:dV (a::r)=(a.toNat,1):=dN1 (b0:=a.toNat) c1;have hs:yR (a::r)=1:=by
   rw[qB (l:=a::r) (n:=1) (v:=a.toNat) (.inr (.inr (.inr ⟨by rw[e];omega,rfl,by rw[e]⟩))),
    XY (a::r) [] 1 a.toNat a.toNat zY zY (λ_=>rfl),zl ⟨rfl,by simp[least],by unfold Xs;omega⟩]
  exact .inr ⟨by rw[hs,hd],J,by rw[hd];intro q;have:=q.1;simp at this;omega⟩
 by_cases c2:a.toNat<192\/248<=a.toNat
 .refine bL (yc6 (b0:=a.toNat) J) ?_ J;unfold yR;rw[e,zL J,zL J,zL J,zl J]
 by_cases c3:a.toNat<224
 .have hD:dV (a::r)=_:=dN2 (n:=(a::r).length) (b0:=a.toNat) (b1:=((a::r).getD 1 0).toNat) (b2:=((a::r).getD 2 0).toNat) (b3:=((a::r).getD 3 0).toNat) (show 192<=a.toNat/\a.toNat<224 by omega);have hS:yR (a::r)=uV (a::r) 2 (a.toNat - 192):=qB (l:=a::r) (n:=2) (v:=a.toNat - 192) (.inr (.inr (.inl ⟨by rw[e];omega,by rw[e];omega,rfl,by rw[e]⟩)));match r,hD,hS with
  |[],hD,hS=>exact bL JO JI J
  |b::r,hD,hS =>
   have e1:(a::b::r).getD 1 0=b:=rfl;rw[e1]at hD;rw[XY _ [b] 2 _ (64*(a.toNat - 192)+(b.toNat - 128)) zY zY (λ_=>rfl)]at hS;simp only[kP,PS,Mo,zQ,QQ,qP]at hS;have hb:=b.toNat_lt;by_cases h:(128<=b.toNat/\b.toNat<=191)/\128<=(64*(a.toNat - 192)+(b.toNat - 128))
   .exact sg (by rw[hD,zl ⟨⟨zY,h.1⟩,h.2⟩]) (by rw[hS,zl ⟨h.1,by simp[least];omega,by unfold Xs;omega⟩]) zj
   .exact bL (by rw[hD,zL (λq=>h ⟨q.1.2,q.2⟩)]) (by rw[hS,zL (λq=>h ⟨q.1,by have:=q.2.1;simp[least]at this;omega⟩)]) J
 by_cases c4:a.toNat<240
 .have hD:dV (a::r)=_:=dN3 (n:=(a::r).length) (b0:=a.toNat) (b1:=((a::r).getD 1 0).toNat) (b2:=((a::r).getD 2 0).toNat) (b3:=((a::r).getD 3 0).toNat) (show 224<=a.toNat/\a.toNat<240 by omega);have hS:yR (a::r)=uV (a::r) 3 (a.toNat - 224):=qB (l:=a::r) (n:=3) (v:=a.toNat - 224) (.inr (.inl ⟨by rw[e];omega,by rw[e];omega,rfl,by rw[e]⟩));match r,hD,hS with
  |[],hD,hS=>exact bL JO JI J
  |[b],hD,hS=>exact bL JO JI J
  |b::c::r,hD,hS =>
   have e1:(a::b::c::r).getD 1 0=b:=rfl;have e2:(a::b::c::r).getD 2 0=c:=rfl;rw[e1,e2]at hD;rw[XY _ [b,c] 3 _ (64*(64*(a.toNat - 224)+(b.toNat - 128))+(c.toNat - 128)) zY zY (λ_=>rfl)]at hS;simp only[kP,PS,Mo,zQ,QQ,qP]at hS;have hb:=b.toNat_lt;have hc:=c.toNat_lt;generalize 64*(64*(a.toNat - 224)+(b.toNat - 128))+(c.toNat - 128)=v at hD hS;by_cases h:((128<=b.toNat/\b.toNat<=191)/\(128<=c.toNat/\c.toNat<=191))/\2048<=v/\Xs v
   .exact sj
   .exact pw
 .have hD:dV (a::r)=_:=dN4 (n:=(a::r).length) (b0:=a.toNat) (b1:=((a::r).getD 1 0).toNat) (b2:=((a::r).getD 2 0).toNat) (b3:=((a::r).getD 3 0).toNat) (show 240<=a.toNat/\a.toNat<248 by omega);have hS:yR (a::r)=uV (a::r) 4 (a.toNat - 240):=qB (l:=a::r) (n:=4) (v:=a.toNat - 240) (.inl ⟨by rw[e];omega,by rw[e];omega,rfl,by rw[e]⟩);match r,hD,hS with
  |[],hD,hS=>exact bL JO JI J
  |[b],hD,hS=>exact bL JO JI J
  |[b,c],hD,hS=>exact bL JO JI J
  |b::c::d::r,hD,hS =>
   have e1:(a::b::c::d::r).getD 1 0=b:=rfl;have e2:(a::b::c::d::r).getD 2 0=c:=rfl;have e3:(a::b::c::d::r).getD 3 0=d:=rfl;rw[e1,e2,e3]at hD;rw[XY _ [b,c,d] 4 _ (64*(64*(64*(a.toNat - 240)+(b.toNat - 128))+(c.toNat - 128))+(d.toNat - 128)) zY zY (λ_=>rfl)]at hS;simp only[kP,PS,Mo,zQ,QQ,qP]at hS;have hb:=b.toNat_lt;have hc:=c.toNat_lt;have hd:=d.toNat_lt;generalize 64*(64*(64*(a.toNat - 240)+(b.toNat - 128))+(c.toNat - 128))+(d.toNat - 128)=v at hD hS;by_cases h:((128<=b.toNat/\b.toNat<=191)/\(128<=c.toNat/\c.toNat<=191)/\(128<=d.toNat/\d.toNat<=191))/\65536<=v/\Xs v
   .exact sj
   .exact pw
def Bq(l:List UInt8):Lib.decodeL l=dV l:=Lib.decodeL_N l
def Ok:∀(n:Nat) (l:List UInt8),l.length<=n->(FK n l=true ↔ (xn l).2=l.length)
 | 0,l,h=>by
  have:l=[]:=zF J;subst this;simp[FK,qJ]
 |n+1,[],_=>by simp[FK,qJ]
 |n+1,a::r,h=>by
  have b:a::r≠[]:=zY;rw[FK,zL b,Bq];rcases KY a r with⟨h1,h2⟩|⟨h1,h2,c⟩
  .rw[h2,zl ⟨rfl,rfl⟩,fk h1];simp
  .have d:=(dA (a::r)).1;rw[zL c,<-h1,kJ b J,Ok n _ (by simp;simp at h;omega)];simp only[xz];omega
def Jy(l:List UInt8):zuz l=true ↔ (xn l).2=l.length:=Ok l.length l (X _)
def yS(l:List UInt8):List Int :=
 if h:l=[]\/yR l=0 then []else ((dV l).1:Int)::yS (l.drop (yR l))
termination_by l.length
decreasing_by
 have h1:l≠[]:=λe=>h (.inl e)
 have h2:yR l≠0:=λe=>h (.inr e)
 have:=xI.2 h1;simp;omega
def qt:yS []=[]:=by rw[yS];simp
def dc(a:l≠[])(h:yR l≠0):yS l=((dV l).1:Int)::yS (l.drop (yR l)):=by
 rw[yS,dif_neg (by rintro(q|q)<;>contradiction)]
def E9:∀(n:Nat) (l:List UInt8),l.length<=n->(yS l).map Lib.encodeRune=(xn l).1
 | 0,l,h=>by
  have:l=[]:=zF J;subst this;simp[qt,qJ]
 |n+1,[],_=>by simp[qt,qJ]
 |n+1,a::r,h=>by
  have b:a::r≠[]:=zY;rcases KY a r with⟨h1,h2⟩|⟨h1,h2,c⟩
  .rw[fk h1,yS,dif_pos (.inr h1)];rfl
  .rw[dc b J,kJ b J,ve,E9 n _ (by simp;simp at h;omega)];have he:=Lib.encode_decode (a::r) b (by rw[Bq];exact c);rw[Bq]at he;rw[he,h1]
def Se(s:ByteArray)(i:Nat)(hi:i<s.size):Utf8.decode s i=dV (s.data.toList.drop i):=by
 rw[Lib.decode_at];unfold dV;have e:∀k,s.get! (i+k)=(s.data.toList.drop i).getD k 0:=λk=>by
  rw[zM,MM];by_cases a:i+k<s.size
  .rw[zw (by simpa using a)];show s.data[i+k]! = _;rw[getElem!_pos s.data (i+k) (by simpa using a)];simp
  .rw[Xe zV];show s.data[i+k]! = _;rw[getElem!_neg s.data (i+k) (by simpa using a)];rfl
 have b:=e 0;rw[fD]at b;rw[b,e 1,e 2,e 3];simp
def YY(s:ByteArray):∀(fuel pos:Nat),s.size - pos<=fuel->pos<=s.size->(xn (s.data.toList.drop pos)).2=s.size - pos->FJ s fuel pos=(xn (s.data.toList.drop pos)).1.length /\
   ∀acc,C0 s fuel pos acc=acc++((yS (s.data.toList.drop pos)).map (yF .i32)).toArray
 | 0,pos,h,hp,hv=>by
  have f:s.data.toList.drop pos=[]:=yq zV;rw[f,qJ,qt];exact⟨rfl,λacc=>by simp[C0]⟩
 |fuel+1,pos,h,hp,hv=>by
  by_cases b:pos<s.size
  .have c:s.data.toList.drop pos≠[]:=(by simp;omega);have hd:=Se s pos b;have e:Bu (s.data.toList.drop pos):=by
    cases i:s.data.toList.drop pos with
    |nil=>exact absurd i c
    |cons a r=>exact KY a r
   rcases e with⟨h1,h2⟩|⟨h1,h2,j⟩
   .rw[fk h1]at hv;simp at hv;omega
   .have d:=(dA (s.data.toList.drop pos)).1;simp only[xz,yz]at d;rw[kJ c J]at hv;have hdd:(s.data.toList.drop pos).drop (yR (s.data.toList.drop pos))=s.data.toList.drop (pos+yR (s.data.toList.drop pos)):=(by rw[Vt]);rw[hdd]at hv;have g:=YY s fuel (pos+yR (s.data.toList.drop pos)) J J (by simp at hv;omega);rw[kJ c J,dc c J,hdd];constructor
    .rw[FJ,zl b,hd,<-h1,g.1];simp;omega
    .intro acc;rw[C0,zl b,hd];dsimp only;rw[<-h1,g.2];simp
  .have f:s.data.toList.drop pos=[]:=yq zV;rw[f,qJ,qt];exact⟨by rw[FJ,zL b];rfl,λacc=>by rw[C0,zL b];simp⟩
def AY(lo hi:Nat)(A B:z7):Prop:=(A:Nat)<=(B:Nat)/\∀j,j<lo\/(hi<=j/\j<(A:Nat))->B.heap[j]? = A.heap[j]?
def dM(w:z7)(c:zx)(r:Bool)(Q:z7->zx->Prop):Prop :=
 ∀W,zJ w W->zE prog 33 #[c] W λe W'=>(∃a n k,e = .returned (.tuple #[.slice a n k,.bool r])/\∀W2,AY (w:Nat) W.heap.size W' W2->Q W2 (.slice a n k))/\zJ W W'
def fg:List (List UInt8):=[[122,101,114,111],[111,110,101],[116,119,111],[102,101,119],[109,97,110,121],[111,116,104,101,114]]
def wx(w:z7)(e:gG)(w':z7):Prop :=
 ∃v,e = .returned v/\w'.ownsRow (w:Nat) 9 1 v 6 (fg.map zv)/\zJ w w'
def VI(w:z7):zE prog 24 #[] w (wx w):=by
 go_enter func24,ntmps24;go_wp2;go_ret;exact⟨_,rfl,znu w _ 6 (X _) zj rfl,(z8 _ _).alloc (X _) _⟩
def Ug(w:z7)(c:zx)(r:Bool):Prop :=
 ∀w',zJ w w'->zE prog 15 #[c] w' λe Fz=>e = .returned (.bool r)/\zJ w' Fz
def Ug.later{r:Bool}(h:Ug w c r)(hb:zJ w w'):Ug w' c r :=
 λFz a=>h Fz (hb.trans (a.mono hb.size))
def uH(ra rb:Bool)(mi po gr fi ne:Int)(dg:List UInt8):Bool :=
 ra && (rb && (qD mi && (qD po && (qD gr && (!(mi==0) && (!(po==0) && (decide (((xn dg).2:Int)=(dg.length:Int)) && ((decide (¬0<dg.length) || !(((xn dg).1.length:Int) !=10)) && (decide (fi<=9) && decide (ne<=9))))))))))
def ed(c o:zx)(ra rb:Bool)(mi po gr fi ne:Int)(dg:ByteArray)(w:z7)(hd:dg.size<=1000000)
  (hc:Ug w c ra) (q:Ug w o rb) :
  zE prog 11 #[CN c o mi po gr fi ne dg] w λe w'=>e = .returned (.bool (uH ra rb mi po gr fi ne dg.data.toList))/\zJ w w':=by
 have hA:=λW' (h:zJ w W')=>hc W' h
 have r:=Z hA;have s:=Z q;clear hA hc q;go_enter func11,ntmps11;go_wp2_with fail;have F:∃W,W=w.alloc (.cells #[c,o,.int .i32 mi,.int .i32 po,.int .i32 gr,.int .u8 fi,.int .u8 ne,.string dg] 27) /\
   zJ w W/\(W:Nat)=(w:Nat)+1/\GL W (w:Nat) c o mi po gr fi ne dg :=
  ⟨_,rfl,(z8 _ _).alloc (X _) _,zY,⟨qk,qk,qk,by go_simp,by go_simp,by go_simp,by go_simp,by go_simp⟩⟩
 obtain⟨W,p,hb,A,n⟩:=F;rw[<-p];clear p;refine(r.o _ hb).mono ?_;rintro e w1 ⟨rfl,qV⟩;have d:=n.below qV J;have t:=d.c0;have a1:=d.c1;go_wp2_with fail;refine(s.o _ (hb.trans (qV.mono hb.size))).mono ?_;rintro e w2 ⟨rfl,g⟩;have b:=d.below g S6;have b2:=b.c2;have b3:=b.c3;have u:=b.c4;have x:=b.c5;have y:=b.c6;have z:=b.c7;have i:zJ w w2:=hb.trans ((qV.mono hb.size).trans (g.mono (by have:=hb.size;have:=qV.size;omega)));have m:(w:Nat)<(w2:Nat):=by have:=g.size;have:=qV.size;omega
 clear d t a1 g qV hb;go_wp2_with fail;refine(dX _ _).mono ?_;rintro e w' ⟨rfl,rfl⟩;go_wp2_with fail;refine(dX _ _).mono ?_;rintro e w' ⟨rfl,rfl⟩;go_wp2_with fail;refine(dX _ _).mono ?_;rintro e w' ⟨rfl,rfl⟩;go_wp2_with fail;all_goals first|(go_ret;refine⟨dE ?_,i⟩;simp[uH, *];done)|(go_ret;refine⟨dE ?_,i⟩;have h2:(mi==0)=true\/(po==0)=true:=(by assumption);rcases h2 with h2|h2<;>simp[uH,h2];done)|skip
 refine(QU _ _ J).mono ?_;rintro e w3 ⟨v,rfl,j,k⟩;have f:=b.below k m;have d5:=f.c5;have d6:=f.c6;have d7:=f.c7;obtain⟨a,cap,rfl⟩:=zD j;have l:=i.trans (k.mono i.size);have e1:dg.size=dg.data.toList.length:=zY;have B:=Z e1;clear f b n j k e1 b2 b3 u x y z;go_wp2_with fail;all_goals
  go_ret;refine⟨dE ?_,l⟩;first|(simp[uH, *];done)|(simp[uH, *];intros;omega)|(simp[uH];intros;omega)
variable{nx:Int}{rs:List Int}{hi j:Nat}{cv ov:zx}{W W':z7}
def xkq:List UInt8:=[48,49,50,51,52,53,54,55,56,57]
def NQ(dg:List UInt8):List UInt8:=if dg=[]then xkq else dg
def Oj(ra rb:Bool)(mi po gr:Int)(fi ne:Nat)(dg:List UInt8)(Qc Qo:z7->zx->Prop)(w:z7)(e:gG)(w':z7):Prop :=
 zJ w w' /\
 if uH ra rb mi po gr fi ne dg then ∃(g:Nat) (cv ov:zx),e = .returned (g,0)/\(w:Nat)<=g/\g<(w':Nat) /\
   wy w' g mi po gr fi ((if ne=0 then fi else ne:Nat):Int) (yS (NQ dg))/\zy w' g 0 cv/\w'.cell? (g,1)=some ov /\
   (∀W,zJ w' W->Qc W cv)/\(∀W,zJ w' W->Qo W ov)
 else e = .returned (.pointer none)
def XP(b:Nat)(A B:z7):Prop:=(A:Nat)<=(B:Nat)/\∀j,j≠b->j≠b+1->j<(A:Nat)->B.heap[j]? = A.heap[j]?
def XP.refl(b:Nat)(A:z7):XP b A A:=⟨X _,λ_ _ _ _=>rfl⟩
def XP.trans{b:Nat}{A B C:z7}(h:XP b A B)(k:XP b B C):XP b A C :=
 ⟨zZ h.1 k.1,λj h1 h2 a=>(k.2 j h1 h2 (ze a h.1)).trans (h.2 j h1 h2 a)⟩
def XP.below{b:Nat}{A B:z7}(h:zJ A B):XP b A B:=⟨h.size,λj _ _ a=>h.block j a⟩
def XP.set{b:Nat}{A B:z7}(h:XP b A B)(p:yi)(v:zx)(hp:p.block=b\/p.block=b+1):XP b A (B.setCell p v) :=
 h.trans ⟨zY,λj h1 h2 _=>zh _ _ _ _ J⟩
def XP.agree{b:Nat}{A B C:z7}(h:XP b A B)(c:b+2<=hi)(hb:b+2<=(A:Nat))(k:zJ B C):AY b hi A C :=
 ⟨zZ h.1 k.size,λj d=>by
  have a:j<(A:Nat):=J;rw[k.block j (ze a h.1)];exact h.2 j J J a⟩
def eZ(h:Array Obj)(a b:Obj):((h.push a).push b)[h.size+1]? = some b:=by
 have e:h.size+1=(h.push a).size:=zY;rw[e];exact Array.getElem?_push_size
def QK(r:Int):Lib.validRune r=qD r:=by
 unfold Lib.validRune qD;rw[decide_eq_decide];omega
def wu{ra rb:Bool}{fi ne:Nat}{dg:List UInt8}(h:¬(ra=true/\rb=true/\max (fi:Int) (ne:Int)<=9/\¬mi=0/\¬po=0)):uH ra rb mi po gr fi ne dg=false:=by
 rw[<-ZB];intro a;simp only[uH,zQ,ypz,beq_eq_false_iff_ne,qP]at a;exact h ⟨a.1,a.2.1,J,a.2.2.2.2.2.1,a.2.2.2.2.2.2.1⟩
def Jm{ra rb:Bool}{fi ne:Nat}{dg:List UInt8}(h:qD mi=false\/qD po=false\/qD gr=false):uH ra rb mi po gr fi ne dg=false:=by
 rw[<-ZB];intro a;simp only[uH,zQ]at a;rcases h with h|h|h
 .rw[a.2.2.1]at h;cases h
 .rw[a.2.2.2.1]at h;cases h
 .rw[a.2.2.2.2.1]at h;cases h
def Fp(h:XL 2 3 w)(hb:zJ w W):XL 2 3 W:=zl0
def aR{ra rb:Bool}{fi ne:Nat}{dg:List UInt8}(h:zuz dg=false):uH ra rb mi po gr fi ne dg=false:=by
 rw[<-ZB];intro a;simp only[uH,zQ,qP]at a;have h1:(xn dg).2=dg.length:=by have:=a.2.2.2.2.2.2.2.1;omega
 rw[(Jy dg).2 h1]at h;cases h
def N6{o:Obj}{a:yi}(h:a.block<(w:Nat)):(w.alloc o).cell? a=w.cell? a:=za w o a h
def aP:(xn (⟨#[48,49,50,51,52,53,54,55,56,57]⟩:ByteArray).data.toList).1.length=10:=by
 have h:=(YY ⟨#[48,49,50,51,52,53,54,55,56,57]⟩ 10 0 zj zj (by rw[qH,(Jy _).1 zj];decide)).1;rw[qH]at h;rw[<-h];decide
def aS{ra rb:Bool}{fi ne:Nat}{dg:List UInt8}(hd:¬dg=[])(h:¬(xn dg).1.length=10):uH ra rb mi po gr fi ne dg=false:=by
 rw[<-ZB];intro a;simp only[uH,zQ,gj,qP]at a;rcases a.2.2.2.2.2.2.2.2.1 with h1|h1
 .exact h1 (xI.2 hd)
 .refine h ?_;simp at h1;omega
def Ft(B:Nat)(w:z7)(s:ByteArray)(pos:Nat):B<=(w:Nat)->yX B w (w.iter s pos):=λhB=>(z8 _ _).alloc hB _
def heap_set{b:Nat}{cs:Array zx}{T:uP}{fr:Nat×Nat}(h:w.heap[b]? = some (.cells cs T fr))(v:zx):(w.setCell (b,j) v).heap[b]? = some (.cells (cs.setIfInBounds j v) T fr):=by
 simp[xW,Zt,h]
structure RW(b:Nat)(c o cv ov:zx)(mi po gr fi ne nx:Int)(dg:ByteArray)(W:z7):Prop where
 hA:W.heap[b]? = some (.cells #[c,o,.int .i32 mi,.int .i32 po,.int .i32 gr,.int .u8 fi,.int .u8 ne,.string dg] 27 (0,0))
 hB:W.heap[b+1]? = some (.cells #[cv,ov,.int .i32 mi,.int .i32 po,.int .i32 gr,fi,nx,.int .i32 0,.int .i32 0,.int .i32 0,.int .i32 0,.int .i32 0,.int .i32 0,.int .i32 0,.int .i32 0,.int .i32 0,.int .i32 0] 92 (0,0))
def RW.below{b:Nat}{ne:Int}(h:RW b c o cv ov mi po gr fi ne nx dg W)(hb:yX B W W')(a:b+1<B):RW b c o cv ov mi po gr fi ne nx dg W' :=
 ⟨by rw[hb.block b J];exact h.hA,by rw[hb.block (b+1) a];exact h.hB⟩
def RW.a{b:Nat}{ne:Int}(h:RW b c o cv ov mi po gr fi ne nx dg W) :
  W.cell? (b,0)=some c/\zy W b 1 o/\zy W b 2 (.int .i32 mi)/\zy W b 3 (.int .i32 po)/\W.cell? (b,4)=some (.int .i32 gr) /\
  W.cell? (b,5)=some (.int .u8 fi)/\zy W b 6 (.int .u8 ne)/\zy W b 7 (.string dg)/\W.frozen? (b,7)=false :=
 ⟨zP h.hA 0,zP h.hA 1,zP h.hA 2,zP h.hA 3,zP h.hA 4,zP h.hA 5,zP h.hA 6,zP h.hA 7,yj h.hA 7⟩
def RW.b{b:Nat}{ne:Int}(h:RW b c o cv ov mi po gr fi ne nx dg W) :
  W.cell? (b+1,0)=some cv/\zy W (b+1) 1 ov/\zy W (b+1) 5 fi/\W.cell? (b+1,6)=some (.int .i64 nx) /\
  W.frozen? (b+1,0)=false/\W.frozen? (b+1,1)=false/\W.frozen? (b+1,6)=false :=
 ⟨zP h.hB 0,zP h.hB 1,zP h.hB 5,zP h.hB 6,yj h.hB 0,yj h.hB 1,yj h.hB 6⟩
def RW.V4{b:Nat}{ne:Int}(h:RW b c o cv ov mi po gr fi ne nx dg W)(v:zx):RW b c o v ov mi po gr fi ne nx dg (W.setCell (b+1,0) v) :=
 ⟨Re,S5⟩
def RW.Bk{b:Nat}{ne:Int}(h:RW b c o cv ov mi po gr fi ne nx dg W)(v:zx):RW b c o cv v mi po gr fi ne nx dg (W.setCell (b+1,1) v) :=
 ⟨Re,S5⟩
def RW.wk{b:Nat}{ne:Int}(h:RW b c o cv ov mi po gr fi ne nx dg W)(v:Int):RW b c o cv ov mi po gr fi ne v dg (W.setCell (b+1,6) v) :=
 ⟨Re,S5⟩
def RW.yc7{b:Nat}{ne:Int}(h:RW b c o cv ov mi po gr fi ne nx dg W)(d:ByteArray):RW b c o cv ov mi po gr fi ne nx d (W.setCell (b,7) (.string d)) :=
 ⟨by rw[heap_set h.hA];rfl,by rw[zh _ _ _ _ zY];exact h.hB⟩
def eY(V:z7)(cs:List zx)(r:Array zx)(T:uP)(j:Nat)(v:zx)(h:cs[j]? = some v) :
  (V.alloc (.cells (cs.toArray++r) T)).drew.drew.cell? ((⟨(V:Nat),0,none⟩:yi).add j)=some v:=by
 have h1:(V.alloc (.cells (cs.toArray++r) T)).drew.drew.heap[(V:Nat)]? = some (.cells (cs.toArray++r) T):=by
  show(V.heap.push _)[(V:Nat)]? = _;simp
 have ud:j<cs.length:=by
  rcases Nat.lt_or_ge j cs.length with a|a
  .exact a
  .rw[Xe a]at h;cases h
 rw[vA,zP h1 j,Array.getElem?_append_left IU];simpa using h
def Ea{V:z7}{g:Nat}{cs:Array zx}{T:uP}(h:V.heap[g]? = some (.cells cs T (0,0)))(hs:cs.size=17)(n:Nat)(hn:n=10) :
  (∀j,j<n->(V.cell? ⟨g,7+j,none⟩).isSome=true)/\∀j,j<n->V.frozen? ⟨g,7+j,none⟩=false:=by
 subst hn;refine⟨λj a=>?_,λj a=>yj h _⟩;rw[zP h (7+j)];have:7+j<cs.size:=J;simp[this]
def XP.setCells{b:Nat}{A:z7}:∀(vs:List zx) (B:z7) (o:Nat),XP b A B->XP b A (B.setCells (b+1) o vs)
 |[],_,_,h=>h
 |v::vs,B,o,h=>by
  unfold zeq;exact XP.setCells vs _ _ (h.set _ _ (.inr rfl))
def VL{b:Nat}{A:z7}:∀(vs:List zx) (B:z7) (o:Nat),yX b A B->yX b A (B.setCells (b+1) o vs)
 |[],_,_,h=>h
 |v::vs,B,o,h=>by
  unfold zeq;exact VL vs _ _ (h.setCell (bG b) _)
def zkv{fi ne:Nat}{dg D:List UInt8}(a:D=NQ dg)(f:max (fi:Int) (ne:Int)<=9)(b:¬mi=0)(c:¬po=0)(p1:qD mi=true)(p2:qD po=true)(d:qD gr=true)
  (hp:(xn D).2=D.length) (hc:(xn D).1.length=10):uH true true mi po gr fi ne dg=true:=by
 unfold NQ at a;by_cases h:dg=[]
 .subst h;have e:(xn []).2=0:=by rw[qJ]
  simp[uH,p1,p2,d,b,c,e];omega
 .rw[zL h]at a;subst a;simp[uH,p1,p2,d,b,c,hp,hc];omega
def lh{g i a:z7}{D:ByteArray}{pos:Nat}{d:Obj}{z:zx}{fi ne nx e f:Nat}{dg:List UInt8}{p q:z7->zx->Prop}
  (h:RW (w:Nat) c z cv ov mi po gr fi ne (nx:Int) D a) (hb:zJ w a) (G:(w:Nat)+2<=(a:Nat)) (s:rs.length=10) (n:nx=if ne=0 then fi else ne)
  (FB:rs=yS D.data.toList) (r:D.data.toList=NQ dg) (x:uH true true mi po gr fi ne dg=true)
  (C:XP (w:Nat) g a) (E:XP (w:Nat) i a) (h1:(w:Nat)+2<=e) (t:(w:Nat)+2<=f) (z1:(w:Nat)+2<=(g:Nat)) (F:(w:Nat)+2<=(i:Nat))
  (q1:∀W,AY (w:Nat) e g W->p W cv) (B:∀W,AY (w:Nat) f i W->q W ov) :
  Oj true true mi po gr fi ne dg p q w (.returned ((w:Nat)+1,0)) (((a.iter D pos).alloc d).drew.drew.setCells ((w:Nat)+1) 7 (rs.map (yF .i32))):=by
 have u:((a.iter D pos).alloc d).drew.drew.heap[(w:Nat)+1]? = a.heap[(w:Nat)+1]? := by
  show((a.alloc _).alloc _).heap[(w:Nat)+1]? = _;rw[xA _ _ _ zV,xA _ _ _ J]
 have b:=u.trans h.hB;have o:∀{A:z7},XP (w:Nat) A a->XP (w:Nat) A (((a.iter D pos).alloc d).drew.drew.setCells ((w:Nat)+1) 7 (rs.map (yF .i32))):=by
  intro A hA;refine XP.setCells _ _ _ (hA.trans ⟨?_,λj _ _ hj=>?_⟩)
  .show (a:Nat)<=((a.alloc _).alloc _).heap.size;simp;omega
  .show((a.alloc _).alloc _).heap[j]? = _;rw[xA _ _ _ zV,xA _ _ _ hj]
 have l:yX w w (((a.iter D pos).alloc d).drew.drew.setCells ((w:Nat)+1) 7 (rs.map (yF .i32))):=by
  refine VL _ _ _ ?_;have h1:yX w w ((a.iter D pos).alloc d):=(hb.trans (Ft _ _ _ _ J)).alloc (by show _<=(a.alloc _).heap.size;simp;omega) _;exact⟨h1.os,h1.tape,h1.output,h1.size,h1.block⟩
 have y:=(o (XP.refl _ a)).1;generalize v:((a.iter D pos).alloc d).drew.drew=V at *;have out:∀j,j<7->(V.setCells ((w:Nat)+1) 7 (rs.map (yF .i32))).cell? ⟨(w:Nat)+1,j,none⟩=V.cell? ⟨(w:Nat)+1,j,none⟩:=λj hj=>World.cell?_setCells_out _ _ _ _ _ (λ_ _ => .inl hj)
 refine⟨l,?_⟩;rw[zl x];refine⟨(w:Nat)+1,cv,ov,rfl,bG _,J,⟨?_,?_,?_,?_,?_,?_,?_⟩,?_,?_,λW k=>q1 W ((o C).agree h1 z1 k),λW k=>B W ((o E).agree t F k)⟩
 .rw[out 2 zj];exact zP b 2
 .rw[out 3 zj];exact zP b 3
 .rw[out 4 zj];exact zP b 4
 .rw[out 5 zj];exact zP b 5
 .rw[out 6 zj,<-n];exact zP b 6
 .rw[<-r,<-FB];exact s
 .rw[<-r,<-FB];intro j hj;have m:=World.cell?_setCells_in ((w:Nat)+1) (rs.map (yF .i32)) 7 V (by rw[List.length_map];exact(Ea b rfl _ s).1) j D9;rw[m,List.getElem_map]
 .rw[out 0 zj];exact zP b 0
 .rw[out 1 zj];exact zP b 1
def lr(V:z7)(rs:List Int)(r:Array zx)(cap b:Nat){cs:Array zx}{T:uP}(d:rs.length=10)
  (c:(V.alloc (.cells ((rs.map (yF .i32)).toArray++r) 21)).drew.drew.heap[b]? = some (.cells cs T (0,0))) (hs:cs.size=17) :
  (Builtin.copy_ #[96,96] 3 #[.slice (b,7) 10 10,.slice (V,0) 10 cap]).run prog (V.alloc (.cells ((rs.map (yF .i32)).toArray++r) 21)).drew.drew =
   .ok (goInt (rs.map (yF .i32)).length) ((V.alloc (.cells ((rs.map (yF .i32)).toArray++r) 21)).drew.drew.setCells b 7 (rs.map (yF .i32))):=by
 have hd:=Ea c hs (rs.map (yF .i32)).length (by simp[d]);have a:=eY V (rs.map (yF .i32)) r 21;generalize (V.alloc (.cells ((rs.map (yF .i32)).toArray++r) 21)).drew.drew=W at *;exact run_copy_cells W 96 96 3 21 b 7 10 10 ⟨(V:Nat),0,none⟩ 10 cap (rs.map (yF .i32)) underlying96 yy (by simp[d]) a hd.1 hd.2 (by intro v hv;simp at hv;obtain⟨x,_,rfl⟩:=hv;rfl)
end Go.Proofs.YtfcemhlpdcnckaaGreatDoor
