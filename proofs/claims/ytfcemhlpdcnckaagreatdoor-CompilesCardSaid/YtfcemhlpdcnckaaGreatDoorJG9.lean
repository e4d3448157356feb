import Derived.Test.YtfcemhlpdcnckaaGreatDoorJG8
import Derived.OneCell
import Derived.Deep.DeepCutAuto
set_option linter.defProp false
set_option maxHeartbeats 64000000
open Go renaming Addr->yi,Calls->zE,Ending->gG,TypeId->uP,Value->zx,World->z7,bodyPost_ret->zU,ownsRow_setCell_other->yC,results->yk
open Array renaming getElem?_eq_getElem->XN
open Go.RowKit renaming Below->yX,ownsRow_setCell_below->zk
open Go.RowKit.Below renaming refl->z8
open Bool renaming and_eq_true->zQ,eq_iff_iff->vF,not_eq_true->ZB,true_and->ze8
open ByteArray renaming ext->Gg
open Classical renaming byContradiction->zi,not_not->Mp
open Go.Ending renaming returned->UK
open Go.ByteArray renaming toList_eq->dP
open Go.IntKind renaming i64->yU
open Go.Lib renaming hid->Z
open List renaming drop_drop->Vt,drop_eq_getElem_cons->yH,drop_of_length_le->yq,eq_nil_of_length_eq_zero->zF,flatMap_cons->zn,getElem?_append_left->qM,getElem?_append_right->zc,getElem?_cons_succ->yL,getElem?_cons_zero->yD,getElem_mem->xd,idxOf_le_length->ypy,idxOf_lt_length_iff->UJ,isEmpty->Vv,length->qj,length_append->zI,length_cons->zm,length_drop->xz,length_nil->ur,length_pos_iff->xI,length_take->xr,mem_append->xY,mem_singleton->uG,take_of_length_le->xJ,take_succ_eq_append_getElem->zr,take_take->ypq
open Nat renaming add_sub_cancel_left->dD,add_zero->fD,le_add_right->WD,le_of_lt->xx,le_refl->X,le_succ->bG,le_trans->zZ,lt_irrefl->yO,lt_succ_self->xf,min_eq_left->zeu,zero_le->zG
open Option.some renaming inj->zR
open Go.Value renaming bool->UH,int->yF,ownBlock->qb,slice->yI,string->bJ
open Go.World renaming block_lt_of_cell?->Y,cell?->ze7,frozen?->PJ,frozen?_of_block->zb,frozen?_setCell->zO,ownsRow_nil->yr
open Go.World.ownsRow renaming drew->bS
open Go.Proofs.Tryz
namespace Go.Proofs.YtfcemhlpdcnckaaGreatDoor
open Go Go.RowKit
set_option maxRecDepth 10000
variable{s:ByteArray}{xs:List zx}{m:Mk}{cap n p:Nat}{x:Sc}{e:uP}{v v' v2 v3:zx}{W W' w w' w1:z7}
def km:bH prog 43 85 (.agg #[.int .u8 0,.string ⟨#[]⟩,.string ⟨#[]⟩,.string ⟨#[]⟩,.string ⟨#[]⟩,.int .i64 0]) 6 80 :=
 ⟨underlying43,info_parts yy,rfl,zj,zj⟩
def TN:bH prog 79 4 (.bool false) 1 1 :=
 ⟨underlying79,info_parts yy,rfl,zj,zj⟩
def H8{base:Nat}{row:Option Nat}{size:Nat}(h:W.ownsRow base e size v n xs)(b:W.grownBy W' row)(a:∀g,v.ownBlock=some g->row≠some g):W'.ownsRow base e size v n xs :=
 h.kept b (by
  cases hv:v.ownBlock with
  |none=>exact .inl rfl
  |some g=>exact .inr (λe=>a g hv e.symm))
structure yv1(p:Nat)(s:ByteArray)(x:Sc)(w:z7):Prop where
 c0:zy w p 0 (.string s)
 c1:zy w p 1 x.i
 c4:zy w p 4 x.err
 c5:zy w p 5 x.place
 z:∀j,w.frozen? ⟨p,j,none⟩=false
def yT.Z6(h:yT p s x w)(hb:zJ w w1)(c:w1.grownBy w' v.ownBlock)(hv:∀g,v.ownBlock=some g->p<g):yv1 p s x w':=by
 have h1:=h.below hb;have d:=h1.lt;have b:(some p:Option Nat)≠v.ownBlock:=λe=>yO _ (hv p e.symm)
 exact⟨c.cell h1.c0 b,c.cell h1.c1 b,c.cell h1.c4 b,c.cell h1.c5 b,λj=>(zb (a:=⟨p,j,none⟩) (c.block p d b)).trans (h1.z j)⟩
def yT.GX(h:yT p s x w)
  (d:w.ownsRow (p+1) 85 6 v2 x.out.length (vU x.out)) (h2:zy w p 2 v2) (f:zy w p 3 v3) (b:w.ownsRow (p+1) 4 1 v3 x.uo.length (fU x.uo)) (hd:∀g,v2.ownBlock=some g->v3.ownBlock≠some g)
  (hb:zJ w w1) (i:w'.ownsRow (p+1) 85 6 v' (x.out.length+1) (vU x.out++xl m)) (hg:w1.grownBy w' v2.ownBlock)
  (hw:v'.ownBlock=v2.ownBlock\/v'.ownBlock=some (w1:Nat)) (n:x.out.length+1<=1000000) :
  yT p s { x with out:=x.out++[m] } (w'.setCell (p,2) v')/\yX p w (w'.setCell (p,2) v'):=by
 have hr:∀g,v2.ownBlock=some g->p<g:=λg e=>(d.lt g e).1
 have C:=h.Z6 hb hg hr;have c:(some p:Option Nat)≠v2.ownBlock:=λe=>yO _ (hr p e.symm)
 have ud:=h.lt;have l:=H8 (vx b hb) hg (λg e q=>hd g q e);have e3:=hg.cell ((hb.cell (p:=(zX p 3)) ud).trans f) c;have e2:=hg.cell ((hb.cell (p:=(zX p 2)) ud).trans h2) c;refine⟨⟨by rw[zN,zL zY];exact C.c0,by rw[zN,zL zY];exact C.c1,⟨v',v3,by rw[zN,zl rfl,e2];rfl,?_,by rw[zN,zL zY];exact e3,zk l Qy _,?_⟩,
  by rw[zN,zL zY];exact C.c4,by rw[zN,zL zY];exact C.c5,λj=>by rw[zO];exact C.z j,h.size,h.here,zV,h.zxx⟩,?_⟩
 .have:=ownsRow_setCell_below i (a:=(p,2)) Qy v';have e1:vU x.out++xl m=vU (x.out++[m]):=by simp[vU]
  rw[e1]at this;simpa using this
 .intro g e q;rcases hw with k|k
  .rw[k]at e;exact hd g e q
  .rw[k]at e;cases e;have:=(b.lt _ q).2;have:=hb.size;omega
 .exact nz
def yT.yn9{m:Bool}(h:yT p s x w)
  (b:w.ownsRow (p+1) 85 6 v2 x.out.length (vU x.out)) (h2:zy w p 2 v2) (f:zy w p 3 v3) (d:w.ownsRow (p+1) 4 1 v3 x.uo.length (fU x.uo)) (hd:∀g,v2.ownBlock=some g->v3.ownBlock≠some g)
  (hb:zJ w w1) (i:w'.ownsRow (p+1) 4 1 v' (x.uo.length+1) (fU x.uo++[.bool m])) (hg:w1.grownBy w' v3.ownBlock)
  (hw:v'.ownBlock=v3.ownBlock\/v'.ownBlock=some (w1:Nat)) (n:x.uo.length+1<=1000000) :
  yT p s { x with uo:=x.uo++[m] } (w'.setCell (p,3) v')/\yX p w (w'.setCell (p,3) v'):=by
 have hr:∀g,v3.ownBlock=some g->p<g:=λg e=>(d.lt g e).1
 have C:=h.Z6 hb hg hr;have c:(some p:Option Nat)≠v3.ownBlock:=λe=>yO _ (hr p e.symm)
 have ud:=h.lt;have l:=H8 (vx b hb) hg (λg e q=>hd g e q);have e3:=hg.cell ((hb.cell (p:=(zX p 3)) ud).trans f) c;have e2:=hg.cell ((hb.cell (p:=(zX p 2)) ud).trans h2) c;refine⟨⟨by rw[zN,zL zY];exact C.c0,by rw[zN,zL zY];exact C.c1,⟨v2,v',by rw[zN,zL zY];exact e2,zk l Qy _,by rw[zN,zl rfl,e3];rfl,?_,?_⟩,
  by rw[zN,zL zY];exact C.c4,by rw[zN,zL zY];exact C.c5,λj=>by rw[zO];exact C.z j,h.size,h.here,h.yn8,zV⟩,?_⟩
 .have:=ownsRow_setCell_below i (a:=(p,3)) Qy v';have e1:fU x.uo++[.bool m]=fU (x.uo++[m]):=by simp[fU]
  rw[e1]at this;simpa using this
 .intro g e q;rcases hw with k|k
  .rw[k]at q;exact hd g e q
  .rw[k]at q;cases q;have:=(b.lt _ e).2;have:=hb.size;omega
 .exact nz
def zxu{base:Nat}{size g:Nat}(h:w.ownsRow base e size (.slice (g,0) n cap) n xs)(j:Nat)(b:j<n*size)(u:zx) :
  (w.setCell (g,j) u).ownsRow base e size (.slice (g,0) n cap) n (xs.set j u):=by
 obtain⟨h1,h2⟩:=h;refine⟨by simp[h1],?_⟩;rcases h2 with⟨h2,_⟩|⟨g',a,cur,hv,hg,hh,k1,k2,k3,k4⟩
 .cases h2
 .exact ziq
def iX(l:List Mk)(m:Mk)(t:Wd):(vU (l++[m])).set (l.length*6+1) (zv t)=vU (l++[{ m with text:=t }]):=by
 have b:(vU l).length=l.length*6:=ny;have e:∀k:Mk,vU (l++[k])=vU l++xl k:=λk=>by simp[vU]
 rw[e,e,List.set_append_right _ _ J,b,dD];rfl
def H9(l:List Mk):(vU l).length=l.length*6:=ny
def zxq(l:List Mk)(m:Mk)(j:Nat)(a:j<6):(vU (l++[m]))[l.length*6+j]? = (xl m)[j]? := by
 rw[show vU (l++[m])=vU l++xl m by simp[vU],zc (by rw[H9];omega),H9,dD]
def yT.text{l:List Mk}{g:Nat}(h:yT p s x w)(hx:x.out=l++[m])(hn:n=l.length+1)
  (b:w.ownsRow (p+1) 85 6 (.slice (g,0) n cap) x.out.length (vU x.out)) (h2:zy w p 2 (.slice (g,0) n cap)) (k:zy w p 3 v3) (f:w.ownsRow (p+1) 4 1 v3 x.uo.length (fU x.uo)) (hd:∀q,qb (.slice (g,0) n cap)=some q->v3.ownBlock≠some q) (t:Wd) :
  yT p s { x with out:=l++[{ m with text:=t }] } (w.setCell (g,l.length*6+1) (zv t))/\yX p w (w.setCell (g,l.length*6+1) (zv t)):=by
 have o:=(b.lt g rfl).1;have c:x.out.length=l.length+1:=by rw[hx];simp
 have a:∀j:Nat,(⟨g,l.length*6+1,none⟩:yi)≠⟨p,j,none⟩:=λj e=>by cases e;omega
 have i:=b;rw[c,<-hn]at i;have d:=zxu i (l.length*6+1) J (zv t);rw[hx,iX]at d;refine⟨⟨by rw[zN,zL (a _)];exact h.c0,by rw[zN,zL (a _)];exact h.c1,⟨_,v3,by rw[zN,zL (a _)];exact h2,?_,by rw[zN,zL (a _)];exact k,yC f (hd g rfl) _,hd⟩,
  by rw[zN,zL (a _)];exact h.c4,by rw[zN,zL (a _)];exact h.c5,λj=>DX,h.size,h.here,by have:=h.yn8;simp;omega,h.zxx⟩,xZ (z8 _ _) J⟩
 have e1:(l++[{ m with text:=t }]).length=n:=zV;show World.ownsRow _ _ _ _ _ (l++[{ m with text:=t }]).length _;rw[e1];exact d
def kx(x:Sc)(t:Wd):Sc :=
 if t=[]then x else
 match x.out.getLast? with
 |none=>{ x with out:=x.out++[⟨116,t,[],[],[],0⟩] }
 |some m=>if m.kind=116 then { x with out:=x.out.dropLast++[{ m with text:=m.text++t }] }else { x with out:=x.out++[⟨116,t,[],[],[],0⟩] }
def zxk{base:Nat}{size g:Nat}(h:w.ownsRow base e size (.slice (g,0) n cap) n xs)(j:Nat):w.frozen? (g,j)=false:=by
 rcases h.2 with⟨h2,_⟩|⟨g',a,cur,hv,c,b,k1,k2,k3,k4⟩
 .cases h2
 .cases hv;simp[PJ,b]
def Vj(p:Nat)(s:ByteArray)(x:Sc)(t:Wd)(w:z7)(h:yT p s x w)(V:x.out.length+1<=1000000)(D:∀m∈x.out,m.kind<256)(G:∀m∈x.out,m.text.length+t.length<=1000000000) :
  zE prog 51 #[(p,0),zv t] w (BN p s (.tuple #[]) (kx x t) w):=by
 have HH:=Z h;obtain⟨v2,v3,h2,a,h3,A,hd⟩:=h.rows;have z2:=h.z 2;obtain⟨n,hn⟩:=zo x.out.length;have H3:=Z A;have HD:=Z hd;rw[hn]at a V;have H2:=Z a;clear h A hd;by_cases b:t=[]
 .have HY:=Z (show kx x t=x from zl b);subst b;obtain⟨oa,H,rfl⟩:=zD a;clear a hn G D;go_enter func51,ntmps51;go_wp2;refine zU (v := .tuple #[]) ?_ rfl ?_
  .simp[yk,results51,go_sem]
  rw[HY.o];exact⟨rfl,HH.o,z8 _ _⟩
 have g0:Vv t=false:=by cases t with|nil=>exact absurd rfl b|cons _ _=>rfl
 rcases List.eq_nil_or_concat x.out with r|⟨l,m,hx⟩
 .have HY:=Z (show kx x t={ x with out:=x.out++[⟨116,t,[],[],[],0⟩] }by unfold kx;rw[zL b,r];rfl);have O:n=0:=by rw[<-hn,r];rfl
  obtain⟨oa,H,rfl⟩:=zD a;have k0:decide (0<n)=false:=zV;have k1:decide ((0:Int)<(n:Int))=false:=zV;clear a r O G D b;go_enter func51,ntmps51;go_wp2_with (at_builtin;refine uI ?_);intro y fe;have c:=(show yX w w y by rw[fe];exact(z8 _ _).alloc (X _) _);have hC:=λi=>zg w #[.int .u8 116,zv t,.string ⟨#[]⟩,.string ⟨#[]⟩,.string ⟨#[]⟩,.int .i64 0] 85 (0,0) i
  rw[<-fe]at hC;have P:=c.size;have N:=HH.o.lt;have s1:(y:Nat)=(w:Nat)+1:=JY;have I:=Z (vx H2.o c);have ly:=Z c;clear fe;refine Up km rfl _ _ rfl (p+1) _ n (vU x.out) rfl I.o ⟨(w:Nat),0,none⟩ 1 1 (xl ⟨116,t,[],[],[],0⟩) rfl rfl ?B1 ?B2 J J ?B3
  case B1 =>
   exact Iz
  case B2 =>
   exact oW
  exact zi6
 .have hx:x.out=l++[m]:=by simpa using hx
  have f:n=l.length+1:=by rw[<-hn,hx];simp
  obtain⟨q,E⟩:=zo l.length;rw[E]at f;obtain⟨g,H,rfl,W,T,d⟩:=vK a J;have k:∀j,j<6->w.cell? ⟨g,q*6+j,none⟩=(xl m)[j]? := λj U=>by rw[d (q*6+j) J,hx,<-E,zxq l m j U]
  have L:=k 0 J;have a1:=k 1 J;have b0:zy w g (q*6) (.int .u8 (m.kind:Nat)):=L;have b1:zy w g (q*6+1) (zv m.text):=a1;have k0:decide (0<n)=true:=zV;have k1:decide ((0:Int)<(n:Int))=true:=zV;have q1:(n:Int) - 1=(q:Int):=J;have q2:yU.wrap (q:Int)=(q:Int):=qK;have q3:q<n:=J;have q4:(q:Int)<(n:Int):=J;have HK:=Z (D m (by rw[hx];simp));have hT:=G m (by rw[hx];simp);have w1:(9223372036854775807<m.text.length+t.length)=False:=zV;by_cases hm:m.kind=116
  .have j1:((m.kind:Int)==116)=true:=(by rw[hm];rfl);obtain⟨HY,S,R,Q⟩:=hdd (show kx x t={ x with out:=l++[{ m with text:=m.text++t }] }by unfold kx;rw[zL b,hx];simp[hm]) hx f E;clear a hx f d k L a1 hm G D b E;go_enter func51,ntmps51;have zf:w.drew.frozen? (zX g (q*6+1))=false:=zxk H2.o _;have M:zy w.drew p 2 (.slice (zX g 0) (n:Nat) H)/\zy w.drew g (q*6+1) (zv m.text):=⟨h2,b1⟩;go_wp2_with fail;refine PG (λW':z7=>zy W' p 2 (.slice (zX g 0) (n:Nat) H)/\zy W' g (q*6+1) (zv m.text)) 19 [0,1,2,3,4,5,6,7,8,9,10,11,12,13,14,15,16,17,18] 1 M ?_;refine N3 19 (λK hK=>?_);go_simp;refine hK.out _ _ ?_;clear hK K;refine N4 ?_ _;go_wp2;refine zU (v := .tuple #[]) ?_ rfl ?_
   .simp[yk,results51,go_sem]
   rw[HY.o];obtain⟨F,B⟩:=HH.o.text S.o (by rw[R.o,Q.o]) (by rw[hn];exact H2.o) h2 h3 H3.o HD.o (m.text++t);rw[Q.o]at F B;rw[show(⟨m.text.toArray⟩:ByteArray)++⟨t.toArray⟩=⟨(m.text++t).toArray⟩by apply Gg;simp];exact⟨rfl,F.below (z8 _ _).drew,B.drew⟩
  .have j1:((m.kind:Int)==116)=false:=(by simp;omega);have HY:=Z (show kx x t={ x with out:=x.out++[⟨116,t,[],[],[],0⟩] }by unfold kx;rw[zL b];simp[hx,hm]);clear a hx f d k L a1 hm G D b E;go_enter func51,ntmps51;go_wp2_with (at_builtin;refine uI ?_);intro y fe;have c:=(show yX w w y by rw[fe];exact(z8 _ _).alloc (X _) _);have hC:=λi=>zg w #[.int .u8 116,zv t,.string ⟨#[]⟩,.string ⟨#[]⟩,.string ⟨#[]⟩,.int .i64 0] 85 (0,0) i
   rw[<-fe]at hC;have P:=c.size;have N:=HH.o.lt;have s1:(y:Nat)=(w:Nat)+1:=JY;have I:=Z (vx H2.o c);have ly:=Z c;clear fe;refine Up km rfl _ _ rfl (p+1) _ n (vU x.out) rfl I.o ⟨(w:Nat),0,none⟩ 1 1 (xl ⟨116,t,[],[],[],0⟩) rfl rfl ?A1 ?A2 J J ?A3
   case A1 =>
    exact Iz
   case A2 =>
    exact oW
   exact zi6
variable{y:Sc}
def C9(b:Nat)(m:Mk)(w:z7):Prop:=w.heap[b]? = some (.cells (xl m).toArray 85 (0,0))
def C9.lt{b:Nat}(h:C9 b m w):b<(w:Nat):=lt_of_block h
def C9.cell{b:Nat}(h:C9 b m w)(j:Nat):w.cell? (b,j)=(xl m)[j]? := by
 unfold C9 at h;simp[ze7,h]
def C9.free{b:Nat}(h:C9 b m w)(j:Nat):w.frozen? (b,j)=false:=by
 unfold C9 at h;simp[PJ,h]
def C9.but{b:Nat}(h:C9 b m w)(hf:xj p w w')(a:b≠p):C9 b m w':=(hf.block b h.lt a).trans h
def C9.below{b:Nat}(h:C9 b m w)(hb:zJ w w'):C9 b m w':=(hb.block b h.lt).trans h
def C9.set{b:Nat}{m':Mk}(h:C9 b m w)(j:Nat)(u:zx)(hm:(xl m).set j u=xl m'):C9 b m' (w.setCell (b,j) u):=by
 have ud:=h.lt;unfold C9 at *;have a:w.heap[b] = .cells (xl m).toArray 85 (0,0):=by simpa[XN ud]using h
 show(w.heap.modify b _)[b]? = _;rw[XN IU,Array.getElem_modify_self,a,<-hm];simp
structure Kt(p:Nat)(s:ByteArray)(x:Sc)(b:Nat)(m:Mk)(w:z7):Prop where
 at_:yT p s x w
 bz:C9 b m w
 lt:p<b
 iV:∀v,zy w p 2 v->v.ownBlock≠some b
def Kt.step{b:Nat}(h:Kt p s x b m w)(hs:yT p s y w')(hf:bD p w w'):Kt p s y b m w' :=
 ⟨hs,h.bz.but hf.but It,h.lt,λv hv=>h.iV v (hf.c2▸hv)⟩
def Kt.drew{b:Nat}(h:Kt p s x b m w):Kt p s x b m w.drew :=
 h.step (h.at_.below (z8 _ _).drew) (bD.refl _ _).drew
def Kt.Y0{b:Nat}(h:Kt p s x b m w)(i:Nat)(hi:i<=s.size):Kt p s { x with i:=i } b m (w.setCell (p,1) (i:Nat)) :=
 h.step (h.at_.Y0 i hi) (Xj (bD.refl _ _))
def Kt.start(h:yT p s x w):Kt p s x (w:Nat) m (w.alloc (.cells (xl m).toArray 85)):=by
 have hb:yX w w (w.alloc (.cells (xl m).toArray 85)):=(z8 _ _).alloc (X _) _;refine⟨h.below hb,heap_alloc_new w _,h.lt,λv hv e=>?_⟩;obtain⟨v2,v3,h2,a,-⟩:=h.rows;have b:=(hb.cell (p:=(zX p 2)) h.lt).trans h2;rw[b]at hv;cases hv;exact yO _ (a.lt _ e).2
def Kt.set{b:Nat}{m':Mk}(h:Kt p s x b m w)(j:Nat)(u:zx)(hm:(xl m).set j u=xl m'):Kt p s x b m' (w.setCell (b,j) u):=by
 obtain⟨⟨l,h1,⟨v2,v3,h2,f,n,c,hd⟩,o,q,r,t,y,z,d⟩,hk,A,ha⟩:=h;have a:∀i:Nat,(⟨b,j,none⟩:yi)≠⟨p,i,none⟩:=λi e=>by cases e;omega
 have k:v3.ownBlock≠some b:=by
  intro e;rcases c.2 with⟨hv,_⟩|⟨g,cap,cur,hv,B,hh,rest⟩
  .rw[hv]at e;cases e
  .exact o8
 refine⟨⟨by rw[zN,zL (a _)];exact l,by rw[zN,zL (a _)];exact h1,⟨v2,v3,by rw[zN,zL (a _)];exact h2,yC f (ha v2 h2) _,by rw[zN,zL (a _)];exact n,yC c k _,hd⟩,
  by rw[zN,zL (a _)];exact o,by rw[zN,zL (a _)];exact q,λi=>by rw[zO];exact r i,t,y,z,d⟩,hk.set j u hm,A,λv hv=>?_⟩
 rw[zN,zL (a _)]at hv;exact ha v hv
variable{k:Nat}
def qf(l:List (List UInt8))(x:List UInt8):Int:=if l.idxOf x<l.length then (l.idxOf x:Int)else -1
def TO{l:List (List UInt8)}{x:List UInt8}(hk:k<l.length)(h:x ∉ l.take k)(hx:l[k]=x):qf l x=k:=by
 have e:l.idxOf x=k:=zl6;unfold qf;rw[e,zl hk]
def BR{l:List (List UInt8)}{x:List UInt8}(h:x ∉ l):qf l x = -1:=by
 unfold qf;rw[zL (by rw[UJ];exact h)]
def iU{l:List (List UInt8)}{x:List UInt8}:0<=qf l x ↔ x∈l:=by
 unfold qf;rw[<-UJ];split<;>simp_all
def Hy(v:zx)(ws:List (List UInt8))(m:ByteArray)(w:z7)(h:yM w v ws)(hw:ws.length<=1000000) :
  zE prog 25 #[v,.string m] w λe w'=>e = .returned (.int .i64 (qf ws m.data.toList))/\w=w':=by
 obtain⟨a,cap,rfl,l,hm,p,hc⟩:=h;have g:=Z hc;clear hc;obtain⟨n,hn⟩:=zo ws.length;have HN:=Z hn;rw[hn]at l hw|-;clear hn;obtain⟨R,hR⟩:=zo (qf ws m.data.toList);rw[hR];have f:=Z hR;clear hR;go_enter func25,ntmps25;go_wp2;go_loop [5] (λi=>∃k:Nat,k<=n/\i = .int .i64 k/\m.data.toList ∉ ws.take k) (λi=>n - (intOf i).toNat)
 case atStart=>exact⟨0,zG _,rfl,zY⟩
 case round =>
  obtain⟨k,r,rfl,b⟩:=hrel;have aW:=Z b;clear b;by_cases ud:k<n
  .obtain⟨y,rfl,j⟩:=g.o k gA;by_cases hq:ws[k]' gA=m.data.toList
   .have d:(ws[k]' gA==m.toList)=true:=(by rw[dP,hq];simp);have HF:=Z (show R=(k:Int)from f.o▸TO (by rw[HN.o];exact ud) aW.o hq);clear hq;exact VQ
   .have d:(ws[k]' gA==m.toList)=false:=(by rw[dP];simpa using hq);exact sP
  .obtain rfl:k=n:=(by omega);have c:=aW.o;rw[xJ Lq]at c;have HF:=Z (show R = -1 from f.o▸BR c);clear c;exact VQ
variable{Yk:Sc}
def bD.of(hs:yT p s x w)(hb:zJ w w'):bD p w w':=⟨xj.of hb,hb.cell (p:=(p,2)) hs.lt⟩
def Mj(s:ByteArray)(k:Nat)(num:Bool):Bool:=num && decide (xN s k=some 61)
def qy(s:ByteArray)(x:Sc)(num:Bool):Wd:=if Mj s x.i num=true then 61::kl s (x.i+1)else jy s x.i
def xQ(s:ByteArray)(x:Sc)(num:Bool):Sc :=
 if Mj s x.i num=true then um s { x with i:=x.i+1 }
 else if num=true/\jy s x.i ∉ fg then yt (uM s x) 3 x.i else uM s x
def kE(x y:Sc):Prop:=y.out=x.out/\y.uo=x.uo
def dW(x:Sc)(e a:Nat):kE x (yt x e a):=XD x e a
def kE.trans{z:Sc}(h:kE x y)(k:kE y z):kE x z:=⟨k.1.trans h.1,k.2.trans h.2⟩
def Xz(x:Sc)(i:Nat):kE x { x with i:=i }:=⟨rfl,rfl⟩
def ZJ(s:ByteArray)(x:Sc):kE x (uM s x):=by
 unfold uM;exact oE
def Ge(s:ByteArray)(x:Sc):kE x (um s x):=by
 unfold um;exact oE
def di(s:ByteArray)(x:Sc)(c:UInt8):kE x (xE s x c):=by
 unfold xE;split
 .exact Xz _ _
 .exact dW _ _ _
def Co(s:ByteArray)(x:Sc)(num:Bool):kE x (xQ s x num):=by
 unfold xQ;split
 .exact(Xz x _).trans (Ge s _)
 .split
  .exact(ZJ s x).trans (dW _ _ _)
  .exact ZJ s x
def Mg(s:ByteArray)(x:Sc)(num:Bool):kE x (xE s (yv s (xQ s x num)) 123) :=
 ((Co s x num).trans (Xz _ _)).trans (di s _ _)
def xw(s:ByteArray)(x:Sc)(num:Bool):Sc :=
 if x.err≠0 then x else
 let Yk:=xE s (yv s (xQ s x num)) 123
 let U:=if 6<Yk.uo.length+2 then yt Yk 4 (yv s (xQ s x num)).i else Yk
 { U with uo:=U.uo++[num],out:=U.out++[⟨91,qy s x num,[],[],[],x.i⟩] }
def BS{num:Bool}{a:Nat}{U b:Sc}{T:Wd}(c:x.err=0)(h:x.i=k)(ha:(yv s (xQ s x num)).i=a)(g:xE s (yv s (xQ s x num)) 123=Yk)
  (hn:Yk.uo.length+2=n) (e:(if 6<n then yt Yk 4 a else Yk)=U) (d:qy s x num=T) (f:({ U with uo:=U.uo++[num] }:Sc)=b) :
  xw s x num={ b with out:=b.out++[⟨91,T,[],[],[],k⟩] }:=by
 subst h ha g hn e d f;unfold xw;rw[zL (by simp[c])]
def BW(p:Nat)(s:ByteArray)(x:Sc)(num:Bool)(w:z7)(h:yT p s x w)(a:x.err≠0) :
  zE prog 83 #[(p,0),.bool num] w (BN p s (.tuple #[]) (xw s x num) w):=by
 have b:=Z h;have c4:=h.c4;have c:=Z (show xw s x num=x from zl a);have d:((x.err:Int)==0)=false:=zV;have e:((x.err:Int) !=0)=true:=zV;clear h a;go_enter func83,ntmps83;go_wp2;refine zU (v := .tuple #[]) ?_ rfl ?_
 .simp[yk,results83,go_sem]
 rw[c.o];exact⟨rfl,b.o,z8 _ _⟩
def GY(p:Nat)(s:ByteArray)(x:Sc)(num:Bool)(w:z7)(h:yT p s x w)(I6:x.out.length+1<=1000000)(MT:x.uo.length+1<=1000000) :
  zE prog 83 #[(p,0),.bool num] w (BN p s (.tuple #[]) (xw s x num) w):=by
 have HH:=Z h;obtain⟨k,hk⟩:=zo x.i;have H:=Z hk;have c1:=h.c1;have c4:=h.c4;have ud:=h.lt;have dw:=h.size;have hh:=h.here;by_cases e0:x.err=0
 case neg=>exact BW p s x num w h e0
 have HE0:=Z e0;rw[e0]at c4;rw[hk]at c1 hh;clear h hk e0;go_enter func83,ntmps83;go_upto_region 2 with fail
 refine fP ?_;intro W1 fe;have Ur:=Z (show Kt p s x (w:Nat) ⟨91,[],[],[],[],k⟩ W1 by rw[fe];exact Kt.start HH.o);have hB0:yX p w W1:=by rw[fe];exact(z8 _ _).alloc (xx ud) _
 obtain⟨b,hb⟩:=zo (w:Nat);rw[hb]at Ur|-;clear fe c1 c4 hb;have c0:=Ur.o.at_.c0;have c1:=Ur.o.at_.c1;rw[H.o]at c1;have jq:zy W1.drew p 0 (.string s)/\zy W1.drew p 1 k:=⟨c0,c1⟩;clear c0 c1;go_cut [42] (λv wc=>v = .bool (Mj s k num)/\Kt p s x b ⟨91,[],[],[],[],k⟩ wc/\yX p w wc)
 case first =>
  cases num with
  |false =>
   have HE:=Z (show Mj s k false=false from rfl);exact WM
  |true =>
   by_cases y:k<s.size
   .have k1:decide ((k:Int)<(s.size:Int))=true:=(by simp;omega);have k1n:decide (k<s.size)=true:=zV;have k1':(k:Int)<(s.size:Int):=J;obtain⟨d,hd⟩:=zo (s[k]);by_cases Jz:d=61
    .have j1:((d.toNat:Int)==61)=true:=(by rw[Jz];rfl);have HE:=Z (show Mj s k true=true by unfold Mj;rw[jT y,hd,Jz];rfl);clear Jz;exact WM
    .have j1:((d.toNat:Int)==61)=false:=qz Jz;have HE:=Z (show Mj s k true=false by unfold Mj;rw[jT y,hd];simp[Jz]);clear Jz;exact WM
   .have k1:decide ((k:Int)<(s.size:Int))=false:=(by simp;omega);have k1n:decide (k<s.size)=false:=zV;have HE:=Z (show Mj s k true=false by unfold Mj;rw[dJ y];rfl);exact WM
 case rest =>
  obtain⟨rfl,E,M⟩:=hcut;go_upto_if 42 with fail
  have Ur:=Z E;clear E;go_cut [] (λwc=>Kt p s (xQ s x num) b ⟨91,qy s x num,[],[],[],k⟩ wc/\yX p w wc)
  case first =>
   obtain⟨e,he⟩:=zo (Mj s k num);rw[he];have c1:=Ur.o.at_.c1;rw[H.o]at c1;have z1:=Ur.o.at_.z 1;cases e with
   |true =>
    have Fv:k+1<=s.size:=by
     unfold Mj at he;simp only[zQ,qP]at he;by_cases y:k<s.size
     .exact y
     .rw[dJ y]at he;exact absurd he.2 zY
    obtain⟨K,hK⟩:=zo (k+1);have hT:qy s x num=61::kl s K:=(by unfold qy;rw[H.o,zl he,hK]);have hA:xQ s x num=um s { x with i:=K }:=(by unfold xQ;rw[H.o,zl he,hK]);have HT:=Z hT;have HA:=Z hA;have hL:(kl s K).length<=100000:=by
     unfold kl;rw[xr,xz,yz];omega
    have HP:=Z (Ur.o.Y0 K J);have q1:(k:Int)+1=(K:Int):=J;obtain⟨T,I⟩:=zo (kl s K);have HW:=Z (λW hs=>BP p s { x with i:=K } W hs);rw[I]at hL;have Ex:=Z I;have w1:(9223372036854775807<1+T.length)=False:=zV;clear hT hA hK I he;go_wp2_with fail;refine(HW.o _ HP.o.at_).mono ?_;rintro e w2 ⟨rfl,F,r⟩;dsimp only;rw[Ex.o];have c:=HP.o.step F r;have CQ:=Z c;have S:=Z ((xZ M (b:=p) (X _)).trans (r.below HP.o.at_));have u1:=c.bz.cell 1;have z2:=c.bz.free 1;have j:=c.set (m':=⟨91,T,[],[],[],k⟩) 1 (zv T) rfl;have u3:=j.bz.cell 1;have z3:=j.bz.free 1;have f:=Z j;have L:=j.set (m':=⟨91,61::T,[],[],[],k⟩) 1 (zv (61::T)) rfl;have Fs:=Z L;have hbp:=c.lt;clear F r c j L;simp only[xl,yL,yD]at u1 u3;go_wp2_with fail;go_meet
    case rel =>
     rw[HA.o,HT.o,Ex.o];exact⟨Fs.o,xZ (xZ S.o (xx hbp)) (xx hbp)⟩
   |false =>
    have fH:¬(Mj s k num=true):=(by rw[he];simp);obtain⟨T,I⟩:=zo (jy s k);have HT:=Z (show qy s x num=T by unfold qy;rw[H.o,zL fH,I]);have HA:=Z (show xQ s x num=if num=true/\T ∉ fg then yt (uM s x) 3 k else uM s x by unfold xQ;rw[H.o,zL fH,I]);have Ex:=Z (show jy s x.i=T by rw[H.o,I]);clear fH he I;go_wp2_with fail;refine(G8 p s x wc Ur.o.at_).mono ?_;rintro e w2 ⟨rfl,F,r⟩;dsimp only;rw[Ex.o];have c:=Ur.o.step F r;have CQ:=Z c;have S:=Z (M.trans (r.below Ur.o.at_));have u1:=c.bz.cell 1;have z2:=c.bz.free 1;have j:=c.set (m':=⟨91,T,[],[],[],k⟩) 1 (zv T) rfl;have f:=Z j;have hbp:=c.lt;clear F r c j z1 c1;simp only[xl,yL,yD]at u1;go_wp2_with fail;obtain⟨w3,V⟩:∃Xk,w2.setCell (zX b 1) (zv T)=Xk:=⟨_,rfl⟩;rw[V]at f|-;have mW:yX p w w3:=(by rw[<-V];exact xZ S.o (xx hbp));clear V u1 z2;refine(VI w3).mono ?_;rintro e w4 ⟨cv,rfl,hov,L⟩;have L8:=Z (yM.bY hov);have O:=f.o.step (f.o.at_.below L) (bD.of f.o.at_ L);have Fs:=Z O;have oQ:=Z (mW.trans ((bD.of f.o.at_ L).below f.o.at_));have u1:=O.bz.cell 1;have u5:=O.bz.cell 5;simp only[xl,yL,yD]at u1 u5;clear hov L O;go_wp2_with fail;refine(Hy cv fg ⟨T.toArray⟩ w4 L8.o zj).mono ?_;rintro e w5 ⟨rfl,rfl⟩;obtain⟨q,hq⟩:=zo (qf fg T);rw[show qf fg (⟨T.toArray⟩:ByteArray).data.toList=q from hq];cases num with
    |false =>
     have HY:=Z (show xQ s x false=uM s x by rw[HA.o,zL (λe=>by cases e.1)]);clear hq;exact oU
    |true =>
     by_cases R:T∈fg
     .have HY:=Z (show xQ s x true=uM s x by rw[HA.o,zL (λe=>e.2 R)]);have hq0:0<=q:=hq▸iU.2 R;have j1:decide (q<0)=false:=(by simp;omega);clear hq R;exact oU
     .have HY:=Z (show xQ s x true=yt (uM s x) 3 k by rw[HA.o,zl ⟨rfl,R⟩]);have hq0:q = -1:=hq▸BR R;have j1:decide (q<0)=true:=(by simp;omega);clear hq R hq0;go_wp2_with fail;refine(jG p s (uM s x) 3 k w4 Fs.o.at_).mono ?_;rintro e w6 ⟨rfl,hs6,Cu⟩;have HB6:=Z (Fs.o.step hs6 Cu);have hw6:=Z (oQ.o.trans (Cu.below Fs.o.at_));clear hs6 Cu;go_wp2_with fail;go_meet
      case rel =>
       rw[HY.o,HT.o];exact⟨HB6.o,hw6.o⟩
  case rest =>
   obtain⟨E,M⟩:=hcut;have Ur:=Z E;clear E;go_wp2_with fail;refine(qe p s (xQ s x num) wc Ur.o.at_).mono ?_;rintro e w2 ⟨rfl,F,r⟩;have c:=Ur.o.step F r;have S:=M.trans (r.below Ur.o.at_);have CQ:=Z c;have c1:=F.c1;obtain⟨at_,hat⟩:∃a,(yv s (xQ s x num)).i=a:=⟨_,rfl⟩;rw[hat]at c1;have HAT:=Z hat;clear F r c hat M;go_wp2_with fail;refine(XB p s (yv s (xQ s x num)) 123 w2 CQ.o.at_).mono ?_;rintro e w3 ⟨rfl,Fy,A0⟩;have j:=CQ.o.step Fy A0;have V:=S.trans (A0.below CQ.o.at_);have f:=Z j;clear Fy A0 j S c1;obtain⟨Yk,hY⟩:=zo (xE s (yv s (xQ s x num)) 123);rw[hY]at f;have HYY:=Z hY;have hYR:kE x Yk:=hY▸Mg s x num;have HYR:=Z hYR;clear hY;obtain⟨v2,v3,h2,A,h3,l,hd⟩:=f.o.at_.rows;obtain⟨n,hn⟩:=zo Yk.uo.length;have C7:=f.o.at_.zxx;rw[hn]at l C7;obtain⟨oa,oc,rfl⟩:=zD l;have HNN:=Z hn;have Nx:n+1<=1000000:=(by rw[<-hn,hYR.2];exact MT);clear hYR;clear h2 A l hd hn;obtain⟨N,hn2⟩:=zo (n+2);have q2:(n:Int)+2=(N:Int):=J;have qw:yU.wrap (N:Int)=(N:Int):=qK;go_upto_if 88 with fail
   go_cut [] (λwc=>Kt p s (if 6<N then yt Yk 4 at_ else Yk) b ⟨91,qy s x num,[],[],[],k⟩ wc/\yX p w wc)
   case first =>
    by_cases h6:6<N
    .have j1:decide ((6:Int)<(N:Int))=true:=(by simp;omega);have j1n:decide (6<N)=true:=zV;have HU:=Z (show(if 6<N then yt Yk 4 at_ else Yk)=yt Yk 4 at_ from zl h6);have h6i:(6:Int)<(N:Int):=J;go_wp2_with fail;refine(jG p s Yk 4 at_ w3 f.o.at_).mono ?_;rintro e w4 ⟨rfl,dS,lG⟩;have Fs:=Z (f.o.step dS lG);have hw4:=Z (V.trans (lG.below f.o.at_));clear dS lG;go_wp2_with fail;go_meet
     case rel =>
      rw[HU.o];exact⟨Fs.o,hw4.o⟩
    .have j1:decide ((6:Int)<(N:Int))=false:=(by simp;omega);have j1n:decide (6<N)=false:=zV;have HU:=Z (show(if 6<N then yt Yk 4 at_ else Yk)=Yk from zL h6);have h6i:¬(6:Int)<(N:Int):=J;go_wp2_with fail;go_meet
     case rel =>
      rw[HU.o];exact⟨f.o,V⟩
   case rest =>
    obtain⟨E,M⟩:=hcut;obtain⟨U,hU⟩:=zo ((if 6<N then yt Yk 4 at_ else Yk));rw[hU]at E;have hUo:U.uo=Yk.uo:=by
     rw[<-hU];split
     .exact(XD _ _ _).2
     .rfl
    have HU:=Z hU;have Ur:=Z E;have HUN:=Z (show U.uo.length=n by rw[hUo];exact HNN.o);have HUO:=Z (show U.out=Yk.out by
     rw[<-hU];split
     .exact(XD _ _ _).1
     .rfl)
    clear E hU hUo;obtain⟨v2,v3,h2,A,h3,l,hd⟩:=Ur.o.at_.rows;have H2:=Z A;have HD:=Z hd;have H3:=Z l;have Cz:=Ur.o.bz.lt;rw[HUN.o]at l;obtain⟨va,vc,rfl⟩:=zD l;have H3n:=Z l;have HL:=Z Ur.o.at_.lt;clear A l hd;go_wp2_with (at_builtin;refine uI ?_);intro W4 I5;have hbA:zJ wc W4:=(by rw[I5];exact(z8 _ _).alloc (X _) _);have hC:=λi=>zg wc #[.bool num] 4 (0,0) i
    rw[<-I5]at hC;have s4:(W4:Nat)=(wc:Nat)+1:=(by rw[I5];simp);have HO:=Z (vx H3n.o hbA);have P:=Z hbA;have lu:=HL.o;clear I5;refine Up TN rfl _ _ rfl (p+1) _ n (fU U.uo) rfl HO.o ⟨(wc:Nat),0,none⟩ 1 1 [.bool num] rfl rfl (by exact cells_one (hC 0)) ?C2 J J ?C3
    case C2 =>
     exact jr
    intro v5 W5 ho G hw;have U2:=Ur.o.at_.yn9 (m:=num) H2.o h2 h3 H3.o HD.o P.o (by rw[HUN.o];exact ho) G hw (by rw[HUN.o];omega);have C:=Ur.o.at_.Z6 P.o G (λg e=>(H3.o.lt g e).1);have e3:=G.cell ((P.o.cell (p:=(zX p 3)) HL.o).trans h3) (λe=>yO _ ((H3.o.lt p e.symm).1));have z3:=C.z 3;have HC2:=Z (show W5.cell? (zX p 2)=wc.cell? (zX p 2) from(G.cell ((P.o.cell (p:=(zX p 2)) HL.o).trans h2) (λe=>yO _ ((H3.o.lt p e.symm).1))).trans h2.symm);have j:(some b:Option Nat)≠(yI va n vc).ownBlock:=by
     intro e;have hk:=Ur.o.bz;rcases H3.o.2 with⟨hv,_⟩|⟨g,cap,cur,hv,hg',hh,rest⟩
     .rw[hv]at e;cases e
     .exact o8
    have Av:=(G.block b (by have:=P.o.size;omega) j).trans (Ur.o.bz.below P.o);have HMK:=Z (show C9 b ⟨91,qy s x num,[],[],[],k⟩ W5 from Av);obtain⟨na,nc,rfl⟩:=zD ho;have lx:=Z U2;have hs5:=G.size;have hpb:=Ur.o.lt;clear U2 C ho G hw hC Av j h2 h3 H2 H3 HD H3n;go_wp2_with fail;obtain⟨W6,Gd⟩:∃Xk,W5.setCell (zX p 3) (.slice na (n+1) nc)=Xk:=⟨_,rfl⟩;have HM6:=Z (show C9 b ⟨91,qy s x num,[],[],[],k⟩ W6 from Gd▸HMK.o.but (xj.set p W5 3 _) J);have HC6:=Z (show W6.cell? (zX p 2)=wc.cell? (zX p 2)by rw[<-Gd,zN,zL zY];exact HC2.o);rw[Gd]at lx;try rw[Gd]
    clear Gd e3 z3;obtain⟨T,hT⟩:=zo (qy s x num);rw[hT]at HM6;have HT:=Z hT;obtain⟨Xk,hX⟩:∃Xk,({ U with uo:=U.uo++[num] }:Sc)=Xk:=⟨_,rfl⟩;rw[hX]at lx;have C7:Xk.out.length+1<=1000000:=(by rw[<-hX];show U.out.length+1<=1000000;rw[HUO.o,HYR.o.1];exact I6);have HX:=Z hX;have HB:=Z (show Kt p s Xk b ⟨91,T,[],[],[],k⟩ W6 from⟨lx.o.1,HM6.o,hpb,λv hv=>Ur.o.iV v (HC6.o▸hv)⟩);clear hT hX I6;obtain⟨v2,v3,h2,A,h3,l,hd⟩:=HB.o.at_.rows;obtain⟨xa,xc,rfl⟩:=zD A;obtain⟨no,hno⟩:=zo Xk.out.length;have MO:=Z hno;have HLO:=Z C7;rw[hno]at h2 A C7;have eT:some b≠(yI xa no xc).ownBlock:=λe=>HB.o.iV _ h2 e.symm
    have Q:=Z eT;have m0:=HB.o.bz.cell 0;have m1:=HB.o.bz.cell 1;have m2:=HB.o.bz.cell 2;have m3:=HB.o.bz.cell 3;have m4:=HB.o.bz.cell 4;have m5:=HB.o.bz.cell 5;simp only[xl,yL,yD]at m0 m1 m2 m3 m4 m5;obtain⟨H2,H3,H3K,HD⟩:=hdd A l h3 hd;clear A l hd hno h3 eT;have M3:=HB.o.at_.lt;have t:=HB.o.bz.lt;have jq:zy W6.drew p 2 (.slice xa (no:Nat) xc)/\zy W6.drew b 0 (.int .u8 91)/\zy W6.drew b 1 (zv T)/\zy W6.drew b 2 (zv [])/\zy W6.drew b 3 (zv [])/\zy W6.drew b 4 (zv [])/\zy W6.drew b 5 k:=⟨h2,m0,m1,m2,m3,m4,m5⟩;refine PG (λW':z7=>zy W' p 2 (.slice xa (no:Nat) xc)/\zy W' b 0 (.int .u8 91)/\zy W' b 1 (zv T)/\zy W' b 2 (zv [])/\zy W' b 3 (zv [])/\zy W' b 4 (zv [])/\zy W' b 5 k) 10 [0,1,2,3,4,5] 5 jq ?_;refine UG 6 (λK hK=>?_);go_simp;obtain⟨W7,hW7,D,hs7,lD⟩:=Z4 W6 [.int .u8 91,zv T,zv [],zv [],zv [],.int .i64 k] 85;rw[<-hW7];clear hW7;have B:zy W7 p 2 (.slice xa (no:Nat) xc)/\zy W7 b 0 (.int .u8 91)/\zy W7 b 1 (zv T)/\zy W7 b 2 (zv [])/\zy W7 b 3 (zv [])/\zy W7 b 4 (zv [])/\zy W7 b 5 k:=⟨(D.cell (p:=(zX p 2)) M3).trans h2,(D.cell (p:=(zX b 0)) t).trans m0,(D.cell (p:=(zX b 1)) t).trans m1,(D.cell (p:=(zX b 2)) t).trans m2,(D.cell (p:=(zX b 3)) t).trans m3,(D.cell (p:=(zX b 4)) t).trans m4,(D.cell (p:=(zX b 5)) t).trans m5⟩;refine hK.out _ _ B λ_=>?_;clear hK K jq;have HB7:=Z D;have HC7:=Z lD;clear D lD;refine UG 7 (λK hK=>?_);rw[zl (by rfl)];refine J0 km _ _ rfl (p+1) _ no (vU Xk.out) rfl (vx H2.o HB7.o) ⟨(W6:Nat),0,none⟩ 1 1 (xl ⟨91,T,[],[],[],k⟩) rfl rfl HC7.o ?x1 J J ?x2
    case x1 =>
     exact D1
    intro v' w' ho G hw;have lB:some p≠(yI xa no xc).ownBlock:=λe=>yO _ (H2.o.lt p e.symm).1
    have hS8:zy w' p 2 (.slice xa (no:Nat) xc)/\zy w' b 0 (.int .u8 91)/\zy w' b 1 (zv T)/\zy w' b 2 (zv [])/\zy w' b 3 (zv [])/\zy w' b 4 (zv [])/\zy w' b 5 k:=⟨G.cell B.1 lB,G.cell B.2.1 Q.o,G.cell B.2.2.1 Q.o,G.cell B.2.2.2.1 Q.o,G.cell B.2.2.2.2.1 Q.o,G.cell B.2.2.2.2.2.1 Q.o,G.cell B.2.2.2.2.2.2 Q.o⟩;have C:=HB.o.at_.Z6 HB7.o G (λg e=>(H2.o.lt g e).1);have z2:=C.z 2;have U2:=HB.o.at_.GX (m:=⟨91,T,[],[],[],k⟩) Qv LQ H3K.o H3.o DB HB7.o Qq G hw HLO.o;obtain⟨na,nc,rfl⟩:=zD ho;have HN:=Z U2;have s2:=hS8.1;refine hK.out _ _ hS8 λ_=>?_;clear hK K U2 ho G hw C lB m0 m1 m2 m3 m4 m5 h2 B;refine qY [8,9] 1 rfl fy yy yy hS8 ?_;(iterate 2 ((first|refine ty ?_|refine tn ?_);try simp only[pl]))
    refine yA ?_;refine N3 10 (λK hK=>?_);go_simp;refine hK.out _ _ ?_;clear hK K;refine N4 ?_ _;go_wp2;refine zU (v := .tuple #[]) ?_ rfl ?_
    .simp[yk,results83,go_sem]
    refine⟨rfl,?_,((M.trans lx.o.2).trans HN.o.2)⟩;rw[BS HE0.o H.o HAT.o HYY.o (n:=N) (by rw[HNN.o];exact hn2) HU.o HT.o HX.o];exact HN.o.1
def zax{base:Nat}{c:Nat}{a:Option yi}(h:W.ownsRow base e 1 (.slice a (n+1) c) (n+1) xs):W.ownsRow base e 1 (.slice a n c) n (xs.take n):=by
 obtain⟨h1,h2⟩:=h;refine⟨by simp at h1|-;omega,?_⟩;rcases h2 with⟨h2,_⟩|⟨g,cap,cur,hv,b,d,k1,k2,k3,k4⟩
 .cases h2
 .cases hv;refine .inr ⟨g,_,cur,rfl,b,d,J,k2,k3,?_⟩;rw[<-k4,ypq];congr 1;omega
def zav{base:Nat}{c size:Nat}{a:Option yi}(h:W.ownsRow base e size (.slice a n c) n xs):n<=c:=by
 rcases h.2 with⟨h2,b⟩|⟨g,cap,cur,hv,d,f,k1,k2,k3,k4⟩
 .cases h2;exact zG _
 .cases hv;exact k1
def yT.pop{a:Option yi}{c:Nat}(h:yT p s x w)(f:zy w p 3 (.slice a (n+1) c))(hn:x.uo.length=n+1) :
  yT p s { x with uo:=x.uo.dropLast } (w.setCell (p,3) (.slice a n c)):=by
 obtain⟨h0,h1,⟨v2,v3,h2,e,d,b,hd⟩,k,h5,l,m,o,q,i⟩:=h;rw[f]at d;cases d;rw[hn]at b;have hp:=zax b;have e1:(fU x.uo).take n=fU x.uo.dropLast:=by
  unfold fU;rw[<-List.map_take,List.dropLast_eq_take,hn];rfl
 rw[e1]at hp;refine⟨JM,Sb,⟨v2,_,LU,zk e Qy _,by rw[zN,zl rfl,f];rfl,?_,?_⟩,
  by rw[zN,zL zY];exact k,Ld,λj=>by rw[zO];exact l j,m,o,q,zV⟩
 .have e2:({ x with uo:=x.uo.dropLast }:Sc).uo.length=n:=by simp;omega
  rw[e2];exact zk hp Qy _
 .intro g r;have:=hd g r;cases a with
  |none=>simp[qb]
  |some ad=>exact this
def fQ(s:ByteArray)(x:Sc):Sc :=
 let Yk:=yv s { x with uo:=x.uo.dropLast }
 if xN s Yk.i=some 125 then { Yk with out:=Yk.out++[⟨41,[],[],[],[],Yk.i⟩],i:=Yk.i+1 }else xw s Yk (QE x)
def TP(a:yv s { x with uo:=x.uo.dropLast }=Yk)(b:Yk.i=k)(h:xN s k=some 125):fQ s x={ Yk with out:=Yk.out++[⟨41,[],[],[],[],k⟩],i:=k+1 }:=by
 subst a b;exact zl h
def Hx{num:Bool}(a:yv s { x with uo:=x.uo.dropLast }=Yk)(b:Yk.i=k)(hn:QE x=num)(h:¬xN s k=some 125):fQ s x=xw s Yk num:=by
 subst a b hn;exact zL h
def P3(p:Nat)(s:ByteArray)(x:Sc)(w:z7)(h:yT p s x w)(fH:x.uo≠[])(I6:x.out.length+1<=1000000) :
  zE prog 50 #[(p,0)] w (BN p s (.tuple #[]) (fQ s x) w):=by
 have HH:=Z h;have HN:=Z (Ue p s x w h);obtain⟨num,l⟩:∃b,QE x=b:=⟨_,rfl⟩;rw[l]at HN;have E:=Z l;obtain⟨n,hn⟩:∃n,x.uo.length=n+1:=⟨x.uo.length - 1,by have:=xI.2 fH;omega⟩;have C7:=h.zxx;rw[hn]at C7;have H:=Z hn;clear h l hn fH;go_enter func50,ntmps50;go_wp2_with fail;refine HN.o.mono ?_;rintro e w1 ⟨rfl,B,U⟩;have hw1:=U.below HH.o;have UR:=Z B;obtain⟨v2,v3,-,-,I,a,-⟩:=B.rows;have z3:=B.z 3;rw[H.o]at a;obtain⟨oa,Q,rfl⟩:=zD a;have T:n+1<=Q:=zav a;have q1:((n+1:Nat):Int) - 1=(n:Int):=J;have q2:yU.wrap (n:Int)=(n:Int):=qK;have H3:=Z I;obtain⟨n1,O⟩:∃m,n+1=m:=⟨_,rfl⟩;rw[O]at I T q1;have HN1:=Z O;have vdq:n<=Q:=J;have vzx:(n:Int)<=(Q:Int):=J;clear a B U O;go_wp2_with fail;have jq:zy w1.drew p 3 (.slice oa (n1:Nat) Q):=I;refine PG (λW':z7=>zy W' p 3 (.slice oa (n1:Nat) Q)) 14 [0,1,2,3,4,5,6,7,8,9,10,11,12,13] 1 jq ?_;refine N3 14 (λK hK=>?_);go_simp;refine hK.out _ _ ?_;clear hK K;refine N4 ?_ _;have D:=(UR.o.pop H3.o H.o).below (z8 _ _).drew;have PH:=Z (xZ (b:=p) (j:=3) (u := .slice oa n Q) hw1 (X _)).drew;obtain⟨W2,L⟩:∃Xk,(w1.setCell (zX p 3) (.slice oa n Q)).drew=Xk:=⟨_,rfl⟩;rw[L]at D PH;try rw[L]
 have lj:=Z (qe p s _ W2 D);have Jx:=Z D;clear L jq D z3 I;go_wp2_with fail;refine lj.o.mono ?_;rintro e w3 ⟨rfl,c,V⟩;have Ko:=PH.o.trans (V.below Jx.o);obtain⟨Yk,R⟩:∃Yk,yv s { x with uo:=x.uo.dropLast }=Yk:=⟨_,rfl⟩;rw[R]at c;obtain⟨HY,HYO,HYN,GZ⟩:=hdd R (show Yk.out=x.out from R▸rfl) (show Yk.uo.length=n by rw[<-R];show x.uo.dropLast.length=n;have:=H.o;simp;omega) c;have c0:=c.c0;have c1:=c.c1;obtain⟨k,hk⟩:=zo Yk.i;rw[hk]at c1;have HK:=Z hk;have Tu:=c.here;have dw:=c.size;rw[hk]at Tu;clear c V hk R;go_wp2_with fail;have jq:zy w3.drew p 0 (.string s)/\zy w3.drew p 1 k:=⟨c0,c1⟩;by_cases f:k<s.size
 .have k1:decide ((k:Int)<(s.size:Int))=true:=by simp;omega
  have k1n:decide (k<s.size)=true:=zV;have k1':(k:Int)<(s.size:Int):=J;obtain⟨d,hd⟩:=zo (s[k]);by_cases Jz:d=125
  .have j1:((d.toNat:Int)==125)=true:=(by rw[Jz];rfl);have HE:=Z (TP HY.o HK.o (by rw[jT f,hd,Jz]));clear Jz;refine bW (λW':z7=>zy W' p 0 (.string s)/\zy W' p 1 k) [0,1,2,3,4,5,6,7,8,9,10,11,12,13,14,15,16,17,18,19,20,21] 0 jq ?_;refine fR ?_ _;have dS:=GZ.o.below (z8 _ _).drew;obtain⟨W4,I5⟩:∃Xk,w3.drew=Xk:=⟨_,rfl⟩;rw[I5]at dS jq;have Pc:=Ko.drew;rw[I5]at Pc|-;have Vg:=Z dS;obtain⟨v2,v3,h2,q,I,a,hd⟩:=dS.rows;obtain⟨xa,xc,rfl⟩:=zD q;obtain⟨no,A⟩:=zo Yk.out.length;have MO:=Z A;rw[A]at h2 q;have xa6:no+1<=1000000:=(by rw[<-A,HYO.o];exact I6);have S:=jq.2;have F:=dS.lt;obtain⟨H2,H3,H3K,HD⟩:=hdd q a I hd;clear q a hd A I dS jq I5;go_wp2_with fail;have jq:zy W4.drew p 2 (.slice xa (no:Nat) xc)/\zy W4.drew p 1 k:=⟨h2,S⟩;refine PG (λW':z7=>zy W' p 2 (.slice xa (no:Nat) xc)/\zy W' p 1 k) 14 [0,1,2,3,4,5,6,7,8,9] 5 jq ?_;refine UG 10 (λK hK=>?_);go_simp;obtain⟨W7,M,y,hs7,N⟩:=Z4 W4 [.int .u8 41,zv [],zv [],zv [],zv [],.int .i64 k] 85;simp only[zv]at M N;rw[<-M];clear M;have r:zy W7 p 2 (.slice xa (no:Nat) xc)/\zy W7 p 1 k:=⟨(y.cell (p:=(zX p 2)) F).trans h2,(y.cell (p:=(zX p 1)) F).trans S⟩;refine hK.out _ _ r λ_=>?_;clear hK K jq;have G:=Z y;have HC7:=Z N;clear y N;refine UG 11 (λK hK=>?_);rw[zl (by rfl)];refine J0 km _ _ rfl (p+1) _ no (vU Yk.out) rfl (vx H2.o G.o) ⟨(W4:Nat),0,none⟩ 1 1 (xl ⟨41,[],[],[],[],k⟩) rfl rfl HC7.o ?x1 J J ?x2
   case x1 =>
    exact D1
   intro v' w' ho W hw;have P:some p≠(yI xa no xc).ownBlock:=λe=>yO _ (H2.o.lt p e.symm).1
   have t:zy w' p 2 (.slice xa (no:Nat) xc)/\zy w' p 1 k:=⟨W.cell r.1 P,W.cell r.2 P⟩;have C:=Vg.o.Z6 G.o W (λg e=>(H2.o.lt g e).1);have z2:=C.z 2;have z1:=C.z 1;have U2:=Vg.o.GX (m:=⟨41,[],[],[],[],k⟩) Qv h2 H3K.o H3.o DB G.o Qq W hw (by rw[MO.o];exact xa6);obtain⟨na,nc,rfl⟩:=zD ho;have HG:=Z U2;have s1:=t.2;have s2:=t.1;refine hK.out _ _ t λ_=>?_;clear hK K U2 ho W hw C P h2 r;refine qY [12,13] 1 rfl fy yy yy t ?_;(iterate 2 ((first|refine ty ?_|refine tn ?_);try simp only[pl]))
   refine yA ?_;refine N3 14 (λK hK=>?_);go_simp;refine hK.out _ _ ?_;clear hK K;refine N4 ?_ _;go_wp2;refine zU (v := .tuple #[]) ?_ rfl ?_
   .simp[yk,results50,go_sem]
   rw[HE.o];exact⟨rfl,HG.o.1.Y0 (k+1) J,xZ (Pc.trans HG.o.2) (X _)⟩
  .have j1:((d.toNat:Int)==125)=false:=qz Jz;have HE:=Z (Hx HY.o HK.o E.o (by rw[jT f,hd];simp[Jz]));clear Jz;exact zi5
 .have k1:decide ((k:Int)<(s.size:Int))=false:=by simp;omega
  have k1n:decide (k<s.size)=false:=zV;have HE:=Z (Hx HY.o HK.o E.o (by rw[dJ f];simp));exact zi5
def jH:List Wd:=[[110,117,109,98,101,114],[112,108,117,114,97,108],[115,101,108,101,99,116,111,114,100,105,110,97,108],[115,101,108,101,99,116]]
def BA:Wd:=[111,102,102,115,101,116,58]
def dm(s:ByteArray)(i:Nat):Bool:=decide ((s.data.toList.drop i).take 7=BA)
def lC(s:ByteArray)(nm how:Wd)(a:Nat)(num:Bool)(x:Sc):Sc :=
 let off:=if (num && dm s x.i)=true then kl s (yv s { x with i:=x.i+7 }).i else [48]
 let y:=if (num && dm s x.i)=true then yv s (um s (yv s { x with i:=x.i+7 }))else x
 xw s { y with out:=y.out++[⟨40,[],nm,how,off,a⟩] } num
def P4(s:ByteArray)(nm:Wd)(a:Nat)(x:Sc):Sc :=
 let how:=jy s x.i
 let kn:=qf jH how
 if kn<0 then yt (uM s x) 3 x.i
 else if kn=0 then
  let y:=xE s (yv s (uM s x)) 125
  { y with out:=y.out++[⟨110,[],nm,how,[],a⟩] }
 else lC s nm how a (decide (kn<3)) (yv s (xE s (yv s (uM s x)) 44))
def dG(s:ByteArray)(x:Sc):Sc :=
 let x1:=yv s { x with i:=x.i+1 }
 let nm:=jy s x1.i
 let x2:=yv s (uM s x1)
 if x2.err≠0 then x2
 else if xN s x2.i≠some 44 then
  let y:=xE s x2 125
  { y with out:=y.out++[⟨112,[],nm,[],[],x.i⟩] }
 else P4 s nm x.i (yv s { x2 with i:=x2.i+1 })
def Gi{s:ByteArray}{k:Nat}(h:s.size<k+7):dm s k=false:=by
 unfold dm;rw[decide_eq_false_iff_not];intro e;have:=congrArg qj e;rw[xr,xz,yz]at this;have a:BA.length=7:=rfl;omega
def Fa(s:ByteArray):s.toList=s.data.toList:=dP s
def P5{s:ByteArray}{k l:Nat}(h:k+7=l)(a:l<=s.size):((s.extract k l).toList==BA)=dm s k:=by
 subst h;rw[dN,Fa];unfold dm;rw[vF];simp
def P6(s:ByteArray)(num:Bool)(x:Sc):Wd:=if (num && dm s x.i)=true then kl s (yv s { x with i:=x.i+7 }).i else [48]
def FV(s:ByteArray)(num:Bool)(x:Sc):Sc:=if (num && dm s x.i)=true then yv s (um s (yv s { x with i:=x.i+7 }))else x
def zxj{s:ByteArray}{nm how off:Wd}{a:Nat}{num:Bool}{x y z:Sc}(b:P6 s num x=off)(hy:FV s num x=y)(c:{ y with out:=y.out++[⟨40,[],nm,how,off,a⟩] }=z):lC s nm how a num x=xw s z num:=by
 subst b hy c;rfl
def yv2{s:ByteArray}{num:Bool}{x:Sc}{k:Nat}(a:x.i=k)(h:(num && dm s k)=false):FV s num x=x/\P6 s num x=[48]:=by
 subst a;unfold FV P6;rw[h];exact⟨rfl,rfl⟩
def zau{s:ByteArray}{num:Bool}{x:Sc}{k l:Nat}(d:x.i=k)(h:(num && dm s k)=true)(e:k+7=l) :
  (∀{a b c:Sc},yv s { x with i:=l }=a->um s a=b->yv s b=c->FV s num x=c)/\∀{a:Sc} {t:Wd},yv s { x with i:=l }=a->kl s a.i=t->P6 s num x=t:=by
 subst d e;unfold FV P6;rw[h];refine⟨λe1 e2 e3=>?_,λe1 e2=>?_⟩
 .subst e1 e2 e3;rfl
 .subst e1 e2;rfl
def Hv(s:ByteArray)(num:Bool)(x:Sc):kE x (FV s num x):=by
 unfold FV;split
 .exact(Xz x _).trans (Ge s _)
 .exact⟨rfl,rfl⟩
section
variable {s:ByteArray} {x x1 xa x2 x3 x4 x5 x6 y:Sc} {k a i i0 i1:Nat} {nm how:Wd} {kn:Int}
def TR(c:x.i=a)(b:a+1=i0)(h1:yv s { x with i:=i0 }=x1)(ha:uM s x1=xa)(h2:yv s xa=x2)(he:x2.err≠0):dG s x=x2:=by
 subst c b h1 ha h2;exact zl he
def TS(c:x.i=a)(b:a+1=i0)(h1:yv s { x with i:=i0 }=x1)(hn:jy s x1.i=nm)(ha:uM s x1=xa)(h2:yv s xa=x2)(he:x2.err=0)(hi:x2.i=i)(hc:¬xN s i=some 44)(hy:xE s x2 125=y) :
  dG s x={ y with out:=y.out++[⟨112,[],nm,[],[],a⟩] }:=by
 subst c b h1 hn ha h2 hi hy;exact(zL (not_not_intro he)).trans (zl hc)
def QH(d:x.i=a)(b:a+1=i0)(h1:yv s { x with i:=i0 }=x1)(hn:jy s x1.i=nm)(ha:uM s x1=xa)(h2:yv s xa=x2)(he:x2.err=0)(hi:x2.i=i)(hc:xN s i=some 44)(e:i+1=i1)(c:yv s { x2 with i:=i1 }=x3) :
  dG s x=P4 s nm a x3:=by
 subst d b h1 hn ha h2 hi e c;exact(zL (not_not_intro he)).trans (zL (not_not_intro hc))
def iQ(hi:x.i=i)(d:jy s i=how)(b:qf jH how=kn)(c:kn<0):P4 s nm a x=yt (uM s x) 3 i:=by
 subst hi d b;exact zl c
def zxg(hi:x.i=i)(e:jy s i=how)(b:qf jH how=kn)(c:kn=0)(hx:uM s x=x4)(d:yv s x4=x5)(hy:xE s x5 125=y):P4 s nm a x={ y with out:=y.out++[⟨110,[],nm,how,[],a⟩] }:=by
 subst hi e b hx d hy;exact(zL J).trans (zl c)
def zaq(hi:x.i=i)(e:jy s i=how)(b:qf jH how=kn)(f:0<kn)(hx:uM s x=x4)(c:yv s x4=x5)(d:xE s x5 44=x6)(hy:yv s x6=y):P4 s nm a x=lC s nm how a (decide (kn<3)) y:=by
 subst hi e b hx c d hy;exact(zL J).trans (zL J)
end
def iK(x:Wd) : -1<=qf jH x/\qf jH x<4:=by
 unfold qf;have:jH.length=4:=rfl;split<;>omega
def TT(W:z7)(ws:List Wd)(t:uP)(c:ws.length<=1000):∃a,a=W.alloc (.cells (ws.map zv).toArray t)/\zJ W a/\yM a (.slice (W,0) ws.length ws.length) ws :=
 ⟨_,rfl,(z8 _ _).alloc (X _) _,_,_,rfl,X _,Z7,(λe=>gU),λj b=>⟨_,rfl,by rw[vA,zg];simp[b]⟩⟩
def bP(s:ByteArray)(x:Sc):kE x (yv s x):=⟨rfl,rfl⟩
def TW(p:Nat)(s:ByteArray)(x:Sc)(w:z7)(h:yT p s x w)(EJ:x.i<s.size)(I6:x.out.length+2<=1000000)(MT:x.uo.length+1<=1000000) :
  zE prog 49 #[(p,0)] w (BN p s (.tuple #[]) (dG s x) w):=by
 have HH:=Z h;obtain⟨a,ha⟩:=zo x.i;have Rn:=Z ha;have c1:=h.c1;have ud:=h.lt;have dw:=h.size;rw[ha]at c1 EJ;clear h ha;go_enter func49,ntmps49;go_upto_region 1 with fail
 refine fP ?_;intro W0 PE;have Ur:=Z (show Kt p s x (w:Nat) ⟨112,[],[],[],[],a⟩ W0 by rw[PE];exact Kt.start HH.o);have hB0:yX p w W0:=by rw[PE];exact(z8 _ _).alloc (xx ud) _
 obtain⟨b,hb⟩:=zo (w:Nat);rw[hb]at Ur|-;have HB0:=Z hB0;clear PE c1 hb hB0;have hpb:=Ur.o.lt;have c1:=Ur.o.at_.c1;have z1:=Ur.o.at_.z 1;rw[Rn.o]at c1;obtain⟨K,hK⟩:=zo (a+1);have q1:(a:Int)+1=(K:Int):=J;have HKK:=Z hK;have hKs:K<=s.size:=J;have HP:=Z (Ur.o.Y0 K hKs);have HPW:=Z (xZ HB0.o (b:=p) (j:=1) (u := .int .i64 K) (X _));clear hK;go_wp2_with fail;refine(qe p s _ _ HP.o.at_).mono ?_;rintro e w1 ⟨rfl,ZE,Kp⟩;obtain⟨X1,hX1⟩:∃Yk,yv s { x with i:=K }=Yk:=⟨_,rfl⟩;rw[hX1]at ZE;have mg:=Z hX1;have lZ:=Z (HP.o.step ZE Kp);have HW1:=Z (HPW.o.trans (Kp.below HP.o.at_));clear ZE Kp hX1;try dsimp only
 have JE:=Z (show kE x X1 from mg.o▸⟨rfl,rfl⟩);clear c1 z1;go_wp2_with fail;refine(G8 p s X1 w1 lZ.o.at_).mono ?_;rintro e w2 ⟨rfl,ZW,V0⟩;try dsimp only
 obtain⟨nm,Cq⟩:∃t,jy s X1.i=t:=⟨_,rfl⟩;rw[Cq];have HNM:=Z Cq;obtain⟨X2,hX2⟩:∃Yk,uM s X1=Yk:=⟨_,rfl⟩;rw[hX2]at ZW;have lj:=Z hX2;have qX:=lZ.o.step ZW V0;have PH:=HW1.o.trans (V0.below lZ.o.at_);have HI2:=Z (show kE x X2 from JE.o.trans (lj.o▸ZJ s X1));have z2:=qX.bz.free 2;have m2:=qX.bz.cell 2;simp only[xl,yL,yD]at m2;have CQ:=Z qX;have l9:=Z (qX.set (m':=⟨112,[],nm,[],[],a⟩) 2 (zv nm) rfl);have HW3:=Z (xZ PH (b:=b) (j:=2) (u:=zv nm) (xx hpb));clear qX PH ZW V0 hX2 Cq;go_wp2_with fail;refine(qe p s X2 _ l9.o.at_).mono ?_;rintro e w4 ⟨rfl,dS,lG⟩;obtain⟨X4,hX4⟩:∃Yk,yv s X2=Yk:=⟨_,rfl⟩;rw[hX4]at dS;have HX4:=Z hX4;have Fs:=Z (l9.o.step dS lG);have N8:=Z (HW3.o.trans (lG.below l9.o.at_));clear dS lG hX4;try dsimp only
 have HI4:=Z (show kE x X4 from HX4.o▸HI2.o.trans (bP s X2));clear z2 m2;have c4:=Fs.o.at_.c4;by_cases he:X4.err=0
 case neg =>
  have j1:((X4.err:Int)==0)=false:=zV;have j2:((X4.err:Int) !=0)=true:=zV;have HE:=Z (TR Rn.o HKK.o mg.o lj.o HX4.o he);clear he;go_wp2;refine zU (v := .tuple #[]) ?_ rfl ?_
  .exact D8
  rw[HE.o];exact⟨rfl,Fs.o.at_,N8.o⟩
 have HE:=Z he;rw[he]at c4;clear he;have c0:=Fs.o.at_.c0;have c1:=Fs.o.at_.c1;have Tu:=Fs.o.at_.here;obtain⟨k,hk⟩:=zo X4.i;rw[hk]at c1 Tu;have HK:=Z hk;clear hk;go_upto_region 6 with fail
 have jq:zy w4.drew p 0 (.string s)/\zy w4.drew p 1 k:=⟨c0,c1⟩;have HD4:=Z Fs.o.drew;have HDW:=Z N8.o.drew;go_cut [50] (λv wc=>v = .bool (decide (¬xN s k=some 44))/\Kt p s X4 b ⟨112,[],nm,[],[],a⟩ wc/\yX p w wc)
 case first =>
  by_cases Qt:k<s.size
  .have k1:decide ((s.size:Int)<=(k:Int))=false:=(by simp;omega);have k1n:decide (s.size<=k)=false:=zV;have k1':(k:Int)<(s.size:Int):=J;obtain⟨d,hd⟩:=zo (s[k]);by_cases Jz:d=44
   .have j1:((d.toNat:Int)==44)=true:=(by rw[Jz];rfl);have j2:((d.toNat:Int) !=44)=false:=(by rw[Jz];rfl);have HQ:=Z (show decide (¬xN s k=some 44)=false by rw[jT Qt,hd,Jz];simp);clear Jz;exact mZ
   .have j1:((d.toNat:Int)==44)=false:=qz Jz;have j2:((d.toNat:Int) !=44)=true:=(by rw[bne,j1];rfl);have HQ:=Z (show decide (¬xN s k=some 44)=true by rw[jT Qt,hd];simp[Jz]);clear Jz;exact mZ
  .have k1:decide ((s.size:Int)<=(k:Int))=true:=(by simp;omega);have k1n:decide (s.size<=k)=true:=zV;have HQ:=Z (show decide (¬xN s k=some 44)=true by rw[dJ Qt];simp);exact mZ
 obtain⟨rfl,Xv,hw5⟩:=hcut;have HB5:=Z Xv;have HW5:=Z hw5;clear Xv hw5 HD4 HDW jq c0 c1 c4;by_cases hc:¬xN s k=some 44
 case pos =>
  rw[decide_eq_true hc];have HC:=Z hc;clear hc;go_wp2_with fail;refine(XB p s X4 125 _ HB5.o.at_).mono ?_;rintro e w6 ⟨rfl,hs6,Cu⟩;obtain⟨X6,hX6⟩:∃Yk,xE s X4 125=Yk:=⟨_,rfl⟩;rw[hX6]at hs6;have HX6:=Z hX6;have HB6:=Z (HB5.o.step hs6 Cu);have HW6:=Z (HW5.o.trans (Cu.below HB5.o.at_));clear hs6 Cu hX6;try dsimp only
  have HI6:=HI4.o.trans (show kE X4 X6 from HX6.o▸di s X4 125);have C7:X6.out.length+1<=1000000:=by rw[HI6.1];omega
  clear HI6;have y:=HB6;go_wp2_with fail;obtain⟨v2,v3,h2,D,h3,V,hd⟩:=y.o.at_.rows;obtain⟨xa,R,rfl⟩:=zD D;obtain⟨no,H⟩:=zo X6.out.length;have MO:=Z H;have HLO:=Z C7;rw[H]at h2 D C7;have eT:some b≠(yI xa no R).ownBlock:=λe=>y.o.iV _ h2 e.symm
  have r:=Z eT;have U:=y.o.bz.cell 0;have m1:=y.o.bz.cell 1;have m2:=y.o.bz.cell 2;have P:=y.o.bz.cell 3;have Q:=y.o.bz.cell 4;have m5:=y.o.bz.cell 5;simp only[xl,yL,yD]at U m1 m2 P Q m5;obtain⟨H2,H3,H3K,HD⟩:=hdd D V h3 hd;clear D V hd H h3 eT;have M3:=y.o.at_.lt;have c:=y.o.bz.lt;have jq:zy w6.drew p 2 (.slice xa (no:Nat) R)/\zy w6.drew b 0 (.int .u8 112)/\zy w6.drew b 1 (zv [])/\zy w6.drew b 2 (zv nm)/\zy w6.drew b 3 (zv [])/\zy w6.drew b 4 (zv [])/\zy w6.drew b 5 a:=⟨h2,U,m1,m2,P,Q,m5⟩;refine PG (λW':z7=>zy W' p 2 (.slice xa (no:Nat) R)/\zy W' b 0 (.int .u8 112)/\zy W' b 1 (zv [])/\zy W' b 2 (zv nm)/\zy W' b 3 (zv [])/\zy W' b 4 (zv [])/\zy W' b 5 a) 10 [0,1,2,3,4,5] 5 jq ?_;refine UG 6 (λK hK=>?_);go_simp;obtain⟨F,W,l,hs7,lD⟩:=Z4 w6 [.int .u8 112,zv [],zv nm,zv [],zv [],.int .i64 a] 85;rw[<-W];clear W;have f:zy F p 2 (.slice xa (no:Nat) R)/\zy F b 0 (.int .u8 112)/\zy F b 1 (zv [])/\zy F b 2 (zv nm)/\zy F b 3 (zv [])/\zy F b 4 (zv [])/\zy F b 5 a:=⟨(l.cell (p:=(zX p 2)) M3).trans h2,(l.cell (p:=(zX b 0)) c).trans U,(l.cell (p:=(zX b 1)) c).trans m1,(l.cell (p:=(zX b 2)) c).trans m2,(l.cell (p:=(zX b 3)) c).trans P,(l.cell (p:=(zX b 4)) c).trans Q,(l.cell (p:=(zX b 5)) c).trans m5⟩;refine hK.out _ _ f λ_=>?_;clear hK K jq;have A:=Z l;have HC7:=Z lD;clear l lD;refine UG 7 (λK hK=>?_);rw[zl (by rfl)];refine J0 km _ _ rfl (p+1) _ no (vU X6.out) rfl (vx H2.o A.o) ⟨(w6:Nat),0,none⟩ 1 1 (xl ⟨112,[],nm,[],[],a⟩) rfl rfl HC7.o ?x1 J J ?x2
  case x1 =>
   exact D1
  intro v' w' ho B hw;have lB:some p≠(yI xa no R).ownBlock:=λe=>yO _ (H2.o.lt p e.symm).1
  have E:zy w' p 2 (.slice xa (no:Nat) R)/\zy w' b 0 (.int .u8 112)/\zy w' b 1 (zv [])/\zy w' b 2 (zv nm)/\zy w' b 3 (zv [])/\zy w' b 4 (zv [])/\zy w' b 5 a:=⟨B.cell f.1 lB,B.cell f.2.1 r.o,B.cell f.2.2.1 r.o,B.cell f.2.2.2.1 r.o,B.cell f.2.2.2.2.1 r.o,B.cell f.2.2.2.2.2.1 r.o,B.cell f.2.2.2.2.2.2 r.o⟩;have C:=y.o.at_.Z6 A.o B (λg e=>(H2.o.lt g e).1);have z2:=C.z 2;have U2:=y.o.at_.GX (m:=⟨112,[],nm,[],[],a⟩) Qv LQ H3K.o H3.o DB A.o Qq B hw HLO.o;obtain⟨na,nc,rfl⟩:=zD ho;have HN:=Z U2;have s2:=E.1;refine hK.out _ _ E λ_=>?_;clear hK K U2 ho B hw C lB U m1 m2 P Q m5 h2 f;refine qY [8,9] 1 rfl fy yy yy E ?_;(iterate 2 ((first|refine ty ?_|refine tn ?_);try simp only[pl]))
  refine yA ?_;refine N3 10 (λK hK=>?_);go_simp;refine hK.out _ _ ?_;clear hK K;refine N4 ?_ _;go_wp2;refine zU (v := .tuple #[]) ?_ rfl ?_
  .exact D8
  rw[TS Rn.o HKK.o mg.o HNM.o lj.o HX4.o HE.o HK.o HC.o HX6.o];exact⟨rfl,HN.o.1,HW6.o.trans HN.o.2⟩
 rw[decide_eq_false hc];have hc:=Mp.1 hc;have Fv:k<s.size:=by
  apply zi;intro hn;rw[dJ hn]at hc;cases hc
 have HC:=Z hc;clear hc;have c1:=HB5.o.at_.c1;have z1:=HB5.o.at_.z 1;rw[HK.o]at c1;obtain⟨L,hL⟩:∃K,k+1=K:=⟨_,rfl⟩;have q2:(k:Int)+1=(L:Int):=J;have HLL:=Z hL;have hLs:L<=s.size:=J;have Wl:=Z (HB5.o.Y0 L hLs);have xay:=Z (xZ HW5.o (b:=p) (j:=1) (u := .int .i64 L) (X _));clear hL;go_wp2_with fail;refine(qe p s _ _ Wl.o.at_).mono ?_;rintro e w7 ⟨rfl,hs7,hf7⟩;obtain⟨X7,hX7⟩:∃Yk,yv s { X4 with i:=L }=Yk:=⟨_,rfl⟩;rw[hX7]at hs7;have HX7:=Z hX7;have A:=Z (Wl.o.step hs7 hf7);have HW7:=Z (xay.o.trans (hf7.below Wl.o.at_));clear hs7 hf7 hX7;try dsimp only
 have HI7:=Z (show kE x X7 from HX7.o▸HI4.o.trans ⟨rfl,rfl⟩);clear c1 z1;have c1:=A.o.at_.c1;obtain⟨i3,hi3⟩:∃k,X7.i=k:=⟨_,rfl⟩;rw[hi3]at c1;have HI3:=Z hi3;clear hi3;go_wp2_with fail;refine(G8 p s X7 w7 A.o.at_).mono ?_;rintro e w8 ⟨rfl,hs8,hf8⟩;try dsimp only
 rw[HI3.o];obtain⟨how,yv3⟩:∃t,jy s i3=t:=⟨_,rfl⟩;rw[yv3];have HHW:=Z yv3;obtain⟨X8,hX8⟩:∃Yk,uM s X7=Yk:=⟨_,rfl⟩;rw[hX8]at hs8;have HX8:=Z hX8;have hb8:=A.o.step hs8 hf8;have hw8:=HW7.o.trans (hf8.below A.o.at_);have HI8:=Z (show kE x X8 from HI7.o.trans (HX8.o▸ZJ s X7));have z3:=hb8.bz.free 3;have P:=hb8.bz.cell 3;simp only[xl,yL,yD]at P;have HB8:=Z hb8;have HW8:=Z hw8;clear hb8 hw8 hs8 hf8 hX8 yv3 c1;go_upto_region 13 with fail
 have hb9:Kt p s X8 b ⟨112,[],nm,how,[],a⟩ (w8.setCell (zX b 3) (zv how)):=HB8.o.set 3 (zv how) rfl;have hw9:yX p w (w8.setCell (zX b 3) (zv how)):=xZ HW8.o (xx hpb);obtain⟨w9,hW9⟩:∃Xk,w8.setCell (zX b 3) (zv how)=Xk:=⟨_,rfl⟩;rw[hW9]at hb9 hw9;try rw[hW9]
 have HB9:=Z hb9;have HW9:=Z hw9;clear hW9 hb9 hw9;clear z3 P;have P:=HB9.o.bz.cell 3;simp only[xl,yL,yD]at P;have Cm:=HB9.o.bz.lt;go_wp2_with fail;obtain⟨W10,ynx,zak,ynv⟩:=TT w9 jH 9 zj;rw[show w9.alloc (Obj.cells #[bJ { data:=#[110,117,109,98,101,114] },bJ { data:=#[112,108,117,114,97,108] },bJ { data:=#[115,101,108,101,99,116,111,114,100,105,110,97,108] },bJ { data:=#[115,101,108,101,99,116] }] 9)=W10 from ynx.symm];have L8:=Z ynv;have I:=Z (HB9.o.step (HB9.o.at_.below zak) (bD.of HB9.o.at_ zak));have ynu:=Z (HW9.o.trans (zak.mono (xx HB9.o.at_.lt)));clear ynx zak ynv P Cm;refine(Hy _ jH ⟨how.toArray⟩ W10 L8.o zj).mono ?_;rintro e w11 ⟨rfl,rfl⟩;obtain⟨kn,Qn⟩:∃q,qf jH how=q:=⟨_,rfl⟩;rw[show qf jH (⟨how.toArray⟩:ByteArray).data.toList=kn from Qn];have hkr : -1<=kn/\kn<4:=by rw[<-Qn];exact iK how
 have IH:=Z Qn;clear Qn;by_cases gC:kn<0
 case pos =>
  have j1:decide (kn<0)=true:=zV;go_wp2_with fail;refine(jG p s X8 3 i3 W10 I.o.at_).mono ?_;rintro e w12 ⟨rfl,Dh,yv4⟩;obtain⟨X12,yv5⟩:∃Yk,yt X8 3 i3=Yk:=⟨_,rfl⟩;rw[yv5]at Dh;have xag:=Z yv5;have xaf:=Z (I.o.step Dh yv4);have xad:=Z (ynu.o.trans (yv4.below I.o.at_));clear Dh yv4 yv5;try dsimp only
  go_wp2;refine zU (v := .tuple #[]) ?_ rfl ?_
  .exact D8
  rw[QH Rn.o HKK.o mg.o HNM.o lj.o HX4.o HE.o HK.o HC.o HLL.o HX7.o,iQ HI3.o HHW.o IH.o gC,HX8.o,xag.o];exact⟨rfl,xaf.o.at_,xad.o⟩
 have j1:decide (kn<0)=false:=zV;go_wp2_with fail;refine(qe p s X8 W10 I.o.at_).mono ?_;rintro e w13 ⟨rfl,yv6,yv7⟩;obtain⟨G,yv8⟩:∃Yk,yv s X8=Yk:=⟨_,rfl⟩;rw[yv8]at yv6;have yv9:=Z yv8;have M:=Z (I.o.step yv6 yv7);have ynq:=Z (ynu.o.trans (yv7.below I.o.at_));clear yv6 yv7 yv8;try dsimp only
 have ynk:=Z (show kE x G from yv9.o▸HI8.o.trans (bP s X8));have z0:=M.o.bz.free 0;have U:=M.o.bz.cell 0;simp only[xl,yL,yD]at U;by_cases AN:kn=0
 case pos =>
  have j2:(kn==0)=true:=by simp[AN]
  have TZ:=Z AN;clear AN;go_upto_region 19 with fail
  have yvz:Kt p s G b ⟨110,[],nm,how,[],a⟩ (w13.setCell (zX b 0) (.int .u8 110)):=M.o.set 0 (.int .u8 110) rfl;have yvy:yX p w (w13.setCell (zX b 0) (.int .u8 110)):=xZ ynq.o (xx hpb);obtain⟨w14,yvx⟩:∃Xk,w13.setCell (zX b 0) (.int .u8 110)=Xk:=⟨_,rfl⟩;rw[yvx]at yvz yvy;try rw[yvx]
  have yvv:=Z yvz;have xab:=Z yvy;clear yvx yvz yvy;clear z0 U;go_wp2_with fail;refine(XB p s G 125 _ yvv.o.at_).mono ?_;rintro e T ⟨rfl,yvu,yvq⟩;obtain⟨X15,yvk⟩:∃Yk,xE s G 125=Yk:=⟨_,rfl⟩;rw[yvk]at yvu;have ynj:=Z yvk;have xc0:=Z (yvv.o.step yvu yvq);have xc1:=Z (xab.o.trans (yvq.below yvv.o.at_));clear yvu yvq yvk;try dsimp only
  have yng:=ynk.o.trans (show kE G X15 from ynj.o▸di s G 125);have C7:X15.out.length+1<=1000000:=by rw[yng.1];omega
  clear yng;have y:=xc0;go_wp2_with fail;obtain⟨v2,v3,h2,D,h3,V,hd⟩:=y.o.at_.rows;obtain⟨xa,R,rfl⟩:=zD D;obtain⟨no,H⟩:=zo X15.out.length;have MO:=Z H;have HLO:=Z C7;rw[H]at h2 D C7;have eT:some b≠(yI xa no R).ownBlock:=λe=>y.o.iV _ h2 e.symm
  have r:=Z eT;have U:=y.o.bz.cell 0;have m1:=y.o.bz.cell 1;have m2:=y.o.bz.cell 2;have P:=y.o.bz.cell 3;have Q:=y.o.bz.cell 4;have m5:=y.o.bz.cell 5;simp only[xl,yL,yD]at U m1 m2 P Q m5;obtain⟨H2,H3,H3K,HD⟩:=hdd D V h3 hd;clear D V hd H h3 eT;have M3:=y.o.at_.lt;have c:=y.o.bz.lt;have jq:zy T.drew p 2 (.slice xa (no:Nat) R)/\zy T.drew b 0 (.int .u8 110)/\zy T.drew b 1 (zv [])/\zy T.drew b 2 (zv nm)/\zy T.drew b 3 (zv how)/\zy T.drew b 4 (zv [])/\zy T.drew b 5 a:=⟨h2,U,m1,m2,P,Q,m5⟩;refine PG (λW':z7=>zy W' p 2 (.slice xa (no:Nat) R)/\zy W' b 0 (.int .u8 110)/\zy W' b 1 (zv [])/\zy W' b 2 (zv nm)/\zy W' b 3 (zv how)/\zy W' b 4 (zv [])/\zy W' b 5 a) 10 [0,1,2,3,4,5] 5 jq ?_;refine UG 6 (λK hK=>?_);go_simp;obtain⟨F,W,l,hs7,lD⟩:=Z4 T [.int .u8 110,zv [],zv nm,zv how,zv [],.int .i64 a] 85;rw[<-W];clear W;have f:zy F p 2 (.slice xa (no:Nat) R)/\zy F b 0 (.int .u8 110)/\zy F b 1 (zv [])/\zy F b 2 (zv nm)/\zy F b 3 (zv how)/\zy F b 4 (zv [])/\zy F b 5 a:=⟨(l.cell (p:=(zX p 2)) M3).trans h2,(l.cell (p:=(zX b 0)) c).trans U,(l.cell (p:=(zX b 1)) c).trans m1,(l.cell (p:=(zX b 2)) c).trans m2,(l.cell (p:=(zX b 3)) c).trans P,(l.cell (p:=(zX b 4)) c).trans Q,(l.cell (p:=(zX b 5)) c).trans m5⟩;refine hK.out _ _ f λ_=>?_;clear hK K jq;have A:=Z l;have HC7:=Z lD;clear l lD;refine UG 7 (λK hK=>?_);rw[zl (by rfl)];refine J0 km _ _ rfl (p+1) _ no (vU X15.out) rfl (vx H2.o A.o) ⟨(T:Nat),0,none⟩ 1 1 (xl ⟨110,[],nm,how,[],a⟩) rfl rfl HC7.o ?y1 J J ?y2
  case y1 =>
   exact D1
  intro v' w' ho B hw;have lB:some p≠(yI xa no R).ownBlock:=λe=>yO _ (H2.o.lt p e.symm).1
  have E:zy w' p 2 (.slice xa (no:Nat) R)/\zy w' b 0 (.int .u8 110)/\zy w' b 1 (zv [])/\zy w' b 2 (zv nm)/\zy w' b 3 (zv how)/\zy w' b 4 (zv [])/\zy w' b 5 a:=⟨B.cell f.1 lB,B.cell f.2.1 r.o,B.cell f.2.2.1 r.o,B.cell f.2.2.2.1 r.o,B.cell f.2.2.2.2.1 r.o,B.cell f.2.2.2.2.2.1 r.o,B.cell f.2.2.2.2.2.2 r.o⟩;have C:=y.o.at_.Z6 A.o B (λg e=>(H2.o.lt g e).1);have z2:=C.z 2;have U2:=y.o.at_.GX (m:=⟨110,[],nm,how,[],a⟩) Qv LQ H3K.o H3.o DB A.o Qq B hw HLO.o;obtain⟨na,nc,rfl⟩:=zD ho;have HN:=Z U2;have s2:=E.1;refine hK.out _ _ E λ_=>?_;clear hK K U2 ho B hw C lB U m1 m2 P Q m5 h2 f;refine qY [8,9] 1 rfl fy yy yy E ?_;(iterate 2 ((first|refine ty ?_|refine tn ?_);try simp only[pl]))
  refine yA ?_;refine N3 10 (λK hK=>?_);go_simp;refine hK.out _ _ ?_;clear hK K;refine N4 ?_ _;go_wp2;refine zU (v := .tuple #[]) ?_ rfl ?_
  .exact D8
  rw[QH Rn.o HKK.o mg.o HNM.o lj.o HX4.o HE.o HK.o HC.o HLL.o HX7.o,zxg HI3.o HHW.o IH.o TZ.o HX8.o yv9.o ynj.o];exact⟨rfl,HN.o.1,xc1.o.trans HN.o.2⟩
 have j2:(kn==0)=false:=zV;have hkp:0<kn:=J;have z4:=M.o.bz.free 4;have Q:=M.o.bz.cell 4;simp only[xl,yL,yD]at Q;go_upto_region 23 with fail
 have yvj:Kt p s G b ⟨40,[],nm,how,[48],a⟩ ((w13.setCell (zX b 0) (.int .u8 40)).setCell (zX b 4) (zv [48])):=(M.o.set (m':=⟨40,[],nm,how,[],a⟩) 0 (.int .u8 40) rfl).set 4 (zv [48]) rfl;have yvg:yX p w ((w13.setCell (zX b 0) (.int .u8 40)).setCell (zX b 4) (zv [48])):=xZ (xZ ynq.o (xx hpb)) (xx hpb);obtain⟨w16,yvf⟩:∃Xk,(w13.setCell (zX b 0) (.int .u8 40)).setCell (zX b 4) (zv [48])=Xk:=⟨_,rfl⟩;rw[yvf]at yvj yvg;try rw[yvf]
 have yvd:=Z yvj;have xc2:=Z yvg;clear yvf yvj yvg;clear z0 U z4 Q;go_wp2_with fail;refine(XB p s G 44 _ yvd.o.at_).mono ?_;rintro e w17 ⟨rfl,yvb,yu0⟩;obtain⟨X17,yu1⟩:∃Yk,xE s G 44=Yk:=⟨_,rfl⟩;rw[yu1]at yvb;have ynf:=Z yu1;have yu2:=Z (yvd.o.step yvb yu0);have xc3:=Z (xc2.o.trans (yu0.below yvd.o.at_));clear yvb yu0 yu1;try dsimp only
 go_wp2_with fail;refine(qe p s X17 _ yu2.o.at_).mono ?_;rintro e w18 ⟨rfl,yu3,yu4⟩;obtain⟨S,yu5⟩:∃Yk,yv s X17=Yk:=⟨_,rfl⟩;rw[yu5]at yu3;have ynd:=Z yu5;have zaj:=Z (yu2.o.step yu3 yu4);have xc4:=Z (xc3.o.trans (yu4.below yu2.o.at_));clear yu3 yu4 yu5;try dsimp only
 have xc5:=Z (show kE x S from ynd.o▸(ynk.o.trans (show kE G X17 from ynf.o▸di s G 44)).trans (bP s X17));obtain⟨num,N⟩:∃n,decide (kn<3)=n:=⟨_,rfl⟩;have CV:=Z N;obtain⟨O,hk6⟩:∃k,S.i=k:=⟨_,rfl⟩;have HK6:=Z hk6;have c0:=zaj.o.at_.c0;have c1:=zaj.o.at_.c1;have xc7:=zaj.o.at_.here;rw[hk6]at c1 xc7;clear hk6;go_upto_region 25 with fail
 have jq:zy w18.drew p 0 (.string s)/\zy w18.drew p 1 O:=⟨c0,c1⟩;have zag:=Z zaj.o.drew;have HDW:=Z xc4.o.drew;go_cut [142] (λv wc=>v = .bool (num && dm s O)/\Kt p s S b ⟨40,[],nm,how,[48],a⟩ wc/\yX p w wc)
 case first =>
  by_cases h3:kn<3
  .have j3:decide (kn<3)=true:=(by simp;omega);rw[j3]at N;subst N;by_cases h7:O+7<=s.size
   .obtain⟨dl,uw⟩:∃d:Nat,s.size - O=d:=⟨_,rfl⟩;have e1:(s.size:Int) - (O:Int)=(dl:Int):=(by omega);have e2:yU.wrap (dl:Int)=(dl:Int):=qK;have e3:decide ((7:Int)<=(dl:Int))=true:=zV;have e3n:decide (7<=dl)=true:=zV;obtain⟨kk,NV⟩:∃d:Nat,O+7=d:=⟨_,rfl⟩;have e4:(O:Int)+7=(kk:Int):=J;have e5:yU.wrap (kk:Int)=(kk:Int):=qK;have e6:kk<=s.size:=J;have e7:O<=kk:=J;have HQ:=Z (P5 NV e6);clear NV uw;go_wp2_with fail;refine bW (λW':z7=>zy W' p 0 (.string s)/\zy W' p 1 O) [0,1,2,3,4,5,6,7,8,9,10,11,12,13,14,15,16,17,18,19,20,21,22,23,24,25,26,27,28,29,30,31] 0 jq ?_;refine fR ?_ _;go_wp2_with fail;go_meet
    case rel =>
     exact⟨congrArg UH (HQ.o.trans (ze8 _).symm),zag.o,HDW.o⟩
   .have e3:decide ((7:Int)<=(s.size:Int) - (O:Int))=false:=(by simp;omega);have e3n:¬(7:Int)<=(s.size:Int) - (O:Int):=J;obtain⟨dl,uw⟩:∃d:Nat,s.size - O=d:=⟨_,rfl⟩;have e1:(s.size:Int) - (O:Int)=(dl:Int):=J;have e2:yU.wrap (dl:Int)=(dl:Int):=qK;have e3:decide ((7:Int)<=(dl:Int))=false:=zV;have e3n:decide (7<=dl)=false:=zV;have HQ:=Z (show dm s O=false from Gi J);clear uw;go_wp2_with fail;refine bW (λW':z7=>zy W' p 0 (.string s)/\zy W' p 1 O) [0,1,2,3,4,5,6,7,8,9,10,11,12,13,14,15,16,17,18,19,20,21,22,23,24,25,26,27,28,29,30,31] 0 jq ?_;refine fR ?_ _;go_wp2_with fail;go_meet
    case rel=>exact⟨by rw[HQ.o];rfl,zag.o,HDW.o⟩
  .have j3:decide (kn<3)=false:=(by simp;omega);rw[j3]at N;subst N;go_wp2_with fail;refine bW (λW':z7=>zy W' p 0 (.string s)/\zy W' p 1 O) [0,1,2,3,4,5,6,7,8,9,10,11,12,13,14,15,16,17,18,19,20,21,22,23,24,25,26,27,28,29,30,31] 0 jq ?_;refine fR ?_ _;go_wp2_with fail;go_meet
   case rel=>exact⟨rfl,zag.o,HDW.o⟩
 obtain⟨rfl,ynb,yo0⟩:=hcut;have zaf:=Z ynb;have yo1:=Z yo0;clear ynb yo0 zag HDW jq c0 c1 N;go_upto_if 142 with fail
 go_cut [] (λwc=>Kt p s (FV s num S) b ⟨40,[],nm,how,P6 s num S,a⟩ wc/\yX p w wc)
 case first =>
  obtain⟨e,he⟩:=zo ((num && dm s O));rw[he];cases e with
  |false =>
   have HQ:=Z (yv2 (num:=num) HK6.o he);clear he;go_wp2_with fail;go_meet
   case rel =>
    rw[HQ.o.1,HQ.o.2];exact⟨zaf.o,yo1.o⟩
  |true =>
   have h7:O+7<=s.size:=by
    apply zi;intro hn;rw[Gi J,Bool.and_false]at he;cases he
   have c1:=zaf.o.at_.c1;have z1:=zaf.o.at_.z 1;rw[HK6.o]at c1;obtain⟨L7,hL7⟩:∃K,O+7=K:=⟨_,rfl⟩;have q7:(O:Int)+7=(L7:Int):=J;have xc8:L7<=s.size:=J;have HQ:=Z (zau (num:=num) HK6.o he hL7);have yu6:=Z (zaf.o.Y0 L7 xc8);have yo2:=Z (xZ yo1.o (b:=p) (j:=1) (u := .int .i64 L7) (X _));clear hL7 he;go_wp2_with fail;refine(qe p s _ _ yu6.o.at_).mono ?_;rintro e w20 ⟨rfl,yu7,yu8⟩;obtain⟨X20,yu9⟩:∃Yk,yv s { S with i:=L7 }=Yk:=⟨_,rfl⟩;rw[yu9]at yu7;have yo3:=Z yu9;have yuz:=Z (yu6.o.step yu7 yu8);have xcz:=Z (yo2.o.trans (yu8.below yu6.o.at_));clear yu7 yu8 yu9;try dsimp only
   clear c1 z1;go_wp2_with fail;refine(BP p s X20 w20 yuz.o.at_).mono ?_;rintro e w21 ⟨rfl,yuy,yux⟩;try dsimp only
   obtain⟨ot,hot⟩:∃t,kl s X20.i=t:=⟨_,rfl⟩;rw[hot];have HOT:=Z hot;obtain⟨X21,yuv⟩:∃Yk,um s X20=Yk:=⟨_,rfl⟩;rw[yuv]at yuy;have xcy:=Z yuv;have zad:=yuz.o.step yuy yux;have yo4:=xcz.o.trans (yux.below yuz.o.at_);have z4:=zad.bz.free 4;have Q:=zad.bz.cell 4;simp only[xl,yL,yD]at Q;have yuu:=Z (zad.set (m':=⟨40,[],nm,how,ot,a⟩) 4 (zv ot) rfl);have xcx:=Z (xZ yo4 (b:=b) (j:=4) (u:=zv ot) (xx hpb));clear zad yo4 yuy yux yuv hot;go_wp2_with fail;refine(qe p s X21 _ yuu.o.at_).mono ?_;rintro e w23 ⟨rfl,yuq,yuk⟩;obtain⟨X23,yuj⟩:∃Yk,yv s X21=Yk:=⟨_,rfl⟩;rw[yuj]at yuq;have xcv:=Z yuj;have xcu:=Z (yuu.o.step yuq yuk);have xcq:=Z (xcx.o.trans (yuk.below yuu.o.at_));clear yuq yuk yuj;try dsimp only
   clear z4 Q;go_wp2_with fail;go_meet
   case rel =>
    rw[HQ.o.1 yo3.o xcy.o xcv.o,HQ.o.2 yo3.o HOT.o];exact⟨xcu.o,xcq.o⟩
 obtain⟨yug,xck⟩:=hcut;obtain⟨X24,zab⟩:∃Xk,FV s num S=Xk:=⟨_,rfl⟩;obtain⟨off,yud⟩:∃Xk,P6 s num S=Xk:=⟨_,rfl⟩;rw[zab,yud]at yug;obtain⟨xcj,xcg,y,yub⟩:=hdd zab yud yug (show kE x X24 from zab▸xc5.o.trans (Hv s num S));have C7:X24.out.length+1<=1000000:=by rw[yub.o.1];omega
 clear yug zab yud;go_wp2_with fail;obtain⟨v2,v3,h2,D,h3,V,hd⟩:=y.o.at_.rows;obtain⟨xa,R,rfl⟩:=zD D;obtain⟨no,H⟩:=zo X24.out.length;have MO:=Z H;have HLO:=Z C7;rw[H]at h2 D C7;have eT:some b≠(yI xa no R).ownBlock:=λe=>y.o.iV _ h2 e.symm
 have r:=Z eT;have U:=y.o.bz.cell 0;have m1:=y.o.bz.cell 1;have m2:=y.o.bz.cell 2;have P:=y.o.bz.cell 3;have Q:=y.o.bz.cell 4;have m5:=y.o.bz.cell 5;simp only[xl,yL,yD]at U m1 m2 P Q m5;obtain⟨H2,H3,H3K,HD⟩:=hdd D V h3 hd;clear D V hd H h3 eT;have M3:=y.o.at_.lt;have c:=y.o.bz.lt;have jq:zy wc.drew p 2 (.slice xa (no:Nat) R)/\zy wc.drew b 0 (.int .u8 40)/\zy wc.drew b 1 (zv [])/\zy wc.drew b 2 (zv nm)/\zy wc.drew b 3 (zv how)/\zy wc.drew b 4 (zv off)/\zy wc.drew b 5 a:=⟨h2,U,m1,m2,P,Q,m5⟩;refine PG (λW':z7=>zy W' p 2 (.slice xa (no:Nat) R)/\zy W' b 0 (.int .u8 40)/\zy W' b 1 (zv [])/\zy W' b 2 (zv nm)/\zy W' b 3 (zv how)/\zy W' b 4 (zv off)/\zy W' b 5 a) 10 [0,1,2,3,4,5] 5 jq ?_;refine UG 6 (λK hK=>?_);go_simp;obtain⟨F,W,l,hs7,lD⟩:=Z4 wc [.int .u8 40,zv [],zv nm,zv how,zv off,.int .i64 a] 85;rw[<-W];clear W;have f:zy F p 2 (.slice xa (no:Nat) R)/\zy F b 0 (.int .u8 40)/\zy F b 1 (zv [])/\zy F b 2 (zv nm)/\zy F b 3 (zv how)/\zy F b 4 (zv off)/\zy F b 5 a:=⟨(l.cell (p:=(zX p 2)) M3).trans h2,(l.cell (p:=(zX b 0)) c).trans U,(l.cell (p:=(zX b 1)) c).trans m1,(l.cell (p:=(zX b 2)) c).trans m2,(l.cell (p:=(zX b 3)) c).trans P,(l.cell (p:=(zX b 4)) c).trans Q,(l.cell (p:=(zX b 5)) c).trans m5⟩;refine hK.out _ _ f λ_=>?_;clear hK K jq;have A:=Z l;have HC7:=Z lD;clear l lD;refine UG 7 (λK hK=>?_);rw[zl (by rfl)];refine J0 km _ _ rfl (p+1) _ no (vU X24.out) rfl (vx H2.o A.o) ⟨(wc:Nat),0,none⟩ 1 1 (xl ⟨40,[],nm,how,off,a⟩) rfl rfl HC7.o ?u1 J J ?u2
 case u1 =>
  exact D1
 intro v' w' ho B hw;have lB:some p≠(yI xa no R).ownBlock:=λe=>yO _ (H2.o.lt p e.symm).1
 have E:zy w' p 2 (.slice xa (no:Nat) R)/\zy w' b 0 (.int .u8 40)/\zy w' b 1 (zv [])/\zy w' b 2 (zv nm)/\zy w' b 3 (zv how)/\zy w' b 4 (zv off)/\zy w' b 5 a:=⟨B.cell f.1 lB,B.cell f.2.1 r.o,B.cell f.2.2.1 r.o,B.cell f.2.2.2.1 r.o,B.cell f.2.2.2.2.1 r.o,B.cell f.2.2.2.2.2.1 r.o,B.cell f.2.2.2.2.2.2 r.o⟩;have C:=y.o.at_.Z6 A.o B (λg e=>(H2.o.lt g e).1);have z2:=C.z 2;have U2:=y.o.at_.GX (m:=⟨40,[],nm,how,off,a⟩) Qv LQ H3K.o H3.o DB A.o Qq B hw HLO.o;obtain⟨na,nc,rfl⟩:=zD ho;have HN:=Z U2;have s2:=E.1;refine hK.out _ _ E λ_=>?_;clear hK K U2 ho B hw C lB U m1 m2 P Q m5 h2 f;refine qY [8,9] 1 rfl fy yy yy E ?_;(iterate 2 ((first|refine ty ?_|refine tn ?_);try simp only[pl]))
 refine yA ?_;refine N3 10 (λK hK=>?_);go_simp;refine hK.out _ _ ?_;clear hK K;refine N4 ?_ _;obtain⟨Zk,hZ⟩:∃Zk,({ X24 with out:=X24.out++[⟨40,[],nm,how,off,a⟩] }:Sc)=Zk:=⟨_,rfl⟩;rw[hZ]at HN;have HZ:=Z hZ;have N7:Zk.out.length+1<=1000000:=by rw[<-hZ];simp[yub.o.1];omega
 have Vk:Zk.uo.length+1<=1000000:=by rw[<-hZ];show X24.uo.length+1<=1000000;rw[yub.o.2];exact MT
 obtain⟨w26,yq0⟩:∃Xk,(w'.setCell (zX p 2) (.slice na (no+1) nc))=Xk:=⟨_,rfl⟩;rw[yq0]at HN;try rw[yq0]
 have jn:=CV.o;clear hZ yq0 z2 s2 E;go_wp2_with fail;refine(GY p s Zk num w26 HN.o.1 N7 Vk).mono ?_;rintro e w27 ⟨rfl,yo5,yo6⟩;have xcf:=Z yo5;have xcd:=Z ((xck.trans HN.o.2).trans yo6);clear yo5 yo6;go_wp2;refine zU (v := .tuple #[]) ?_ rfl ?_
 .exact D8
 rw[QH Rn.o HKK.o mg.o HNM.o lj.o HX4.o HE.o HK.o HC.o HLL.o HX7.o,zaq HI3.o HHW.o IH.o hkp HX8.o yv9.o ynf.o ynd.o,CV.o,zxj xcg.o xcj.o HZ.o];exact⟨rfl,xcf.o,xcd.o⟩
structure PN(x:Sc):Prop where
 n:x.out.length<=2*x.i
 o:x.uo.length<=x.out.length
 m:∀m∈x.out,m.kind<256/\m.text.length<=x.i
def Gb(x:Sc)(t:Wd):(kx x t).i=x.i/\(kx x t).uo=x.uo/\(kx x t).err=x.err/\(kx x t).place=x.place:=by
 unfold kx;split
 .exact⟨rfl,rfl,rfl,rfl⟩
 .split
  .exact⟨rfl,rfl,rfl,rfl⟩
  .split<;>exact⟨rfl,rfl,rfl,rfl⟩
def XC(x:Sc)(t:Wd):(kx x t).out.length<=x.out.length+1/\x.out.length<=(kx x t).out.length:=by
 unfold kx;split
 .exact⟨J,J⟩
 .split
  .simp
  .next m hm =>
   split
   .have a:x.out≠[]:=λe=>by rw[e]at hm;cases hm
    have:=xI.2 a;simp;omega
   .simp
def KS(x:Sc)(t:Wd)(i:Nat)(h:∀m∈x.out,m.kind<256/\m.text.length<=i):∀m∈(kx x t).out,m.kind<256/\m.text.length<=i+t.length:=by
 intro m hm;unfold kx at hm;split at hm
 .have:=h m hm;exact⟨this.1,J⟩
 .split at hm
  .exact ph
  .next k b =>
   have a:=List.mem_of_getLast? b;split at hm
   .simp only[xY,uG]at hm;rcases hm with hm|rfl
    .have:=h m (List.dropLast_subset _ hm);exact⟨this.1,J⟩
    .have:=h k a;exact⟨this.1,zV⟩
   .exact ph
def gJ:Nat->Wd->Sc->Sc
 | 0,_,x=>x
 |n+1,r,x =>
  let y:Sc:={ kx x (r.take (r.idxOf 39))with i:=x.i+(r.take (r.idxOf 39)).length }
  if r.idxOf 39<r.length then
   let b:=r.drop (r.idxOf 39+1)
   if b.head? = some 39 then gJ n b.tail { kx { y with i:=y.i+1 } [39]with i:=y.i+2 }else { y with i:=y.i+1 }
  else y
def ZG(r:Wd)(num:Bool):Bool:=match r with |[]=>true|c::_=>c !=39 && (c !=123 && (c !=125 && (c !=35 || !num)))
def Mf(s:ByteArray)(x:Sc)(num:Bool):Sc :=
 let r:=s.data.toList.drop (x.i+1)
 if ZG r num=true then kx { x with i:=x.i+1 } [39]
 else if r.head? = some 39 then kx { x with i:=x.i+2 } [39]
 else gJ (r.length+1) r { x with i:=x.i+1 }
section
variable {s:ByteArray} {x y z:Sc} {a j:Nat} {num:Bool} {r b:Wd}
def iJ(ha:x.i=a)(b:a+1=j)(hr:s.data.toList.drop j=r)(h:ZG r num=true):Mf s x num=kx { x with i:=j } [39]:=by
 subst ha b hr;exact zl h
def zxf{l:Nat}(ha:x.i=a)(b:a+1=j)(c:j+1=l)(hr:s.data.toList.drop j=r)(h:ZG r num=false)(h2:r.head? = some 39):Mf s x num=kx { x with i:=l } [39]:=by
 subst ha b hr c;exact(zL (by rw[h];simp)).trans (zl h2)
def TA(ha:x.i=a)(b:a+1=j)(hr:s.data.toList.drop j=r)(h:ZG r num=false)(h2:¬r.head? = some 39):Mf s x num=gJ (r.length+1) r { x with i:=j }:=by
 subst ha b hr;exact(zL (by rw[h];simp)).trans (zL h2)
def Ta{i:Nat}(hy:kx x (r.take (r.idxOf 39))=y)(h:¬r.idxOf 39<r.length)(hi:x.i+(r.take (r.idxOf 39)).length=i):gJ (n+1) r x={ y with i:=i }:=by
 subst hy hi;exact zL h
def Gl{i l:Nat}(hy:kx x (r.take (r.idxOf 39))=y)(h:r.idxOf 39<r.length)(hi:x.i+(r.take (r.idxOf 39)).length=i)(a:i+1=l)(hb:r.drop (r.idxOf 39+1)=b)(h2:¬b.head? = some 39):gJ (n+1) r x={ y with i:=l }:=by
 subst hy hi a hb;exact(zl h).trans (zL h2)
def P7{i l:Nat}(hy:kx x (r.take (r.idxOf 39))=y)(h:r.idxOf 39<r.length)(hi:x.i+(r.take (r.idxOf 39)).length=i)(c:i+1=l)(a:l+1=k)(hb:r.drop (r.idxOf 39+1)=b)(h2:b.head? = some 39)(d:kx { y with i:=l } [39]=z) :
  gJ (n+1) r x=gJ n b.tail { z with i:=k }:=by
 subst hy hi c hb a d;exact(zl h).trans (zl h2)
end
def Md{x:Sc}{t:Wd}{i:Nat}(h:∀m∈x.out,m.kind<256/\m.text.length<=i)(hi:i<=1000000)(a:t.length<=1000000):(∀m∈x.out,m.kind<256)/\∀m∈x.out,m.text.length+t.length<=1000000000 :=
 ⟨λm hm=>(h m hm).1,λm hm=>by have:=(h m hm).2;omega⟩
structure zxd(R:ByteArray)(r:Wd):Prop where
 list:R.toList=r
 size:R.size=r.length
 head:∀{c:UInt8} {t:Wd} (h:0<R.size),r=c::t->R[0]=c
def yq1{R:ByteArray}{r:Wd}(h:(⟨r.toArray⟩:ByteArray)=R):zxd R r:=by
 subst h;refine⟨by rw[Fa],rfl,?_⟩;intro c t h e;subst e;rfl
def zxd.tail{R:ByteArray}{c:UInt8}{t:Wd}(h:zxd R (c::t)):R.extract 1 R.size=⟨t.toArray⟩:=by
 rw[ub,<-Fa,h.list];rfl
structure xcb(p:Nat)(s:ByteArray)(w:z7)(F Xk:Sc)(r:Wd)(n:Nat)(wr:z7):Prop where
 at_:yT p s Xk wr
 below:yX p w wr
 rest:s.data.toList.drop Xk.i=r
 out:Xk.out.length+1<=2*Xk.i
 uo:Xk.uo.length<=Xk.out.length
 m:∀m∈Xk.out,m.kind<256/\m.text.length<=Xk.i
 fuel:r.length<n
 eq:gJ n r Xk=F
def zxb(p:Nat)(s:ByteArray)(w:z7)(F:Sc)(v:zx)(wr:z7):Prop:=∃Xk r n,v=zv r/\xcb p s w F Xk r n wr
def szV(v:zx):Nat:=match v with |.string s=>s.size|_=>0
def FU(p:Nat)(s:ByteArray)(x:Sc)(num:Bool)(w:z7)(h:yT p s x w)(EJ:x.i<s.size)(Ks:PN x) :
  zE prog 48 #[(p,0),.bool num] w (BN p s (.tuple #[]) (Mf s x num) w):=by
 have HH:=Z h;obtain⟨a,ha⟩:=zo x.i;have Rn:=Z ha;have HOK:=Z Ks;have c0:=h.c0;have c1:=h.c1;have dw:=h.size;have xe0:a<s.size:=by rw[<-ha];exact EJ
 rw[ha]at c1;obtain⟨j,hj⟩:=zo (a+1);have q1:(a:Int)+1=(j:Int):=J;have q2:yU.wrap (j:Int)=(j:Int):=qK;have hjs:j<=s.size:=J;obtain⟨r,hr⟩:=zo (s.data.toList.drop j);have lA:r.length+j=s.size:=by rw[<-hr,xz,yz];omega
 have hex:s.extract j s.size=⟨r.toArray⟩:=by rw[ub,hr]
 have HJ:=Z hj;have HR:=Z hr;have HEX:=Z hex;clear h ha Ks EJ xe0 hj hr hex;go_enter func48,ntmps48;go_wp2_with fail;have jq:zy w.drew p 0 (.string s)/\zy w.drew p 1 a:=⟨c0,c1⟩;refine bW (λW':z7=>zy W' p 0 (.string s)/\zy W' p 1 a) [0,1,2,3,4,5,6,7,8,9,10] 0 jq ?_;refine fR ?_ _;rw[HEX.o];have O:=HH.o.below (z8 _ _).drew;have hw1:yX p w w.drew:=(z8 p w).drew;obtain⟨w1,fe⟩:∃q,w.drew=q:=⟨_,rfl⟩;rw[fe]at O hw1;have UR:=Z O;have HW1:=Z hw1;have z1:=O.z 1;have c1':=O.c1;rw[Rn.o]at c1';clear O hw1 jq c0 c1;rw[fe];clear fe;go_upto_region 2 with fail
 have qX:=UR.o.Y0 j hjs;have PH:=xZ HW1.o (b:=p) (j:=1) (u := .int .i64 j) (X _);obtain⟨w2,hW2⟩:∃q,w1.setCell (zX p 1) j=q:=⟨_,rfl⟩;rw[hW2]at qX PH;try rw[hW2]
 have L:=Z qX;have HW2:=Z PH;clear hW2 qX PH z1 c1';obtain⟨R,hR⟩:∃R:ByteArray,⟨r.toArray⟩=R:=⟨_,rfl⟩;rw[hR];have ZC:=Z hR;have hRS:R.size=r.length:=by rw[<-hR];rfl
 have HRS:=Z hRS;have hR0:∀(h:0<R.size),r.head? = some R[0]:=by
  subst hR;intro h;cases r with
  |nil=>cases h
  |cons c t=>rfl
 have hRE:R.toList=r:=by rw[<-hR,Fa]
 have T:=Z hRE;have QR:=Z hR0;clear hR hRS hR0 hRE;go_cut [50] (λv wc=>v = .bool (ZG r num)/\wc=w2)
 case first =>
  match r with
  |[] =>
   have hE:Vv R.toList=true:=(by rw[T.o];rfl);have hE2:R.toList=[]:=T.o;go_wp2_with fail;go_meet
   case rel=>exact⟨rfl,rfl⟩
  |c::t =>
   have hE:Vv R.toList=false:=(by rw[T.o];rfl);have hE3:(R.toList==[])=false:=(by rw[T.o];rfl);have h0:0<R.size:=(by rw[HRS.o];simp);have hd:R[0]=c:=(by have:=QR.o h0;simpa using this.symm);by_cases f:c=39
   .subst f;have HL:=Z (show ZG (39::t) num=false from rfl);exact Ej
   have j1:((c.toNat:Int)==39)=false:=qz f;have j1':((c.toNat:Int) !=39)=true:=(by rw[bne,j1];rfl);by_cases E:c=123
   .subst E;have HL:=Z (show ZG (123::t) num=false from rfl);exact Ej
   have j2:((c.toNat:Int)==123)=false:=qz E;have j2':((c.toNat:Int) !=123)=true:=(by rw[bne,j2];rfl);by_cases G:c=125
   .subst G;have HL:=Z (show ZG (125::t) num=false from rfl);exact Ej
   have j3:((c.toNat:Int)==125)=false:=qz G;have j3':((c.toNat:Int) !=125)=true:=(by rw[bne,j3];rfl);by_cases W:c=35
   .subst W;cases num with
    |true =>
     have HL:=Z (show ZG (35::t) true=false from rfl);exact Ej
    |false =>
     have HL:=Z (show ZG (35::t) false=true from rfl);exact Ej
   have j4:((c.toNat:Int)==35)=false:=qz W;have j4':((c.toNat:Int) !=35)=true:=(by rw[bne,j4];rfl);have HL:=Z (show ZG (c::t) num=true by simp[ZG,f,E,G,W]);clear f E G W;exact Ej
 case rest =>
  obtain⟨rfl,rfl⟩:=hcut;have U:=Z (Md (t:=[39]) HOK.o.m (by have:=Rn.o;omega) zj);by_cases I:ZG r num=true
  .rw[I];have HL:=Z (iJ Rn.o HJ.o HR.o I);clear I;go_wp2_with fail;refine(Vj p s _ [39] wc L.o rK U.o.1 U.o.2).mono ?_;rintro e w3 ⟨rfl,Fy,kL⟩;have GZ:=Z Fy;have HW3:=Z (HW2.o.trans kL);exact nj
  have I:=ZB _▸I;rw[I];have HLF:=Z I;obtain⟨c,t,hct⟩:∃c t,r=c::t:=by
   cases r with
   |nil=>cases I
   |cons c t=>exact⟨c,t,rfl⟩
  have h0:0<R.size:=by rw[HRS.o,hct];simp
  have hd:R[0]=c:=by have:=QR.o h0;rw[hct]at this;simpa using this.symm
  have HCT:=Z hct;clear I hct;by_cases f:c=39
  .have j1:((c.toNat:Int)==39)=true:=(by rw[f];rfl);obtain⟨l,I⟩:=zo (j+1);have hls:l<=s.size:=(by have:=HRS.o;rw[HCT.o]at lA;simp at lA;omega);have HL:=Z (zxf Rn.o HJ.o I HR.o HLF.o (by rw[HCT.o,f];rfl));have q3:(j:Int)+1=(l:Int):=J;have HP:=Z (L.o.Y0 l hls);have S:=Z (xZ HW2.o (b:=p) (j:=1) (u := .int .i64 l) (X _));have z1:=L.o.z 1;have c1:=L.o.c1;dsimp only at c1;clear f I;go_wp2_with fail;refine(Vj p s _ [39] _ HP.o rK U.o.1 U.o.2).mono ?_;rintro e w3 ⟨rfl,Fy,kL⟩;have GZ:=Z Fy;have HW3:=Z (S.o.trans kL);exact nj
  have j1:((c.toNat:Int)==39)=false:=qz f;have HL:=Z (TA Rn.o HJ.o HR.o HLF.o (by rw[HCT.o];simpa using f));obtain⟨F,hF⟩:∃F,gJ (r.length+1) r { x with i:=j }=F:=⟨_,rfl⟩;rw[hF]at HL;have Zz:zxb p s w F (.string R) wc:=⟨_,r,_,congrArg bJ ZC.o.symm,⟨L.o,HW2.o,HR.o,(by show x.out.length+1<=2*j;have:=HOK.o.n;have:=Rn.o;have:=HJ.o;omega),HOK.o.o,λm hm=>by
   have:=HOK.o.m m hm;have:=Rn.o;have:=HJ.o;exact⟨J,by show m.text.length<=j;omega⟩,xf _,hF⟩⟩
  have bd:=Z Zz;clear Zz hF f;go_wp2_with fail;go_loopw [4] (λv wr=>zxb p s w F v wr) (λv _=>szV v)
  case atStart=>exact bd.o
  case round =>
   obtain⟨q,r',n',rfl,hq⟩:=hrel;have PI:=hq.at_.here;obtain⟨k,hk⟩:=zo q.i;have HK:=Z hk;rw[hk]at PI;have vbx:r'.length+k=s.size:=(by rw[<-hq.rest,hk,xz,yz];omega);obtain⟨n,hn⟩:∃n,n'=n+1:=⟨n' - 1,by have:=hq.fuel;omega⟩;subst hn;obtain⟨m,hm⟩:=zo (r'.idxOf 39);have hml:m<=r'.length:=hm▸ypy;have K:=Z (Az ⟨r'.toArray⟩ 39 wr (by show r'.length<=2000000000;omega));have hci:(⟨r'.toArray⟩:ByteArray).data.toList.idxOf 39=m:=hm;have EO:(⟨r'.toArray⟩:ByteArray).size=r'.length:=rfl;rw[hci,EO]at K;obtain⟨A,hA⟩:=zo (r'.take m);obtain⟨B,hB⟩:=zo (r'.drop (m+1));obtain⟨V,hRB⟩:∃R:ByteArray,⟨B.toArray⟩=R:=⟨_,rfl⟩;have K:=Z (show zE prog 78 #[zv r',.int .u8 (39:UInt8).toNat] wr λe w'=>e = .returned (.tuple #[zv A,.string V,.bool (decide (m<r'.length))])/\∃n,w'=wr.drewN n from hRB▸hA▸hB▸K.o);have D:=Z (yq1 hRB);clear hRB;have CT:A.length=m:=(by rw[<-hA,xr];omega);have Cm:B.length=r'.length - (m+1):=(by rw[<-hB,xz]);obtain⟨HQ,HM,HA,HB,HAL,HBL,yo7⟩:=l7 hq hm hA hB CT Cm (Md (t:=A) hq.m (by rw[hk];omega) J);have zc0:q.out.length+1<=1000000:=(by have:=hq.out;omega);have xe3:=Z zc0;obtain⟨mb,PL⟩:∃b,decide (m<r'.length)=b:=⟨_,rfl⟩;rw[PL]at K;have HMB:=Z PL;clear hq hk hm hci EO hA hB CT Cm PL zc0;go_wp2_with fail;refine K.o.mono ?_;rintro e w4 ⟨rfl,nq,rfl⟩;have dS:=HQ.o.at_.below (below_drewN (z8 _ _) nq);have hw4:=HQ.o.below.trans ((below_drewN (z8 _ _) nq).mono (xx HQ.o.at_.lt));obtain⟨w4,hw⟩:∃q,wr.drewN nq=q:=⟨_,rfl⟩;rw[hw]at dS hw4|-;have Vg:=Z dS;have N8:=Z hw4;clear hw dS hw4;go_wp2_with fail;refine(Vj p s q A w4 Vg.o xe3.o yo7.o.1 yo7.o.2).mono ?_;rintro e w5 ⟨rfl,H,Xv⟩;obtain⟨Yk,hY⟩:=zo (kx q A);rw[hY]at H;have HY:=Z hY;have hsi:Yk.i=k:=(by rw[<-hY,(Gb q A).1,HK.o]);have HS5:=Z H;have HW5:=Z (N8.o.trans Xv);have c1:=H.c1;have z1:=H.z 1;rw[hsi]at c1;obtain⟨k1,Fv⟩:=zo (k+m);have q5:(k:Int)+(m:Int)=(k1:Int):=J;have q6:(k:Int)+(A.length:Int)=(k1:Int):=(by rw[HAL.o];omega);have my:k1<=s.size:=J;have q7:yU.wrap (k1:Int)=(k1:Int):=qK;have HP:=Z (H.Y0 k1 my);have S:=Z (xZ HW5.o (b:=p) (j:=1) (u := .int .i64 k1) (X _));have Cf:=Z Fv;clear H Xv hsi hY Fv;cases mb with
   |false =>
    have HE:=Z (Ta (y:=Yk) (n:=n) Lk (by rw[HM.o];exact of_decide_eq_false HMB.o) (i:=k1) R1);go_wp2;refine zU (v := .tuple #[]) ?_ rfl ?_
    .exact nH
    rw[HL.o,<-HQ.o.eq,HE.o];exact⟨rfl,HP.o,S.o⟩
   |true =>
    have M:m<r'.length:=of_decide_eq_true HMB.o;obtain⟨k2,hk2⟩:=zo (k1+1);have q8:(k1:Int)+1=(k2:Int):=J;have xe4:k2<=s.size:=Dx;have aK:=Z (HP.o.Y0 k2 xe4);have ybz:=Z (xZ S.o (b:=p) (j:=1) (u := .int .i64 k2) (X _));have C:=Z hk2;clear hk2;match B with
    |[] =>
     have hE:Vv V.toList=true:=(by rw[D.o.list];rfl);have hE2:V.toList=[]:=D.o.list;have HE:=Z (Gl (y:=Yk) (n:=n) Lk (by rw[HM.o];exact M) (i:=k1) (by rw[HM.o,HA.o,HK.o,HAL.o];exact Cf.o) C.o (b:=[]) (by rw[HM.o];exact HB.o) zY);exact rq
    |d::t' =>
     have hE:Vv V.toList=false:=(by rw[D.o.list];rfl);have hE3:(V.toList==[])=false:=(by rw[D.o.list];rfl);have h0:0<V.size:=(by rw[D.o.size];simp);have hd:V[0]=d:=D.o.head h0 rfl;by_cases g:d=39
     .have j3:((d.toNat:Int)==39)=true:=(by rw[g];rfl);have j3':((d.toNat:Int) !=39)=false:=(by rw[bne,j3];rfl);have HXT:=Z D.o.tail;have q9:(1:Int)<=(V.size:Int):=J;have q9n:1<=V.size:=J;have hYm:=Z (λmm N=>KS q A k (HK.o▸HQ.o.m) mm (HY.o▸N));have hYl:Yk.out.length<=q.out.length+1:=HY.o▸(XC q A).1;have vbv:q.out.length<=Yk.out.length:=HY.o▸(XC q A).2;have hYo:Yk.uo=q.uo:=HY.o▸(Gb q A).2.1;have hqo:=HQ.o.out;have hqp:=HQ.o.uo;rw[HK.o]at hqo;rw[<-hYo]at hqp;have HYO:=Z hYo;have yo8:=Z (Md (x:=Yk) (t:=[39]) hYm.o (by rw[HAL.o];omega) zj);have xe6:Yk.out.length+1<=1000000:=J;have HD:=Z g;clear g hYo;go_wp2_with fail;refine(Vj p s { Yk with i:=k2 } [39] _ aK.o xe6 yo8.o.1 yo8.o.2).mono ?_;rintro e w6 ⟨rfl,P,C8⟩;obtain⟨Q,hZ⟩:∃Q,kx { Yk with i:=k2 } [39]=Q:=⟨_,rfl⟩;rw[hZ]at P;have hzi:Q.i=k2:=(by rw[<-hZ,(Gb _ _).1]);have hzl:Q.out.length<=Yk.out.length+1:=hZ▸(XC { Yk with i:=k2 } [39]).1;have vbj:Yk.out.length<=Q.out.length:=hZ▸(XC { Yk with i:=k2 } [39]).2;have hzo:Q.uo=Yk.uo:=hZ▸(Gb { Yk with i:=k2 } [39]).2.1;obtain⟨hzm,HZ,HZO,HS6,HW6⟩:=FD (λmm N=>KS { Yk with i:=k2 } [39] (k+A.length) hYm.o mm (hZ▸N)) hZ hzo P (ybz.o.trans C8);have c1:=P.c1;have z1:=P.z 1;rw[hzi]at c1;obtain⟨k3,hk3⟩:=zo (k2+1);have q10:(k2:Int)+1=(k3:Int):=J;have htl:t'.length+1=r'.length - (m+1):=(by have:=HBL.o;simpa using this);have xe8:k3<=s.size:=(by have:=Cf.o;have:=C.o;omega);have HE:=Z (P7 (y:=Yk) (n:=n) Lk (by rw[HM.o];exact M) (i:=k1) R1 C.o hk3 (b:=d::t') (by rw[HM.o];exact HB.o) (by rw[HD.o];rfl) HZ.o);have HK3:=Z hk3;clear P C8 hZ hzo hk3;go_wp2_with fail;go_roundw
      case rel =>
       rw[HXT.o];refine⟨{ Q with i:=k3 },t',n,rfl,⟨HS6.o.Y0 k3 xe8,xZ HW6.o (X _),?_,?_,?_,?_,?_,?_⟩⟩
       .show s.data.toList.drop k3=t';have h1:=HQ.o.rest;rw[HK.o]at h1;have h2:=HB.o;rw[<-h1,Vt]at h2;have h3:k3=k+(m+1)+1:=(by have:=Cf.o;have:=C.o;have:=HK3.o;omega);rw[h3,<-Vt,h2];rfl
       .show Q.out.length+1<=2*k3;have:=Cf.o;have:=C.o;have:=HK3.o;omega
       .show Q.uo.length<=Q.out.length;rw[HZO.o];omega
       .intro mm N;have h1:=hzm.o mm N;refine⟨h1.1,?_⟩;show mm.text.length<=k3;have h2:=h1.2;have:=Cf.o;have:=C.o;have:=HK3.o;have:=HAL.o;simp at h2;omega
       .have:=HQ.o.fuel;omega
       .rw[<-HQ.o.eq,HE.o];rfl
      case measure =>
       rw[HXT.o];show t'.length<r'.length;omega
     .have j3:((d.toNat:Int)==39)=false:=qz g;have j3':((d.toNat:Int) !=39)=true:=(by rw[bne,j3];rfl);have HE:=Z (Gl (y:=Yk) (n:=n) Lk (by rw[HM.o];exact M) (i:=k1) R1 C.o (b:=d::t') (by rw[HM.o];exact HB.o) (by simpa using g));clear g;exact rq
def XE(s:ByteArray)(x:Sc)(c:UInt8):Sc :=
 if c=39 then Mf s x (QE x)
 else if c=123 then dG s x
 else if c=125 then if x.uo=[]then yt x 3 x.i else fQ s { x with i:=x.i+1,out:=x.out++[⟨93,[],[],[],[],0⟩] }
 else if c=35/\QE x=true then { x with i:=x.i+1,out:=x.out++[⟨35,[],[],[],[],0⟩] }
 else kx { x with i:=x.i+1 } [c]
def fC(s:ByteArray)(x:Sc):Sc:=match xN s x.i with|none=>x|some c=>XE s x c
def P8(s:ByteArray)(k l:Nat)(h:k<s.size)(a:k+1=l):s.extract k l=⟨#[s[k]]⟩:=by
 subst a;rw[dN,UU s k h];rfl
def zv0(p:Nat)(s:ByteArray)(x:Sc)(w:z7)(h:yT p s x w)(M:x.i<s.size)(I:PN x) :
  zE prog 28 #[(p,0)] w (BN p s (.tuple #[]) (fC s x) w):=by
 have HH:=Z h;obtain⟨k,hk⟩:=zo x.i;have HK:=Z hk;have T:=Z I;have c0:=h.c0;have c1:=h.c1;have dw:=h.size;have zc0:x.out.length+2<=1000000:=by have:=I.n;omega
 have vbb:x.uo.length+2<=1000000:=by have:=I.o;omega
 have Tu:k<s.size:=by rw[<-hk];exact M
 have va0:(k:Int)<(s.size:Int):=J;rw[hk]at c1;obtain⟨d,hd⟩:=zo (s[k]);have HE:=Z (show fC s x=XE s x d by unfold fC;rw[hk,jT Tu,hd]);have S:=Z M;obtain⟨num,L⟩:∃n,QE x=n:=⟨_,rfl⟩;have D:=Z L;obtain⟨k1,Fv⟩:∃j,k+1=j:=⟨_,rfl⟩;have Cf:=Z Fv;have my:k1<=s.size:=J;clear h hk I M L Fv;go_enter func28,ntmps28;go_wp2_with fail;have jq:zy w.drew p 0 (.string s)/\zy w.drew p 1 k:=⟨c0,c1⟩;refine bW (λW':z7=>zy W' p 0 (.string s)/\zy W' p 1 k) [0,1,2,3,4,5,6,7,8,9] 0 jq ?_;refine fR ?_ _;have O:=HH.o.below (z8 _ _).drew;have P:yX p w w.drew:=(z8 p w).drew;obtain⟨w1,fe⟩:∃Xk,w.drew=Xk:=⟨_,rfl⟩;rw[fe]at O P|-;have U:=Z O;have HW1:=Z P;clear O P jq c0 c1 fe;go_wp2_with fail;refine(Ue p s x w1 U.o).mono ?_;rintro e w2 ⟨rfl,ZW,V0⟩;rw[D.o];have HS:=Z ZW;have HW:=Z (HW1.o.trans (V0.below U.o));clear ZW V0;by_cases f:d=39
 .have j1:((d.toNat:Int)==39)=true:=by rw[f];rfl
  have HE:=Z (HE.o.trans (show XE s x d=Mf s x num by rw[<-D.o];exact zl f));clear f;go_wp2_with fail;refine(FU p s x num w2 HS.o S.o T.o).mono ?_;rintro e w4 ⟨rfl,dS,YZ⟩;have Vg:=Z dS;have N8:=Z (HW.o.trans YZ);exact mY
 have j1:((d.toNat:Int)==39)=false:=qz f;by_cases a:d=123
 .have j2:((d.toNat:Int)==123)=true:=by rw[a];rfl
  have HE:=Z (HE.o.trans (show XE s x d=dG s x by unfold XE;rw[zL f,zl a]));clear f a;go_wp2_with fail;refine(TW p s x w2 HS.o S.o zc0 J).mono ?_;rintro e w4 ⟨rfl,dS,YZ⟩;have Vg:=Z dS;have N8:=Z (HW.o.trans YZ);clear dS YZ;go_wp2;refine zU (v := .tuple #[]) ?_ rfl ?_
  .simp[yk,results28,go_sem]
  rw[HE.o];exact⟨rfl,Vg.o,N8.o⟩
 have j2:((d.toNat:Int)==123)=false:=qz a;by_cases c:d=125
 .have j3:((d.toNat:Int)==125)=true:=by rw[c];rfl
  have HE:=Z (HE.o.trans (show XE s x d=if x.uo=[]then yt x 3 x.i else fQ s { x with i:=x.i+1,out:=x.out++[⟨93,[],[],[],[],0⟩] }by unfold XE;rw[zL f,zL a,zl c]));clear f a c;obtain⟨v2,v3,-,-,W,q,-⟩:=HS.o.rows;obtain⟨n,hn⟩:=zo x.uo.length;rw[hn]at q;obtain⟨oa,oc,rfl⟩:=zD q;clear q;by_cases G:n=0
  .have j4:((n:Int)==0)=true:=(by simp[G]);have HE:=Z (HE.o.trans (zl (zF (hn.trans G))));have c1:=HS.o.c1;rw[HK.o]at c1;rw[HK.o]at HE;clear hn G;go_wp2_with fail;refine(jG p s x 3 k w2 HS.o).mono ?_;rintro e w4 ⟨rfl,dS,YZ⟩;have Vg:=Z dS;have N8:=Z (HW.o.trans (YZ.below HS.o));exact mY
  have j4:((n:Int)==0)=false:=zV;have N:x.uo≠[]:=λe=>G (by rw[<-hn,e];rfl)
  have HE:=Z (HE.o.trans (zL N));have HNE:=Z N;have q1:(k:Int)+1=(k1:Int):=Dx;have c1:=HS.o.c1;have z1:=HS.o.z 1;rw[HK.o]at c1;clear hn G N;go_upto_region 12 with fail
  have Fy:=HS.o.Y0 k1 my;have Ko:=xZ HW.o (b:=p) (j:=1) (u := .int .i64 k1) (X _);obtain⟨w3,fE⟩:∃Xk,w2.setCell (zX p 1) k1=Xk:=⟨_,rfl⟩;rw[fE]at Fy Ko;try rw[fE]
  clear W HS HW fE c1 z1;have HS:=Z Fy;have HW:=Z Ko;clear Fy Ko;obtain⟨Yk,hY⟩:∃Yk,({ x with i:=k1 }:Sc)=Yk:=⟨_,rfl⟩;rw[hY]at HS;have C7:Yk.out.length+1<=1000000:=mM;have HY:=Z hY;clear hY;obtain⟨v2,v3,h2,y,W,q,hd⟩:=HS.o.rows;have z2:=HS.o.z 2;obtain⟨no,B⟩:=zo Yk.out.length;rw[B]at y C7;obtain⟨H3,HD,H2,MO⟩:=hdd q hd y B;clear y q hd B;go_wp2_with (at_builtin;refine uI ?_);intro V fe;have A:=(show yX w3 w3 V by rw[fe];exact(z8 _ _).alloc (X _) _);have hC:=λi=>zg w3 #[.int .u8 93,.string ⟨#[]⟩,.string ⟨#[]⟩,.string ⟨#[]⟩,.string ⟨#[]⟩,.int .i64 0] 85 (0,0) i
  rw[<-fe]at hC;have hsA:=A.size;have ud:=HS.o.lt;have s1:(V:Nat)=(w3:Nat)+1:=JY;have HO:=Z (vx H2.o A);have r:=Z A;clear fe;refine Up km rfl _ _ rfl (p+1) _ no (vU Yk.out) rfl HO.o ⟨(w3:Nat),0,none⟩ 1 1 (xl ⟨93,[],[],[],[],0⟩) rfl rfl ?x1 ?x2 J J ?x3
  case x1 =>
   exact Iz
  case x2 =>
   exact D1
  intro v' w' ho H hw;have F:=HS.o.GX (m:=⟨93,[],[],[],[],0⟩) Qv h2 W H3.o HD.o r.o Qq H hw (by rw[MO.o];omega);have C:=HS.o.Z6 r.o H (λg e=>(H2.o.lt g e).1);have e2:=H.cell ((r.o.cell (p:=(zX p 2)) HS.o.lt).trans h2) (λe=>yO _ ((H2.o.lt p e.symm).1));have z2:=C.z 2;obtain⟨na,nc,rfl⟩:=zD ho;have Q:=Z F;clear F C ho H hw hC;obtain⟨R,hZ⟩:∃R,({ Yk with out:=Yk.out++[⟨93,[],[],[],[],0⟩] }:Sc)=R:=⟨_,rfl⟩;rw[hZ]at Q;have N7:R.out.length+1<=1000000:=by rw[<-hZ,<-HY.o];simp;omega
  have Vk:R.uo≠[]:=by rw[<-hZ,<-HY.o];exact HNE.o
  have HE:=Z (HE.o.trans (show _=fQ s R by rw[<-hZ,<-HY.o,HK.o,Cf.o]));have HZ2:=Z Vk;clear hZ Vk;go_wp2_with fail;refine(P3 p s R _ Q.o.1 HZ2.o N7).mono ?_;rintro e w4 ⟨rfl,dS,YZ⟩;have Vg:=Z dS;have N8:=Z ((HW.o.trans Q.o.2).trans YZ);exact mY
 have j3:((d.toNat:Int)==125)=false:=qz c;by_cases l:d=35/\num=true
 .obtain⟨l,hnt⟩:=l;have j5:((d.toNat:Int)==35)=true:=by rw[l];rfl
  have HE:=Z (HE.o.trans (show XE s x d={ x with i:=x.i+1,out:=x.out++[⟨35,[],[],[],[],0⟩] }by unfold XE;rw[zL f,zL a,zL c,zl ⟨l,D.o.trans hnt⟩]));subst hnt;have q1:(k:Int)+1=(k1:Int):=Dx;have c1:=HS.o.c1;have z1:=HS.o.z 1;rw[HK.o]at c1;clear f a c l;go_upto_region 16 with fail
  have Fy:=HS.o.Y0 k1 my;have Ko:=xZ HW.o (b:=p) (j:=1) (u := .int .i64 k1) (X _);obtain⟨w3,fE⟩:∃Xk,w2.setCell (zX p 1) k1=Xk:=⟨_,rfl⟩;rw[fE]at Fy Ko;try rw[fE]
  clear HS HW fE c1 z1;have HS:=Z Fy;have HW:=Z Ko;clear Fy Ko;obtain⟨Yk,hY⟩:∃Yk,({ x with i:=k1 }:Sc)=Yk:=⟨_,rfl⟩;rw[hY]at HS;have C7:Yk.out.length+1<=1000000:=mM;have HY:=Z hY;clear hY;obtain⟨v2,v3,h2,y,W,q,hd⟩:=HS.o.rows;have z2:=HS.o.z 2;obtain⟨no,B⟩:=zo Yk.out.length;rw[B]at y C7;obtain⟨H3,HD,H2,MO⟩:=hdd q hd y B;clear y q hd B;go_wp2_with (at_builtin;refine uI ?_);intro V fe;have A:=(show yX w3 w3 V by rw[fe];exact(z8 _ _).alloc (X _) _);have hC:=λi=>zg w3 #[.int .u8 35,.string ⟨#[]⟩,.string ⟨#[]⟩,.string ⟨#[]⟩,.string ⟨#[]⟩,.int .i64 0] 85 (0,0) i
  rw[<-fe]at hC;have hsA:=A.size;have ud:=HS.o.lt;have s1:(V:Nat)=(w3:Nat)+1:=JY;have HO:=Z (vx H2.o A);have r:=Z A;clear fe;refine Up km rfl _ _ rfl (p+1) _ no (vU Yk.out) rfl HO.o ⟨(w3:Nat),0,none⟩ 1 1 (xl ⟨35,[],[],[],[],0⟩) rfl rfl ?y1 ?y2 J J ?y3
  case y1 =>
   exact Iz
  case y2 =>
   exact D1
  intro v' w' ho H hw;have F:=HS.o.GX (m:=⟨35,[],[],[],[],0⟩) Qv h2 W H3.o HD.o r.o Qq H hw (by rw[MO.o];omega);have C:=HS.o.Z6 r.o H (λg e=>(H2.o.lt g e).1);have e2:=H.cell ((r.o.cell (p:=(zX p 2)) HS.o.lt).trans h2) (λe=>yO _ ((H2.o.lt p e.symm).1));have z2:=C.z 2;obtain⟨na,nc,rfl⟩:=zD ho;have Q:=Z F;clear F C ho H hw hC;go_wp2;refine zU (v := .tuple #[]) ?_ rfl ?_
  .simp[yk,results28,go_sem]
  rw[HE.o,HK.o,Cf.o];have h4:=Q.o.1;rw[<-HY.o]at h4;exact⟨rfl,h4,HW.o.trans Q.o.2⟩
 have HE:=Z (HE.o.trans (show XE s x d=kx { x with i:=x.i+1 } [d]by unfold XE;rw[zL f,zL a,zL c,zL (by rw[D.o];exact l)]));have q1:(k:Int)+1=(k1:Int):=Dx;have c1:=HS.o.c1;have z1:=HS.o.z 1;rw[HK.o]at c1;have WH:=Z (Md (t:=[d]) T.o.m (by have:=HK.o;omega) zY);have q3:(k1:Int) - 1=(k:Int):=J;have q4:yU.wrap (k:Int)=(k:Int):=qK;have q5:k<=k1:=Dx;have hHX:=Z (P8 s k k1 Tu Cf.o);cases num with
 |true =>
  have l:d≠35:=λe=>l ⟨e,rfl⟩
  have j5:((d.toNat:Int)==35)=false:=qz l;clear f a c l;exact zo2
 |false =>
  by_cases E:d=35
  .have j5:((d.toNat:Int)==35)=true:=(by rw[E];rfl);clear f a c l E;exact zo2
  .have j5:((d.toNat:Int)==35)=false:=qz E;clear f a c l E;exact zo2
structure gO(x y:Sc)(k:Nat):Prop where
 i:x.i<=y.i
 n:y.out.length<=x.out.length+k
 o:y.uo.length+x.out.length<=x.uo.length+y.out.length
 m:∀m∈y.out,m∈x.out\/(m.kind<256/\m.text.length<=y.i)
def gO.trans{z:Sc}{l:Nat}(h:gO x y k)(g:gO y z l):gO x z (k+l) :=
 ⟨zZ h.i g.i,by have:=h.n;have:=g.n;omega,by have:=h.o;have:=g.o;omega,λm hm=>by
  rcases g.m m hm with h1|h1
  .rcases h.m m h1 with h2|h2
   .exact .inl h2
   .exact .inr ⟨h2.1,zZ h2.2 g.i⟩
  .exact .inr h1⟩
def gO.same(h:kE x y)(hi:x.i<=y.i):gO x y 0 :=
 ⟨hi,by rw[h.1];omega,by rw[h.1,h.2];omega,λm hm => .inl (h.1▸hm)⟩
def gO.ok(h:gO x y k)(a:PN x)(b:k+2*x.i<=2*y.i):PN y :=
 ⟨by have:=h.n;have:=a.n;omega,by have:=h.o;have:=a.o;omega,λm hm=>by
  rcases h.m m hm with h1|h1
  .have:=a.m m h1;exact⟨this.1,zZ this.2 h.i⟩
  .exact h1⟩
def KT(s:ByteArray)(x:Sc):x.i<=(yv s x).i:=WD _ _
def Tc(s:ByteArray)(x:Sc):x.i+(jy s x.i).length=(uM s x).i:=by
 have a:=(zxv (s.data.toList.drop x.i)).1;unfold uM jy;rw[xr,zeu a]
def Ai(f:UInt8):∀(l:List UInt8) (n:Nat),Vm f n l<=n+l.length/\n<=Vm f n l/\(n<=9->Vm f n l<=9)
 |[],n=>⟨X _,X _,λh=>h⟩
 |c::t,n=>by
  rw[Vm];split
  .next h =>
   have:=Ai f t (n+1);exact⟨zV,J,λ_=>this.2.2 J⟩
  .exact⟨zY,X _,λh=>h⟩
def yq2(l:List UInt8):Ly l<=l.length:=by
 have:=(Ai (l.headD 0) l 0).1;unfold Ly;omega
def Al(s:ByteArray)(x:Sc):x.i+(kl s x.i).length=(um s x).i:=by
 have a:=yq2 (s.data.toList.drop x.i);unfold um kl;rw[xr,zeu a]
def Am(s:ByteArray)(x:Sc)(c:UInt8):x.i<=(xE s x c).i:=by
 unfold xE;split
 .exact bG _
 .rw[ZK];exact VX
def iG(s:ByteArray)(x:Sc)(num:Bool):x.i+(qy s x num).length=(xQ s x num).i:=by
 unfold xQ qy;split
 .rw[<-Al];simp;omega
 .split
  .rw[ZK,Tc]
  .rw[Tc]
def Gm(s:ByteArray)(x:Sc)(num:Bool):gO x (xw s x num) 1:=by
 by_cases c:x.err=0
 .obtain⟨U,b⟩:=zo ((if 6<(xE s (yv s (xQ s x num)) 123).uo.length+2 then yt (xE s (yv s (xQ s x num)) 123) 4 (yv s (xQ s x num)).i else xE s (yv s (xQ s x num)) 123));rw[BS c rfl rfl rfl rfl b rfl rfl];have h1:kE x U:=by
   rw[<-b];split
   .exact(Mg s x num).trans (dW _ _ _)
   .exact Mg s x num
  have h2:x.i+(qy s x num).length<=U.i:=by
   have a1:=iG s x num;have a2:=KT s (xQ s x num);have a3:=Am s (yv s (xQ s x num)) 123;rw[<-b];split
   .rw[ZK];omega
   .omega
  refine⟨by show x.i<=U.i;omega,by simp[h1.1],by simp[h1.1,h1.2];omega,λm hm=>?_⟩;have a:m∈U.out++[⟨91,qy s x num,[],[],[],x.i⟩]:=hm;rw[xY,uG,h1.1]at a;rcases a with hm|rfl
  .exact .inl hm
  .exact .inr ⟨by show 91<256;decide,by show(qy s x num).length<=U.i;omega⟩
 .rw[show xw s x num=x from zl c];exact⟨X _,J,J,λm hm => .inl hm⟩
def Z0(x:Sc)(m:Mk)(a:m.kind<256)(b:m.text=[]):gO x { x with out:=x.out++[m] } 1 :=
 ⟨X _,zY,DE,λk hm=>by
  simp only[xY,uG]at hm;rcases hm with hm|rfl
  .exact .inl hm
  .exact .inr ⟨a,by rw[b];exact zG _⟩⟩
def Ba(x:Sc)(i:Nat)(h:x.i<=i):gO x { x with i:=i } 0:=gO.same (Xz x i) h
def zv1(s:ByteArray)(num:Bool)(x:Sc):gO x (FV s num x) 0:=by
 refine gO.same (Hv s num x) ?_;unfold FV;split
 .have h1:=KT s { x with i:=x.i+7 };have h2:=Al s (yv s { x with i:=x.i+7 });have a:=KT s (um s (yv s { x with i:=x.i+7 }));simp only at h1;omega
 .exact VX
def zc1(s:ByteArray)(nm how:Wd)(a:Nat)(num:Bool)(x:Sc):gO x (lC s nm how a num x) 2:=by
 rw[zxj rfl rfl rfl];exact(((zv1 s num x).trans (Z0 (FV s num x) ⟨40,[],nm,how,P6 s num x,a⟩ (by show 40<256;decide) rfl)).trans (Gm s _ num))
def UQ(s:ByteArray)(x:Sc):gO x (uM s x) 0:=gO.same (ZJ s x) (by have:=Tc s x;omega)
def jI(s:ByteArray)(x:Sc):gO x (yv s x) 0:=gO.same (bP s x) (KT s x)
def QI(s:ByteArray)(x:Sc)(c:UInt8):gO x (xE s x c) 0:=gO.same (di s x c) (Am s x c)
def Bc(x:Sc)(e a:Nat):gO x (yt x e a) 0:=gO.same (dW x e a) (by rw[ZK];exact X _)
def gO.mono{l:Nat}(h:gO x y k)(a:k<=l):gO x y l:=⟨h.i,zZ h.n J,h.o,h.m⟩
def zv2(s:ByteArray)(nm:Wd)(a:Nat)(x:Sc):gO x (P4 s nm a x) 2:=by
 unfold P4;dsimp only;split
 .exact((UQ s x).trans (Bc _ _ _)).mono J
 .split
  .exact((((UQ s x).trans (jI s _)).trans (QI s _ 125)).trans (Z0 _ ⟨110,[],nm,jy s x.i,[],a⟩ (by show 110<256;decide) rfl)).mono J
  .exact((((UQ s x).trans (jI s _)).trans (QI s _ 44)).trans (jI s _)).trans (zc1 s _ _ _ _ _)
def Be(s:ByteArray)(x:Sc):gO { x with i:=x.i+1 } (dG s x) 2:=by
 have a:=((jI s { x with i:=x.i+1 }).trans (UQ s _)).trans (jI s _);unfold dG;dsimp only;split
 .exact a.mono J
 .split
  .exact((a.trans (QI s _ 125)).trans (Z0 _ ⟨112,[],jy s (yv s { x with i:=x.i+1 }).i,[],[],x.i⟩ (by show 112<256;decide) rfl)).mono J
  .exact(((a.trans (Ba _ _ (bG _))).trans (jI s _)).trans (zv2 s _ _ _)).mono J
def zv3(x:Sc):gO x { x with uo:=x.uo.dropLast } 0:=⟨X _,zY,DE,λm hm => .inl hm⟩
def Gn(s:ByteArray)(x:Sc):gO x (fQ s x) 1:=by
 unfold fQ;dsimp only;have a:=(zv3 x).trans (jI s _);split
 .exact((a.trans (Z0 _ ⟨41,[],[],[],[],_⟩ (by show 41<256;decide) rfl)).trans (Ba _ _ (bG _))).mono J
 .exact(a.trans (Gm s _ _)).mono J
def P9:∀(n:Nat) (r:Wd) (a:Sc),a.out.length+1<=2*a.i->a.uo.length<=a.out.length->(∀m∈a.out,m.kind<256/\m.text.length<=a.i)->PN (gJ n r a)/\a.i<=(gJ n r a).i/\(gJ n r a).err=a.err
 | 0,r,a,h1,h2,b=>⟨⟨by show a.out.length<=2*a.i;omega,h2,b⟩,X _,rfl⟩
 |n+1,r,a,h1,h2,b=>by
  have e1:=Gb a (r.take (r.idxOf 39));have e2:=XC a (r.take (r.idxOf 39));have e3:=KS a (r.take (r.idxOf 39)) a.i b;unfold gJ;dsimp only;split
  .split
   .have f1:=Gb { kx a (r.take (r.idxOf 39))with i:=a.i+(r.take (r.idxOf 39)).length+1 } [39];have f2:=XC { kx a (r.take (r.idxOf 39))with i:=a.i+(r.take (r.idxOf 39)).length+1 } [39];have f3:=KS { kx a (r.take (r.idxOf 39))with i:=a.i+(r.take (r.idxOf 39)).length+1 } [39] (a.i+(r.take (r.idxOf 39)).length) e3;simp only at f1 f2 f3;have c:=P9 n (r.drop (r.idxOf 39+1)).tail { kx { kx a (r.take (r.idxOf 39))with i:=a.i+(r.take (r.idxOf 39)).length+1 } [39]with i:=a.i+(r.take (r.idxOf 39)).length+2 }
     (by simp only;omega) (by have a1:=congrArg qj f1.2.1;have a2:=congrArg qj e1.2.1;simp only at a1|-;omega) (λm hm=>by
      have:=f3 m hm;refine⟨this.1,?_⟩;have d:=this.2;simp only[zm,ur]at d;simp only;omega)
    refine⟨c.1,?_,c.2.2.trans (f1.2.2.1.trans e1.2.2.1)⟩;have:=c.2.1;simp only at this;omega
   .exact n9
  .exact n9
def Mb{t:Wd}{a:Nat}(h:PN x)(ha:x.i+t.length<=a)(h1:x.i<a):PN (kx { x with i:=a } t)/\x.i<=(kx { x with i:=a } t).i/\x.i<(kx { x with i:=a } t).i/\(kx { x with i:=a } t).err=x.err:=by
 have e1:=Gb { x with i:=a } t;have e2:=XC { x with i:=a } t;have e3:=KS { x with i:=a } t x.i h.m;simp only at e1 e2;have b:=h.n;have c:=h.o;refine⟨⟨by rw[e1.1];omega,by rw[e1.2.1];omega,λm hm=>?_⟩,by rw[e1.1];omega,by rw[e1.1];exact h1,e1.2.2.1⟩;have:=e3 m hm;exact⟨this.1,by rw[e1.1];omega⟩
def ok_one(s:ByteArray)(x:Sc)(h:PN x)(e:x.err=0)(d:x.i<s.size):PN (fC s x)/\x.i<=(fC s x).i/\((fC s x).err=0->x.i<(fC s x).i):=by
 unfold fC;rw[jT d];simp only;unfold XE;split
 .unfold Mf;dsimp only;split
  .have:=Mb (t:=[39]) (a:=x.i+1) h zY J;exact S3
  .split
   .have:=Mb (t:=[39]) (a:=x.i+2) h zY J;exact S3
   .have:=P9 ((s.data.toList.drop (x.i+1)).length+1) (s.data.toList.drop (x.i+1)) { x with i:=x.i+1 } (by have:=h.n;simp only;omega) h.o (λm hm=>by
     have:=h.m m hm;exact⟨this.1,by simp only;omega⟩)
    have h2:=this.2.1;simp only at h2;exact⟨this.1,J,λ_=>J⟩
 .split
  .have b:=(Ba x (x.i+1) (bG _)).trans (Be s x);have h2:=(Be s x).i;simp only at h2;exact⟨b.ok h J,b.i,λ_=>J⟩
  .split
   .split
    .have b:=Bc x 3 x.i;refine⟨b.ok h (by rw[ZK];omega),b.i,λc=>?_⟩;unfold yt at c;rw[zl e]at c;cases c
    .have b:=((Ba x (x.i+1) (bG _)).trans (Z0 _ ⟨93,[],[],[],[],0⟩ (by show 93<256;decide) rfl)).trans (Gn s _);have h2:x.i+1<=(fQ s { x with i:=x.i+1,out:=x.out++[⟨93,[],[],[],[],0⟩] }).i:=by
      have c:=(Gn s { x with i:=x.i+1,out:=x.out++[⟨93,[],[],[],[],0⟩] }).i;exact c
     refine⟨b.ok h ?_,b.i,λ_=>h2⟩;show 0+1+1+2*x.i<=2*(fQ s { x with i:=x.i+1,out:=x.out++[⟨93,[],[],[],[],0⟩] }).i;omega
   .split
    .have b:=(Ba x (x.i+1) (bG _)).trans (Z0 _ ⟨35,[],[],[],[],0⟩ (by show 35<256;decide) rfl);exact⟨b.ok h (by simp only;omega),b.i,λ_=>by simp only;omega⟩
    .have:=Mb (t:=[s[x.i]]) (a:=x.i+1) h zY J;exact S3
def qd(s:ByteArray):Nat->Sc->Sc
 | 0,x=>x
 |n+1,x=>if x.err=0/\x.i<s.size then qd s n (fC s x)else x
def qi(h:¬(x.err=0/\x.i<s.size)):∀n,qd s n x=x
 | 0=>rfl
 |n+1=>by rw[qd,zL h]
def dn(h:x.err=0/\x.i<s.size)(n:Nat):qd s (n+1) x=qd s n (fC s x):=by rw[qd,zl h]
def jf:Sc:=⟨0,[],[],0,0⟩
def xP(s:ByteArray):Sc :=
 let x:=qd s (s.size+1) jf
 if x.err=0/\x.uo≠[]then yt x 3 s.size else x
def Te(s:ByteArray)(w:z7)(t:uP)(hs:s.size<=100000):yT (w:Nat) s jf (w.alloc (.cells #[.string s,.int .i64 0,.slice none 0 0,.slice none 0 0,.int .i64 0,.int .i64 0] t)):=by
 refine⟨by rw[zg];rfl,by rw[zg];rfl,⟨.slice none 0 0,.slice none 0 0,by rw[zg];rfl,yr _ _ _ _,by rw[zg];rfl,yr _ _ _ _,λg h=>xp⟩,by rw[zg];rfl,by rw[zg];rfl,λj=>?_,hs,zG _,zG _,zG _⟩;have h:=heap_alloc_new w (.cells #[.string s,.int .i64 0,.slice none 0 0,.slice none 0 0,.int .i64 0,.int .i64 0] t);unfold PJ;rw[h];simp
def Pe(s:ByteArray)(w:z7)(e:gG)(w':z7):Prop :=
 ∃v2,e = .returned (.tuple #[v2,((xP s).err:Nat),((xP s).place:Nat)])/\w'.ownsRow ((w:Nat)+1) 85 6 v2 (xP s).out.length (vU (xP s).out)/\zJ w w'
structure yo9(p:Nat)(s:ByteArray)(w:z7)(F Xk:Sc)(n:Nat)(wr:z7):Prop where
 at_:yT p s Xk wr
 below:yX p w wr
 ok:PN Xk
 eq:qd s n Xk=F
 fuel:Xk.err=0->s.size<n+Xk.i
def zc2(p:Nat)(s:ByteArray)(w:z7)(F:Sc)(wr:z7):Prop:=∃Xk n,yo9 p s w F Xk n wr
def yq3(p:Nat)(w:z7):Nat:=match w.cell? (p,4) with|some (.int _ n)=>if n=0 then 1 else 0|_=>0
def An(h:yT p s x w):yq3 p w=if x.err=0 then 1 else 0:=by
 unfold yq3;rw[h.c4];simp
def iF(s:ByteArray)(w:z7)(hs:s.size<=100000):zE prog 18 #[.string s] w (Pe s w):=by
 have D:=Z (λt=>Te s w t hs);obtain⟨p,hp⟩:=zo (w:Nat);rw[hp]at D;obtain⟨F,hF⟩:=zo (qd s (s.size+1) jf);have HF:=Z hF;have u:=Z (show xP s=if F.err=0/\F.uo≠[]then yt F 3 s.size else F by rw[<-hF];rfl);have HPS:=Z hp;clear hF;go_enter func18,ntmps18;go_wp2_with fail;refine fP ?_;intro W0 A;have K:yT p s jf W0:=by rw[A];exact D.o _
 have L:yX p w W0:=by rw[A];exact(z8 _ _).alloc (Nat.le_of_eq hp.symm) _
 try rw[hp]
 have P:=Z K;have Q:=Z L;clear A K L hp;go_loopw [] (λwr=>zc2 p s w F wr) (λwr=>2*(s.size - za9 p wr)+yq3 p wr)
 case atStart=>exact⟨jf,s.size+1,P.o,Q.o,⟨zG _,zG _,λm hm=>JV⟩,HF.o,λ_=>by show s.size<s.size+1+0;omega⟩
 case round =>
  obtain⟨Xk,n,r⟩:=hrel;have c1:=r.at_.c1;have c4:=r.at_.c4;have G:=An r.at_;have E:=atS r.at_;obtain⟨x,g,HW,O,N⟩:=FD r r.at_ r.below G E;obtain⟨k,S⟩:=zo Xk.i;rw[S]at c1;have B:=Z S;clear r S G E;by_cases he:Xk.err=0
  .have C:=Z he;rw[he]at c4;by_cases hi:k<s.size
   .have k1:decide ((k:Int)<(s.size:Int))=true:=(by simp;omega);have V:(k:Int)<(s.size:Int):=J;have q:=ok_one s Xk x.o.ok he (by rw[B.o];exact hi);have b:=Z q;have HO:=Z (zv0 p s Xk wr g.o (by rw[B.o];exact hi) x.o.ok);clear he q;go_wp2_with fail;refine HO.o.mono ?_;rintro e M ⟨rfl,c,d⟩;have a:=Z c;have y:=Z (HW.o.trans d);clear c d;go_wp2_with fail;go_roundw
    case rel =>
     obtain⟨m,hm⟩:∃m,n=m+1:=⟨n - 1,by have:=x.o.fuel C.o;have:=B.o;omega⟩;refine⟨fC s Xk,m,a.o,y.o,b.o.1,?_,λR=>?_⟩
     .rw[<-x.o.eq,hm,dn ⟨C.o,by rw[B.o];exact hi⟩]
     .have h1:=b.o.2.2 R;have h2:=x.o.fuel C.o;omega
    case measure =>
     rw[An a.o,atS a.o,O.o,N.o,zl C.o];have h1:=b.o.2.1;have h2:=b.o.2.2;have W:=a.o.here;have h4:=B.o;split
     .next R =>
      have:=h2 R;omega
     .omega
   .have k1:decide ((k:Int)<(s.size:Int))=false:=(by simp;omega);have V:¬(k:Int)<(s.size:Int):=J;have f:qd s n Xk=Xk:=qi (λh=>hi (by rw[<-B.o];exact h.2)) n;have j:=Z (show F=Xk from x.o.eq.symm.trans f);obtain⟨v2,v3,-,-,W,z,-⟩:=g.o.rows;obtain⟨m,hm⟩:=zo Xk.uo.length;rw[hm]at z;obtain⟨oa,oc,rfl⟩:=zD z;clear he f z;by_cases l:m=0
    .have H:Xk.uo=[]:=zF (hm.trans l);have HMM:=Z (show xP s=Xk by rw[u.o,j.o];exact zL (λh=>h.2 H));have j4:decide ((0:Int)<(m:Int))=false:=(by simp;omega);have U:decide (0<m)=false:=zV;have T:¬0<m:=J;clear hm H l;obtain⟨v2,v3,h2,h2',-,-,-⟩:=g.o.rows;have H2:=Z h2';have c4:=g.o.c4;have c5:=g.o.c5;obtain⟨er,her⟩:∃n,Xk.err=n:=⟨_,rfl⟩;obtain⟨pl,lu⟩:∃n,Xk.place=n:=⟨_,rfl⟩;rw[her]at c4;exact zi7
    .have I:Xk.uo≠[]:=λe=>l (by rw[<-hm,e];rfl)
     have HMM:=Z (show xP s=yt Xk 3 s.size by rw[u.o,j.o];exact zl ⟨C.o,I⟩);have j4:decide ((0:Int)<(m:Int))=true:=zV;have U:decide (0<m)=true:=zV;have T:0<m:=J;clear hm I l;go_wp2_with fail;refine(jG p s Xk 3 s.size wr g.o).mono ?_;rintro e M ⟨rfl,c,d⟩;obtain⟨Yk,hY⟩:=zo (yt Xk 3 s.size);rw[hY]at c HMM;have a:=Z c;have y:=Z (HW.o.trans (d.below g.o));clear c d hY c1 c4 W;obtain⟨v2,v3,h2,h2',-,-,-⟩:=a.o.rows;have H2:=Z h2';have c4:=a.o.c4;have c5:=a.o.c5;obtain⟨er,her⟩:∃n,Yk.err=n:=⟨_,rfl⟩;obtain⟨pl,lu⟩:∃n,Yk.place=n:=⟨_,rfl⟩;rw[her]at c4;rw[lu]at c5;have HER:=Z her;have HPL:=Z lu;clear h2' her lu;go_wp2_with fail;have jq:zy M.drew p 2 v2/\zy M.drew p 4 er/\zy M.drew p 5 pl:=⟨h2,c4,c5⟩;refine bW (λW':z7=>zy W' p 2 v2/\zy W' p 4 er/\zy W' p 5 pl) [0,1,2,3,4,5,6,7,8,9,10,11,12,13,14] 0 jq ?_;refine fR ?_ _;go_wp2;refine zU (v := .tuple #[v2,er,pl]) ?_ rfl ?_
     .simp[yk,results18,go_sem]
     have hm:xP s=Yk:=HMM.o;unfold Pe;rw[hm,HER.o,HPL.o];exact⟨v2,rfl,by rw[HPS.o];exact bS H2.o,by rw[HPS.o];exact y.o.drew⟩
  .have f:qd s n Xk=Xk:=qi (λh=>he h.1) n;have j:=Z (show F=Xk from x.o.eq.symm.trans f);have HMM:=Z (show xP s=Xk by rw[u.o,j.o];exact zL (λh=>he h.1));have j1:((Xk.err:Int)==0)=false:=(by simp;omega);clear f c4;obtain⟨v2,v3,h2,h2',-,-,-⟩:=g.o.rows;have H2:=Z h2';have c4:=g.o.c4;have c5:=g.o.c5;obtain⟨er,her⟩:∃n,Xk.err=n:=⟨_,rfl⟩;obtain⟨pl,lu⟩:∃n,Xk.place=n:=⟨_,rfl⟩;rw[her]at c4 j1 he;have j1n:(er==0)=false:=(by simpa using he);have j1d:decide (er=0)=false:=(by simpa using he);exact zi7
variable{j:Nat}
structure ql(w:z7)(v:zx)(l:List Mk):Prop where
 sl:∃a cap,v = .slice a l.length cap
 ne:0<l.length->∃g cap,v = .slice (some ⟨g,0,none⟩) l.length cap/\∀j o (h:j<l.length),o<6->w.cell? ⟨g,j*6+o,none⟩=(xl l[j])[o]?
def ql.below{l:List Mk}(h:ql w v l)(hb:zJ w w'):ql w' v l:=by
 refine⟨h.sl,λe=>?_⟩;obtain⟨g,cap,hv,hc⟩:=h.ne e;refine⟨g,cap,hv,λj o d c=>?_⟩;have a:=hc j o d c;have b:g<(w:Nat):=by
  have hs:((xl l[j])[o]?).isSome=true:=by
   match o,c with
   | 0,_=>rfl
   | 1,_=>rfl
   | 2,_=>rfl
   | 3,_=>rfl
   | 4,_=>rfl
   | 5,_=>rfl
  obtain⟨u,f⟩:=Option.isSome_iff_exists.1 hs;rw[f]at a;exact Y w _ a
 exact(hb.cell (p:=(g,j*6+o)) b).trans a
def iD(l:List Mk)(j o:Nat)(b:j<l.length)(f:o<6):(vU l)[j*6+o]? = (xl l[j])[o]? := by
 induction l generalizing j with
 |nil=>cases b
 |cons a r d =>
  have e:vU (a::r)=xl a++vU r:=rfl;have c:(xl a).length=6:=rfl;rw[e];cases j with
  |zero =>
   rw[qM J];simp
  |succ j =>
   rw[zc J,c,show(j+1)*6+o - 6=j*6+o by omega];exact d j (by simpa using b)
def ql.bY{base:Nat}{l:List Mk}(h:w.ownsRow base e 6 v l.length (vU l)):ql w v l:=by
 refine⟨zD h,λd=>?_⟩;obtain⟨g,k,rfl,i,b,a⟩:=vK h d;exact⟨g,k,rfl,λj o c f=>by rw[a (j*6+o) J,iD l j o c f]⟩
def opens(m:Mk):Bool:=decide (m.kind=40) ||decide (m.kind=91)
def Ao(m:Mk):Bool:=decide (m.kind=41) ||decide (m.kind=93)
def YO(m:Mk)(d:Int):Int:=if opens m=true then d+1 else if Ao m=true then d - 1 else d
def endGo:List Mk->Int->Nat->Nat
 |[],_,i=>i
 |m::t,d,i=>if YO m d=0 then i else endGo t (YO m d) (i+1)
def Yj(l:List Mk)(k:Nat):Nat:=endGo (l.drop k) 0 k
def Pz:∀(l:List Mk) (d:Int) (i:Nat),i<=endGo l d i/\endGo l d i<=i+l.length
 |[],d,i=>⟨X _,X _⟩
 |m::t,d,i=>by
  rw[endGo];split
  .exact⟨X _,WD _ _⟩
  .have:=Pz t (YO m d) (i+1);simp only[zm];omega
def MZ(l:List Mk)(k:Nat)(h:k<=l.length):k<=Yj l k/\Yj l k<=l.length:=by
 have:=Pz (l.drop k) 0 k;rw[xz]at this;unfold Yj;omega
def drop_mk{l:List Mk}(h:j<l.length):l.drop j=l[j]::l.drop (j+1):=yH h
def MY(v:zx)(l:List Mk)(k:Nat)(w:z7)(h:ql w v l)(P:k<=l.length)(T:l.length<=1000000)(p:∀m∈l,m.kind<256) :
  zE prog 32 #[v,k] w λe w'=>e = .returned (Yj l k:Nat)/\w=w':=by
 obtain⟨a,cap,rfl⟩:=h.sl;obtain⟨E,K⟩:=zo (Yj l k);obtain⟨n,hn⟩:=zo l.length;have S:=Z h;have O:=Z hn;have I:=Z p;rw[K];rw[hn]at P T|-;have R:=Z (show endGo (l.drop k) 0 k=E from K);clear h K hn p;go_enter func32,ntmps32;go_wp2_with fail;go_loop [5,6] (λd i=>∃(j:Nat) (x:Int),i = .int .i64 j/\d = .int .i64 x/\j<=n/\endGo (l.drop j) x j=E/\-(j:Int)<=x/\x<=(j:Int)) (λ_ i=>n - (intOf i).toNat)
 case atStart=>exact⟨k,0,rfl,rfl,P,R.o,J,J⟩
 case round =>
  obtain⟨j,x,rfl,rfl,hj,he,U,V⟩:=hrel;have b:=Z he;clear he;by_cases N:j<n
  .have q:j<l.length:=(by rw[O.o];exact N);obtain⟨g,D,hv,hc⟩:=S.o.ne J;obtain⟨ga,rfl⟩:=zo a;have L:a=some ⟨g,0,none⟩:=(by cases hv;rfl);have F:cap=D:=(by cases hv;rfl);subst L;have c0:=hc j 0 q J;obtain⟨m,hm⟩:=zo (l[j]);rw[hm]at c0;simp only[xl,yD,fD]at c0;have C:=Z (show l.drop j=m::l.drop (j+1)by rw[drop_mk q,hm]);have M:=I.o m (hm▸xd q);have Q:(j:Int)<(n:Int):=J;clear hm hc hv F q;have q1:yU.wrap ((j:Int)+1)=(j:Int)+1:=qK;have q2:yU.wrap (x+1)=x+1:=qK;have q3:yU.wrap (x - 1)=x - 1:=qK;obtain⟨f,A⟩:=zo m.kind;rw[A]at c0 M;have s:=Z A;clear A;by_cases B:f=40\/f=91
   .have r:=Z (show YO m x=x+1 by unfold YO opens;rw[s.o];rcases B with rfl|rfl<;>rfl);by_cases c:x+1=0
    .have H:(x+1==0)=true:=(by simpa using c);have HF:=Z (show j=E by rw[<-b.o,C.o,endGo,r.o,zl c]);rcases B with rfl|rfl;all_goals
      go_wp2;go_ret;exact⟨congrArg (λn:Nat=>UK n) HF.o,rfl⟩
    .have H:(x+1==0)=false:=(by simpa using c);have HF:=Z (show endGo (l.drop (j+1)) (x+1) (j+1)=E by rw[<-b.o,C.o,endGo,r.o,zL c]);rcases B with rfl|rfl;all_goals
      go_wp2;go_round
      case rel=>exact⟨j+1,x+1,xi,rfl,J,HF.o,J,J⟩
      case measure=>simp[intOf];omega
   .have t:¬f=40:=λe=>B (.inl e)
    have y:¬f=91:=λe=>B (.inr e)
    have W:((f:Int)==40)=false:=zV;have j91:((f:Int)==91)=false:=zV;by_cases hs:f=41\/f=93
    .have r:=Z (show YO m x=x - 1 by unfold YO opens Ao;rw[s.o];rcases hs with rfl|rfl<;>rfl);by_cases c:x - 1=0
     .have H:(x - 1==0)=true:=(by simpa using c);have HF:=Z (show j=E by rw[<-b.o,C.o,endGo,r.o,zl c]);rcases hs with rfl|rfl;all_goals
       go_wp2;go_ret;exact⟨congrArg (λn:Nat=>UK n) HF.o,rfl⟩
     .have H:(x - 1==0)=false:=(by simpa using c);have HF:=Z (show endGo (l.drop (j+1)) (x - 1) (j+1)=E by rw[<-b.o,C.o,endGo,r.o,zL c]);rcases hs with rfl|rfl;all_goals
       go_wp2;go_round
       case rel=>exact⟨j+1,x - 1,xi,rfl,J,HF.o,J,J⟩
       case measure=>simp[intOf];omega
    .have u:¬f=41:=λe=>hs (.inl e)
     have z:¬f=93:=λe=>hs (.inr e)
     have j41:((f:Int)==41)=false:=zV;have j93:((f:Int)==93)=false:=zV;have r:=Z (show YO m x=x by unfold YO opens Ao;rw[s.o];simp[t,y,u,z]);by_cases c:x=0
     .have H:(x==0)=true:=(by simpa using c);have HF:=Z (show j=E by rw[<-b.o,C.o,endGo,r.o,zl c]);clear t y u z B hs;exact oF
     .have H:(x==0)=false:=(by simpa using c);have HF:=Z (show endGo (l.drop (j+1)) x (j+1)=E by rw[<-b.o,C.o,endGo,r.o,zL c]);clear t y u z B hs;go_wp2;go_round
      case rel=>exact⟨j+1,x,xi,rfl,J,HF.o,J,J⟩
      case measure=>simp[intOf];omega
  .have G:j=n:=(by omega);have HF:=Z (show n=E by rw[<-b.o,yq (by rw[O.o];omega),endGo,G]);subst G;exact oF
def zv4:Wd:=[115,101,108,101,99,116]
def uQ(m:Mk):Nat:=if m.kind=110\/(m.kind=40/\m.how≠zv4)then 110 else if m.kind=40 then 116 else 0
def Hu(m:Mk)(w:z7) :
  zE prog 30 #[.agg #[.int .u8 (m.kind:Nat),zv m.text,zv m.name,zv m.how,zv m.off,m.pl]] w λe w'=>e = .returned (.int .u8 (uQ m:Nat))/\zJ w w':=by
 obtain⟨f,d⟩:∃k,m.kind=k:=⟨_,rfl⟩;obtain⟨hw,c⟩:∃k,m.how=k:=⟨_,rfl⟩;have g:=Z (show uQ m=if f=110\/(f=40/\hw≠zv4)then 110 else if f=40 then 116 else 0 by rw[<-d,<-c];rfl);rw[d,c];clear d c;by_cases a:f=110
 .have HS:=Z (g.o.trans (zl (.inl a)));subst a;exact mH
 .by_cases b:f=40
  .by_cases hs:hw=zv4
   .have HS:=Z (show uQ m=116 by rw[g.o,zL (λe=>by rcases e with e|e;exact a e;exact e.2 hs),zl b]);subst b;have h:(hw==[115,101,108,101,99,116])=true:=(by rw[hs];rfl);have i:(hw !=[115,101,108,101,99,116])=false:=(by rw[bne,h];rfl);clear hs;go_enter func30,ntmps30;go_wp2;refine zU (v := .int .u8 (116:Nat)) ?_ rfl ?_
    .simp[yk,results30,go_sem]
    exact mT
   .have HS:=Z (show uQ m=110 by rw[g.o,zl (.inr ⟨b,hs⟩)]);subst b;have h:(hw==[115,101,108,101,99,116])=false:=beq_eq_false_iff_ne.2 hs;have i:(hw !=[115,101,108,101,99,116])=true:=(by rw[bne,h];rfl);clear hs;exact mH
  .have HS:=Z (show uQ m=0 by rw[g.o,zL (λe=>by rcases e with e|e;exact a e;exact b e.1),zL b]);have j:((f:Int)==110)=false:=(by simp;omega);have l:((f:Int)==40)=false:=zV;clear a b;go_enter func30,ntmps30;go_wp2;refine zU (v := .int .u8 (0:Nat)) ?_ rfl ?_
   .simp[yk,results30,go_sem]
   exact mT
def KW(l:List Mk)(e:Nat):Nat->Nat->List Nat
 | 0,_=>[]
 |n+1,i=>if i<e then i::KW l e n (Yj l i+1)else []
def uD(l:List Mk)(k:Nat):List Nat:=KW l (Yj l k) (l.length+1) (k+1)
def Py(l:List Nat):List zx:=l.map λn=>yF .i64 (n:Nat)
def MX(v:zx)(l:List Mk)(k:Nat)(w:z7)(h:ql w v l)(hk:k<l.length)(hl:l.length<=1000000)(a:∀m∈l,m.kind<256) :
  zE prog 31 #[v,k] w λe w'=>∃u,e = .returned u/\w'.ownsRow (w:Nat) 3 1 u (uD l k).length (Py (uD l k))/\zJ w w':=by
 obtain⟨E,M⟩:=zo (Yj l k);obtain⟨B,hB⟩:=zo (uD l k);have U:E<=l.length:=M▸(MZ l k J).2;obtain⟨HB,t,HE,HH⟩:=hdd (show KW l E (l.length+1) (k+1)=B by rw[<-M];exact hB) (λj (hj:j<=l.length) w (h:ql w v l)=>MY v l j w h hj hl a) (show zE prog 32 #[v,k] w λe w'=>e = .returned E/\w=w' from M▸MY v l k w h J hl a) h;have q0:yU.wrap ((k:Int)+1)=(k:Int)+1:=qK;obtain⟨n,hn⟩:=zo l.length;rw[hn]at hk hl U HB;rw[hB];have R:=Z hn;obtain⟨A,hA⟩:=zo (w:Nat);have r:=Z hA;rw[hA];clear h M hn a hB hA;go_enter func31,ntmps31;go_wp2_with fail;refine HE.o.mono ?_;rintro e w1 ⟨rfl,rfl⟩;go_wp2_with fail;go_loopw [5,7] (λo i wr=>∃(j m:Nat) (acc:List Nat),i = .int .i64 j/\j<=n+1/\wr.ownsRow A 3 1 o acc.length (Py acc)/\yX A w wr/\acc++KW l E m j=B/\E<m+j/\acc.length<=j) (λ_ i _=>n+2 - (intOf i).toNat)
 case atStart=>exact⟨k+1,n+1,[],xi,J,r.o▸yr _ _ _ _,z8 _ _,HB.o,J,zG _⟩
 case round =>
  obtain⟨j,m,acc,rfl,hj,p,F,G,hf,V⟩:=hrel;have x:=Z G;have b:=Z F;have HO:=Z p;obtain⟨na,g⟩:∃n,acc.length=n:=⟨_,rfl⟩;rw[g]at p V;have c:=Z g;obtain⟨oa,oc,rfl⟩:=zD p;clear G F g;by_cases I:j<E
  .have K:(j:Int)<(E:Int):=(by omega);have HM:=Z (HH.o.below (Z (r.o▸b.o)).out);have D:∀W,zJ wr W->yX A w W:=λW h=>b.o.trans (h.mono (by have:=b.o.size;have:=r.o;omega))
   have O:=Z D;have z:=Z p;have hAs:A<=(wr:Nat):=(by have:=b.o.size;have:=r.o;omega);clear p D;go_wp2_with (at_builtin;refine uI ?_);intro W1 fe;have qV:zJ wr W1:=oH;have T:=λi=>zg wr #[j] 3 (0,0) i
   rw[<-fe]at T;have s1:(W1:Nat)=(wr:Nat)+1:=JY;have s:=Z qV;clear fe;refine Up U1 rfl _ _ rfl A _ na (Py acc) rfl (vx z.o s.o) ⟨(wr:Nat),0,none⟩ 1 1 [.int .i64 j] rfl rfl (by exact cells_one (T 0)) ?x2 J J ?x3
   case x2 =>
    exact jr
   intro v5 W5 L H _;have f:yX A w W5:=(O.o _ s.o).grown H J (λq hq=>(z.o.lt q hq).1);have N:=Z f;have S:=Z L;have Q:=Z (HH.o.below (Z (r.o▸f)).out);clear L H f T;go_wp2_with fail;refine(t.o j (by rw[R.o];omega) _ Q.o).mono ?_;rintro e w6 ⟨rfl,rfl⟩;obtain⟨e2,d⟩:∃e,Yj l j=e:=⟨_,rfl⟩;have hle:=MZ l j (by rw[R.o];omega);rw[d,R.o]at hle;rw[d];have P:=Z d;have q5:yU.wrap ((e2:Int)+1)=(e2:Int)+1:=qK;clear d;go_wp2_with fail;go_roundw
   case rel =>
    obtain⟨m',hm⟩:∃m',m=m'+1:=⟨m - 1,J⟩;refine⟨e2+1,m',acc++[j],xi,J,?_,N.o,?_,J,?_⟩
    .have h5:=S.o;rw[show(acc++[j]).length=na+1 by simp[c.o]];simpa[Py]using h5
    .rw[<-x.o,hm,KW,zl I,P.o];simp
    .simp[c.o];omega
   case measure=>simp[intOf];omega
  .have K:¬(j:Int)<(E:Int):=(by omega);have C:acc=B:=by
    rw[<-x.o];cases m with
    |zero=>simp[KW]
    |succ m=>rw[KW,zL I];simp
   have y:=Z C;clear C p;go_wp2;refine zU (v := .slice oa na oc) ?_ rfl ?_
   .simp[yk,results31,go_sem]
   exact⟨_,rfl,by rw[<-y.o,c.o];exact c.o▸HO.o,b.o⟩
end Go.Proofs.YtfcemhlpdcnckaaGreatDoor
