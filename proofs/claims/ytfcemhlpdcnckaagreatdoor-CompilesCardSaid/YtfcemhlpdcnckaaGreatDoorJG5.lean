import Derived.Test.YtfcemhlpdcnckaaGreatDoorJG4
import Derived.Lib.OthersKept
import Derived.Maps.OwnSet
import Derived.Maps.Views
import Derived.IntWalk
import Derived.Deep.LoopGhost
import Derived.Laws.Cover4
import Derived.WalkMore
set_option linter.defProp false
set_option maxHeartbeats 64000000
open Go.Act renaming put->ZP
open Go renaming Addr->yi,Calls->zE,Ending->gG,TypeId->uP,Value->zx,World->z7,bodyPost_ret->zU,iterPos_of->QN,ownsRow_setCell_other->yC,plainElem_int->Zh,results->yk,run_convert_runes->ygb,run_underlying->zuu
open Go.Addr renaming add->xM,block->uh
open Go.AllReadyH renaming cons->uv,nil->Ye
open And renaming intro->qZ
open Array renaming getElem?_eq_getElem->XN,getElem?_eq_some_iff->vN,getElem?_modify->Zt
open Go.RowKit renaming Below->yX,ownsRow_setCell_below->zk
open Go.RowKit.Below renaming heap_alloc->xA,heap_setCell->zh,refl->z8
open Bool renaming eq_iff_iff->vF,false_ne_true->lM,or_assoc->lI
open ByteArray renaming mk->jW
open Classical renaming byContradiction->zi
open Go.Conv renaming runesFrom->C0
open Go.DataW.lit renaming injEq->Hs
open Go.Instr renaming lookup->C6,makeFunc->gP,mapUpdate->Cw,slice->ygd
open Go.IntKind renaming i64->yU,u8->gD
open Go.Lib renaming cell_of_heap->zP,frozen_of_heap->yj,hid->Z
open List renaming drop_eq_getElem_cons->yH,drop_of_length_le->yq,eq_nil_of_length_eq_zero->zF,foldl_cons->QA,getD_eq_getElem?_getD->zM,getElem?_append_left->qM,getElem?_append_right->zc,getElem?_drop->MM,getElem?_eq_getElem->zw,getElem?_eq_none->Xe,getElem?_eq_some_iff->vq,getElem_mem->xd,getElem_take->ypu,idxOf_le_length->ypy,length->qj,length_append->zI,length_cons->zm,length_drop->xz,length_nil->ur,length_take->xr,mem_append->xY,mem_map->yk5,mem_of_getElem?->gg,mem_singleton->uG,nil_append->kr,range->Um,setIfInBounds_toArray->yb,set_cons_succ->xq,set_cons_zero->xu,takeWhile_cons_of_neg->kR,takeWhile_cons_of_pos->Un,take_length->kp,take_of_length_le->xJ,take_succ_eq_append_getElem->zr
open Go.Lit.int renaming injEq->zk5
open Go.Maps renaming atKey_put_other->fF,atKey_put_same->dC,has->znq,has_put_other->Xc,has_put_same->Vr,string_keyed->vE
open Nat renaming le_of_lt->xx,le_refl->X,le_succ->bG,le_trans->zZ,lt_irrefl->yO,lt_of_lt_of_le->ze,lt_succ_self->xf,ne_of_lt->Ch,not_lt_zero->uf,zero_add->V9,zero_le->zG
open Go.Oper renaming wp->XM
open Option.some renaming inj->zR
open Prod.mk renaming injEq->Yg
open UInt8 renaming ofNat->yW
open Go.Utf8 renaming encode->F9
open Go.Value renaming bool->UH,int->yF,ownBlock->qb,slice->yI
open Go.WideAt renaming IsKeyLit->ku
open Go.WideMaps renaming keyOf_string_mk->xy
open Go.World renaming block_lt_of_cell?->Y,cell?_alloc_lt->za,cell?_of_block->yZ,frozen?->PJ,frozen?_of_block->zb,frozen?_setCell->zO,ownsMap_made->C5,ownsRow_lit->znu,ownsRow_nil->yr,setCell->xW
open Go.World.ownsRow renaming cellAt->ypv
open Go.Proofs.Tryz
namespace Go.Proofs.YtfcemhlpdcnckaaGreatDoor
open Go Go.RowKit
set_option maxRecDepth 10000
variable{dg:ByteArray}{fi gr mi po:Int}{B:Nat}{c o v:zx}{W W' w:z7}
def Ec(rs:List KZ)(v:zx)(w:z7)(hv:fu w v rs)(h:rs.length<=1000000)(i:∀q∈rs,q.1.length<=1000000/\q.2.length<=1000000)(g:tN w)(f:kb w) :
  dM w v (Zb rs) (λ_ _=>True):=by
 intro W d;refine(SR rs v W (hv.below d) h i (g.below d) (f.below d)).mono ?_;rintro e w1 ⟨b,hb⟩;rw[ej];refine⟨?_,hb⟩;cases hS:Ad rs with
 |none =>
  rw[hS]at b;exact⟨none,0,0,b,λ_ _=>trivial⟩
 |some S =>
  rw[hS]at b;obtain⟨a,c,he,hr⟩:=b;exact⟨a,_,c,he,λ_ _=>trivial⟩
def uW.slice{rs:List KZ}(h:uW w v rs):∃a c,v = .slice a rs.length c:=by
 obtain⟨⟨a,c,hv,_⟩,_⟩:=h;exact⟨a,c,hv⟩
structure LB(b:Nat)(c o:zx)(mi po gr fi ne:Int)(dg:ByteArray)(W:z7):Prop where
 h:W.heap[b]? = some (.cells #[c,o,.int .i32 mi,.int .i32 po,.int .i32 gr,.int .u8 fi,.int .u8 ne,.string dg] 27 (0,0))
def LB.below{b:Nat}{ne:Int}(h:LB b c o mi po gr fi ne dg W)(hb:yX B W W')(a:b<B):LB b c o mi po gr fi ne dg W':=⟨by rw[hb.block b a];exact h.h⟩
def LB.at_{b:Nat}{ne:Int}(h:LB b c o mi po gr fi ne dg W):GL W b c o mi po gr fi ne dg :=
 ⟨zP h.h 0,zP h.h 1,zP h.h 2,zP h.h 3,zP h.h 4,zP h.h 5,zP h.h 6,zP h.h 7⟩
def LB.fz{b:Nat}{ne:Int}(h:LB b c o mi po gr fi ne dg W):W.frozen? (b,0)=false/\W.frozen? (b,1)=false/\W.frozen? (b,2)=false/\W.frozen? (b,3)=false/\W.frozen? (b,4)=false/\W.frozen? (b,5)=false/\W.frozen? (b,6)=false/\W.frozen? (b,7)=false :=
 ⟨yj h.h 0,yj h.h 1,yj h.h 2,yj h.h 3,yj h.h 4,yj h.h 5,yj h.h 6,yj h.h 7⟩
def LB.made(c o:zx)(mi po gr fi ne:Int)(dg:ByteArray)(w:z7):LB (w:Nat) c o mi po gr fi ne dg (w.alloc (.cells #[c,o,.int .i32 mi,.int .i32 po,.int .i32 gr,.int .u8 fi,.int .u8 ne,.string dg] 27)):=⟨R6⟩
def LB.other{b:Nat}{ne:Int}(h:LB b c o mi po gr fi ne dg W){a:yi}(ha:b≠a.block)(u:zx):LB b c o mi po gr fi ne dg (W.setCell a u):=⟨by rw[zh _ _ _ _ ha];exact h.h⟩
def LB.Bk{b:Nat}{ne:Int}(h:LB b c o mi po gr fi ne dg W)(v:zx):LB b c v mi po gr fi ne dg (W.setCell (zX b 1) v):=⟨VY⟩
def LB.V4{b:Nat}{ne:Int}(h:LB b c o mi po gr fi ne dg W)(v:zx):LB b v o mi po gr fi ne dg (W.setCell (zX b 0) v):=⟨VY⟩
def LB.pQ{b:Nat}{ne:Int}(h:LB b c o mi po gr fi ne dg W)(v:Int):LB b c o v po gr fi ne dg (W.setCell (zX b 2) (.int .i32 v)):=⟨VY⟩
def LB.wj{b:Nat}{ne:Int}(h:LB b c o mi po gr fi ne dg W)(v:Int):LB b c o mi v gr fi ne dg (W.setCell (zX b 3) (.int .i32 v)):=⟨VY⟩
def LB.zd1{b:Nat}{ne:Int}(h:LB b c o mi po gr fi ne dg W)(v:Int):LB b c o mi po gr v ne dg (W.setCell (zX b 5) (.int .u8 v)):=⟨VY⟩
def LB.wk{b:Nat}{ne:Int}(h:LB b c o mi po gr fi ne dg W)(v:Int):LB b c o mi po gr fi v dg (W.setCell (zX b 6) (.int .u8 v)):=⟨VY⟩
def LB.yc8{b:Nat}{ne:Int}(h:LB b c o mi po gr fi ne dg W)(v:ByteArray):LB b c o mi po gr fi ne v (W.setCell (zX b 7) (.string v)):=⟨VY⟩
def LB.zjg{b:Nat}{ne:Int}(h:LB b c o mi po gr fi ne dg W)(v:Int):LB b c o mi po v fi ne dg (W.setCell (zX b 4) (.int .i32 v)):=⟨VY⟩
def Si(cv ov:zx)(cs os:List Wd)(v:zx)(xs:List Int)(f n:Int)(dg:ByteArray)(w:z7)(hc:yM w cv cs)(ho:yM w ov os)(CD:cs.length<=1000000)(hol:os.length<=1000000)(h:XZ w v xs) :
  zE prog 5 #[cv,ov,v,f,n,.string dg] w λe w' =>
   (∃c o,e = .returned (CN c o (wz xs 0) (wz xs 1) (wz xs 2) (gD.wrap f) (gD.wrap n) dg)/\uW w' c (yg cs)/\uW w' o (yg os))/\zJ w w':=by
 have HS:=Z h;have HO:=Z ho;obtain⟨s0,N⟩:∃s,s=wz xs 0:=⟨_,rfl⟩;obtain⟨s1,O⟩:∃s,s=wz xs 1:=⟨_,rfl⟩;obtain⟨s2,P⟩:∃s,s=wz xs 2:=⟨_,rfl⟩;have H0:=Z N;have H1:=Z O;have H2:=Z P;rw[<-N,<-O,<-P];have lK:=Z hc;clear N O P h ho hc;go_enter func5,ntmps5;go_wp2_with fail;refine yh ?_;intro W1 fe;have t:zJ w W1:=oH;have L1:LB (w:Nat) (.slice none 0 0) (.slice none 0 0) 0 0 0 0 0 ⟨#[]⟩ W1:=by rw[fe];exact LB.made ..
 have N7:(W1:Nat)=(w:Nat)+1:=JY;clear fe;refine(EA cv cs W1 (lK.o.below t) CD).mono ?_;rintro e w2 ⟨⟨c,rfl,a⟩,u⟩;have j:=t.trans (u.mono t.size);rw[N7]at a;obtain⟨ca,i,rfl⟩:=zD a;have L2:=L1.below u J;have b:(w:Nat)<(w2:Nat):=by have:=u.size;omega
 have HCO:=Z a;have HCN:=Z (λk (hk:(yI ca (yg cs).length i).ownBlock=some k)=>(a.lt k hk).2);clear a t u L1 N7;obtain⟨c0,c1,c2,c3,c4,c5,c6,c7⟩:=L2.at_;obtain⟨z0,z1,z2,y,z,A,C,D⟩:=L2.fz;go_wp2_with fail;refine yh ?_;intro W3 fE;have x:zJ w W3:=by rw[fE];exact j.alloc j.size _
 have l:zJ w2 W3:=D2;have L3:LB (w2:Nat) (.slice ca (yg cs).length i) (.slice none 0 0) 0 0 0 (f % 256) (n % 256) dg W3:=by rw[fE];exact LB.made ..
 have Q:(W3:Nat)=(w2:Nat)+1:=by rw[fE];simp
 have HC3:=Z (bn HCO.o l);have A3:=L2.below l b;obtain⟨B,hB⟩:∃B,B=(w2:Nat):=⟨_,rfl⟩;rw[<-hB]at L3 Q HCN b|-;clear fE j l c0 c1 c2 c3 c4 c5 c6 c7 z0 z1 z2 y z A C D L2 HCO hB;refine(EA ov os W3 (HO.o.below x) hol).mono ?_;rintro e w4 ⟨⟨o,rfl,a⟩,g⟩;have E:=x.trans (g.mono x.size);rw[Q]at a;obtain⟨m,p,rfl⟩:=zD a;have L4:=L3.below g J;have A4:=A3.below g J;have F:=Z (qZ (bn HC3.o g) a);clear a x g L3 A3 HC3 Q;have g:=E;clear E;have r:=Z (λ(q:(yI ca (yg cs).length i).ownBlock=some B)=>yO _ (HCN.o _ q));obtain⟨c0,c1,c2,c3,c4,c5,c6,c7⟩:=L4.at_;obtain⟨z0,z1,z2,y,z,A,C,D⟩:=L4.fz;obtain⟨x0,x1,x2,x3,x4,x5,x6,R⟩:=A4.at_;obtain⟨S,y1,y2,y3,T,U,V,W⟩:=A4.fz;go_wp2_with fail;refine yh ?_;intro W5 hW5;have F5:zJ w W5/\LB (w:Nat) (.slice none 0 0) (.slice none 0 0) 0 0 0 0 0 ⟨#[]⟩ W5/\LB B (.slice ca (yg cs).length i) (.slice m (yg os).length p) 0 0 0 (f % 256) (n % 256) dg W5/\W5.ownsRow ((w:Nat)+1) 47 2 (.slice ca (yg cs).length i) (yg cs).length (uz (yg cs))/\W5.ownsRow (B+1) 47 2 (.slice m (yg os).length p) (yg os).length (uz (yg os)):=by
  rw[hW5];exact⟨g.setCell (xx b) _,A4.other (Ch b) _,L4.Bk _,yC F.o.1 (λq=>r.o q) _,zk F.o.2 (xf _) _⟩
 clear hW5 c0 c1 c2 c3 c4 c5 c6 c7 z0 z1 z2 y z A C D S y1 y2 y3 T U V W x0 x1 x2 x3 x4 x5 x6 R L4 A4 F g;obtain⟨K,A5,L5,hr5,Ya⟩:=F5;have G:=Z (qZ hr5 Ya);clear hr5 Ya;refine(Bv v xs 0 zj W5 (HS.o.below K)).mono ?_;rintro e w' ⟨rfl,rfl⟩;rw[<-H0.o];obtain⟨c0,c1,c2,c3,c4,c5,c6,c7⟩:=L5.at_;obtain⟨z0,z1,z2,y,z,A,C,D⟩:=L5.fz;obtain⟨x0,x1,x2,x3,x4,x5,x6,R⟩:=A5.at_;obtain⟨S,y1,y2,y3,T,U,V,W⟩:=A5.fz;go_wp2_with fail;refine yh ?_;intro W6 Gd;have F6:zJ w W6/\LB (w:Nat) (.slice none 0 0) (.slice none 0 0) 0 0 0 0 0 ⟨#[]⟩ W6/\LB B (.slice ca (yg cs).length i) (.slice m (yg os).length p) s0 0 0 (f % 256) (n % 256) dg W6/\W6.ownsRow ((w:Nat)+1) 47 2 (.slice ca (yg cs).length i) (yg cs).length (uz (yg cs))/\W6.ownsRow (B+1) 47 2 (.slice m (yg os).length p) (yg os).length (uz (yg os)):=by
  rw[Gd];exact⟨K.setCell (xx b) _,A5.other (Ch b) _,L5.pQ _,yC G.o.1 (λq=>r.o q) _,zk G.o.2 (xf _) _⟩
 clear Gd c0 c1 c2 c3 c4 c5 c6 c7 z0 z1 z2 y z A C D S y1 y2 y3 T U V W x0 x1 x2 x3 x4 x5 x6 R L5 A5 G K;obtain⟨L,A6,L6,EZ,aM⟩:=F6;have H:=Z (qZ EZ aM);clear EZ aM;refine(Bv v xs 1 zj W6 (HS.o.below L)).mono ?_;rintro e w' ⟨rfl,rfl⟩;rw[<-H1.o];obtain⟨c0,c1,c2,c3,c4,c5,c6,c7⟩:=L6.at_;obtain⟨z0,z1,z2,y,z,A,C,D⟩:=L6.fz;obtain⟨x0,x1,x2,x3,x4,x5,x6,R⟩:=A6.at_;obtain⟨S,y1,y2,y3,T,U,V,W⟩:=A6.fz;go_wp2_with fail;refine yh ?_;intro W7 hW7;have F7:zJ w W7/\LB (w:Nat) (.slice none 0 0) (.slice none 0 0) 0 0 0 0 0 ⟨#[]⟩ W7/\LB B (.slice ca (yg cs).length i) (.slice m (yg os).length p) s0 s1 0 (f % 256) (n % 256) dg W7/\W7.ownsRow ((w:Nat)+1) 47 2 (.slice ca (yg cs).length i) (yg cs).length (uz (yg cs))/\W7.ownsRow (B+1) 47 2 (.slice m (yg os).length p) (yg os).length (uz (yg os)):=by
  rw[hW7];exact⟨L.setCell (xx b) _,A6.other (Ch b) _,L6.wj _,yC H.o.1 (λq=>r.o q) _,zk H.o.2 (xf _) _⟩
 clear hW7 c0 c1 c2 c3 c4 c5 c6 c7 z0 z1 z2 y z A C D S y1 y2 y3 T U V W x0 x1 x2 x3 x4 x5 x6 R L6 A6 H L;obtain⟨M,A7,L7,Ws,ho7⟩:=F7;have I:=Z (qZ Ws ho7);clear Ws ho7;refine(Bv v xs 2 zj W7 (HS.o.below M)).mono ?_;rintro e w' ⟨rfl,rfl⟩;rw[<-H2.o];obtain⟨c0,c1,c2,c3,c4,c5,c6,c7⟩:=L7.at_;obtain⟨z0,z1,z2,y,z,A,C,D⟩:=L7.fz;obtain⟨x0,x1,x2,x3,x4,x5,x6,R⟩:=A7.at_;obtain⟨S,y1,y2,y3,T,U,V,W⟩:=A7.fz;go_wp2;generalize wg:xW _ ⟨(w:Nat),7,none⟩ _=WF;have FF:zJ w WF/\LB (w:Nat) (.slice ca (yg cs).length i) (.slice m (yg os).length p) s0 s1 s2 (f % 256) (n % 256) dg WF/\WF.ownsRow ((w:Nat)+1) 47 2 (.slice ca (yg cs).length i) (yg cs).length (uz (yg cs))/\WF.ownsRow (B+1) 47 2 (.slice m (yg os).length p) (yg os).length (uz (yg os)):=by
  rw[<-wg];have d:(w:Nat)<B+1:=J;exact⟨((((((((M.setCell (xx b) _).setCell (X (w:Nat)) _).setCell (X (w:Nat)) _).setCell (X (w:Nat)) _).setCell (X (w:Nat)) _).setCell (X (w:Nat)) _).setCell (X (w:Nat)) _).setCell (X (w:Nat)) _).setCell (X (w:Nat)) _,(((((((((A7.other (Ch b) _).V4 _).Bk _).pQ _).wj _).zjg _).zd1 _).wk _).yc8 _),zk (zk (zk (zk (zk (zk (zk (zk (yC I.o.1 (λq=>r.o q) _) (xf (w:Nat)) _) (xf (w:Nat)) _) (xf (w:Nat)) _) (xf (w:Nat)) _) (xf (w:Nat)) _) (xf (w:Nat)) _) (xf (w:Nat)) _) (xf (w:Nat)) _,zk (zk (zk (zk (zk (zk (zk (zk (zk I.o.2 (xf B) _) d _) d _) d _) d _) d _) d _) d _) d _⟩
 clear wg c0 c1 c2 c3 c4 c5 c6 c7 z0 z1 z2 y z A C D S y1 y2 y3 T U V W x0 x1 x2 x3 x4 x5 x6 R L7 A7 I M;obtain⟨hbF,LF,hrF,hoF⟩:=FF;obtain⟨c0,c1,c2,c3,c4,c5,c6,c7⟩:=LF.at_;refine zU (v:=CN (.slice ca (yg cs).length i) (.slice m (yg os).length p) s0 s1 s2 (f % 256) (n % 256) dg) ?_ rfl ⟨⟨.slice ca (yg cs).length i,.slice m (yg os).length p,by simp[IntKind.wrap,IntKind.signed,IntKind.bits],uW.bY hrF,uW.bY hoF⟩,hbF⟩;simp[yk,results5,go_sem,c0,c1,c2,c3,c4,c5,c6,c7]
def Sl(c o:zx)(r1 r2:List KZ)(mi po gr fi ne:Int)(dg:ByteArray)(w:z7)(h1:uW w c r1)(h2:uW w o r2)(E:r1.length<=1000000)(F:r2.length<=1000000) :
  zE prog 9 #[CN c o mi po gr fi ne dg] w λe w' =>
   (∃Q R,e = .returned (CN Q R mi po gr fi ne dg)/\uW w' Q r1/\uW w' R r2)/\zJ w w':=by
 have A:=Z h1;have B:=Z h2;obtain⟨ca,z,rfl⟩:=h1.slice;obtain⟨u,x,rfl⟩:=h2.slice;clear h1 h2;go_enter func9,ntmps9;go_wp2_with (at_builtin;refine Ov rfl _ _ rfl rfl rfl (A.o.below (by(repeat(first|(with_reducible exact z8 _ _)|(with_reducible refine Below.alloc ?_ ?_ _;rotate_left;focus(first|(simp;done)|(simp;omega)))|(with_reducible refine Below.setCell ?_ ?_ _;rotate_left;focus(first|(simp;done)|(simp;omega))))))) E ?_);intro mv w1 hm h;have S:LB (w:Nat) (.slice ca r1.length z) (.slice u r2.length x) mi po gr fi ne dg w1/\LB ((w:Nat)+1) (.slice none 0 0) (.slice none 0 0) 0 0 0 0 0 ⟨#[]⟩ w1/\zJ w w1:=by
  have a1:=LB.made (.slice ca r1.length z) (.slice u r2.length x) mi po gr fi ne dg w;have a2:=LB.made (.slice none 0 0) (.slice none 0 0) 0 0 0 0 0 ⟨#[]⟩ (w.alloc (.cells #[.slice ca r1.length z,.slice u r2.length x,.int .i32 mi,.int .i32 po,.int .i32 gr,.int .u8 fi,.int .u8 ne,.string dg] 27));have I:(w.alloc (.cells #[.slice ca r1.length z,.slice u r2.length x,.int .i32 mi,.int .i32 po,.int .i32 gr,.int .u8 fi,.int .u8 ne,.string dg] 27)).heap.size=(w:Nat)+1:=zY;rw[I]at a2;exact⟨(a1.below ((z8 ((w:Nat)+1) _).alloc (by rw[I];exact X _) _) (xf _)).below h J,a2.below h J,((((z8 (w:Nat) w).alloc (X _) _).alloc (by rw[I];omega) _)).trans (h.mono J)⟩
 have W:(w:Nat)+2<=(w1:Nat):=by have:=h.size;simpa using this
 have P:=Z hm;obtain⟨ma,mc,rfl⟩:=zD hm;clear hm h;obtain⟨l,n,k⟩:=S;obtain⟨c0,c1,c2,c3,c4,c5,c6,c7⟩:=l.at_;obtain⟨z0,z1,z2,K,L,M,N,O⟩:=l.fz;go_wp2_with (at_builtin;refine Ov rfl _ _ rfl rfl rfl (B.o.below (k.setCell (X _) _)) F ?_);intro mv2 w2 j i;have T:LB (w:Nat) (.slice ma r1.length mc) (.slice u r2.length x) mi po gr fi ne dg w2/\LB ((w:Nat)+1) (.slice none 0 0) (.slice none 0 0) 0 0 0 0 0 ⟨#[]⟩ w2/\zJ w w2/\w2.ownsRow ((w:Nat)+1+1) 47 2 (.slice ma r1.length mc) r1.length (uz r1) :=
  ⟨(l.V4 _).below i J,(n.other (a:=(w,0)) (by show (w:Nat)+1≠(w:Nat);omega) _).below i J,(k.setCell (p:=(w,0)) (X _) _).trans (i.mono k.size),
   bn (zk P.o (a:=(w,0)) (by show (w:Nat)<(w:Nat)+1+1;omega) _) (by simpa using i)⟩
 obtain⟨q,r,rfl⟩:=zD j;clear c0 c1 c2 c3 c4 c5 c6 c7 z0 z1 z2 K L M N O l n P k i;obtain⟨l,n,m,g⟩:=T;obtain⟨c0,c1,c2,c3,c4,c5,c6,c7⟩:=l.at_;obtain⟨z0,z1,z2,K,L,M,N,O⟩:=l.fz;obtain⟨x0,x1,x2,x3,x4,x5,x6,x7⟩:=n.at_;obtain⟨y0,y1,y2,y3,y4,y5,y6,y7⟩:=n.fz;have s:=Z (qZ j g);clear j g;go_wp2;generalize t:xW _ ⟨(w:Nat)+1,7,none⟩ _=y;have U:zJ w y/\LB ((w:Nat)+1) (.slice ma r1.length mc) (.slice q r2.length r) mi po gr fi ne dg y/\y.ownsRow ((w:Nat)+1+1) 47 2 (.slice ma r1.length mc) r1.length (uz r1)/\y.ownsRow (w1:Nat) 47 2 (.slice q r2.length r) r2.length (uz r2):=by
  rw[<-t];obtain⟨j,g⟩:=s.o;have b:(w:Nat)<=(w:Nat)+1:=bG _;have d:(w:Nat)+1<(w:Nat)+1+1:=xf _;have C:(w:Nat)<(w1:Nat):=J;have f:(w:Nat)+1<(w1:Nat):=J;exact⟨((((((((m.setCell (X (w:Nat)) _).setCell b _).setCell b _).setCell b _).setCell b _).setCell b _).setCell b _).setCell b _).setCell b _,(((((((((n.other (by show (w:Nat)+1≠(w:Nat);omega) _).V4 _).Bk _).pQ _).wj _).zjg _).zd1 _).wk _).yc8 _),zk (zk (zk (zk (zk (zk (zk (zk (zk g (by show (w:Nat)<(w:Nat)+1+1;omega) _) d _) d _) d _) d _) d _) d _) d _) d _,zk (zk (zk (zk (zk (zk (zk (zk (zk j C _) f _) f _) f _) f _) f _) f _) f _) f _⟩
 clear t c0 c1 c2 c3 c4 c5 c6 c7 z0 z1 z2 K L M N O y0 y1 y2 y3 y4 y5 y6 y7 x0 x1 x2 x3 x4 x5 x6 x7 l n s m;obtain⟨D,V,H,G⟩:=U;obtain⟨c0,c1,c2,c3,c4,c5,c6,c7⟩:=V.at_;refine zU (v:=CN (.slice ma r1.length mc) (.slice q r2.length r) mi po gr fi ne dg) ?_ rfl ⟨⟨_,_,rfl,uW.bY H,uW.bY G⟩,D⟩;simp[yk,results9,go_sem,c0,c1,c2,c3,c4,c5,c6,c7]
def Bj:bH prog 180 5 (.int .u8 0) 1 1 :=
 ⟨underlying180,info_parts yy,rfl,zj,zj⟩
def Fb(l:Wd):List zx:=l.map λc => .int .u8 c.toNat
def Og(a b:Wd):Fb (a++b)=Fb a++Fb b:=by simp[Fb]
abbrev KX(w:z7)(v:zx)(l:Wd):Prop:=w.ownsRow 0 5 1 v l.length (Fb l)
def bt(x:Nat):UInt8:=yW x
def gz(x:Nat):Wd:=[bt (x / 256),bt x]
def Qr(x:Nat):Wd:=[bt (x / 16777216),bt (x / 65536),bt (x / 256),bt x]
def wZ(x:Nat):((bt x).toNat:Int)=(x:Int) % 256:=by simp[bt]
def wY(v:zx)(l:Wd)(w:z7)(e:gG)(w':z7):Prop:=∃v',e = .returned v'/\KX w' v' l/\Fr (yd v) (yd v') w w'
def AX(v:zx)(l:Wd)(x:Nat)(w:z7)(h:KX w v l)(hx:x<=4000000000)(i:l.length<=2000000000) :
  zE prog 103 #[v,x] w (wY v (l++gz x) w):=by
 have g:=Z (show[yF .u8 ((x:Int) / 256 % 256),.int .u8 ((x:Int) % 256)]=Fb (gz x)by simp[Fb,gz,wZ]);obtain⟨n,hn⟩:=zo l.length;dsimp only[KX]at h;rw[hn]at h i;obtain⟨a,cap,rfl⟩:=zD h;have e:=Z hn;have d:=Z h;clear h hn;go_enter func103,ntmps103;go_wp2_with (at_builtin;refine I3 Bj [_,_] 2 d.o J ?_);intro v' w' b hf;obtain⟨na,nc,rfl⟩:=zD b;have f:=Z b;have c:=Z hf;clear b hf;go_wp2;go_ret;refine⟨_,rfl,?_,c.o⟩;have:=f.o;rw[g.o]at this;simpa[KX,Og,e.o,gz]using this
def wV(v:zx)(l:Wd)(x:Nat)(w:z7)(h:KX w v l)(hx:x<4294967296)(i:l.length<=2000000000) :
  zE prog 105 #[v,.int .u32 x] w (wY v (l++Qr x) w):=by
 have g:=Z (show[yF .u8 ((x:Int) / 16777216),.int .u8 ((x:Int) / 65536 % 256),.int .u8 ((x:Int) / 256 % 256),.int .u8 ((x:Int) % 256)]=Fb (Qr x)by simp[Fb,Qr,wZ];omega);obtain⟨n,hn⟩:=zo l.length;dsimp only[KX]at h;rw[hn]at h i;obtain⟨a,cap,rfl⟩:=zD h;have e:=Z hn;have d:=Z h;clear h hn;go_enter func105,ntmps105;go_wp2_with (at_builtin;refine I3 Bj [_,_,_,_] 4 d.o J ?_);intro v' w' b hf;obtain⟨na,nc,rfl⟩:=zD b;have f:=Z b;have c:=Z hf;clear b hf;go_wp2;go_ret;refine⟨_,rfl,?_,c.o⟩;have:=f.o;rw[g.o]at this;simpa[KX,Og,e.o,Qr]using this
structure ff(w:z7)(v:zx)(l:List Nat):Prop where
 ex:∃a cap,v = .slice a l.length cap/\l.length<=cap/\cap<=maxLen/\∀j (h:j<l.length),∃b,a=some b/\w.cell? (b.add j)=some (.int .i64 l[j])
def UA:zx->zx
 |.slice (some a) n cap => .slice (some (if cap=1 then a else a.add 1)) (n - 1) (cap - 1)
 |v=>v
def Sm(b:yi)(m cap:Nat)(h:m+1<=cap)(w:z7):(ygd 23 (.slice (some b) (m+1) cap) (some (.int .i64 1)) none none).run prog w = .ok (UA (.slice (some b) (m+1) cap)) w:=by
 have h2:(1:Int)<=(m:Int)+1:=J;simp[ygd,Instr.sliceBounds,Instr.sliceBound,zuu underlying23,asIntOf,UA,go_sem,h2];split<;>rfl
def ff.tail{x:Nat}{l:List Nat}(h:ff w v (x::l)):ff w (UA v) l:=by
 obtain⟨a,cap,rfl,h1,h2,d⟩:=h.ex;obtain⟨b,rfl,hb⟩:=d 0 zY;by_cases hc:cap=1
 .subst hc;have:l=[]:=by cases l with|nil=>rfl|cons _ _=>simp at h1
  subst this;exact⟨some b,0,by simp[UA],zY,Z7,λj f=>absurd f (uf j)⟩
 .refine⟨some (b.add 1),cap - 1,by simp[UA,hc],by simp at h1;omega,J,λj f=>⟨_,rfl,?_⟩⟩;obtain⟨g,e,c⟩:=d (j+1) zV;cases e;rw[show(b.add 1).add j=b.add (j+1)by simp[Addr.add_add,Nat.add_comm]];simpa using c
structure xkk(B K:Nat)(v:zx)(l:Wd)(kv:zx)(w:z7)(e:gG)(w':z7):Prop where
 ret:e = .returned (.tuple #[])
 ex:∃v',zy w' B 0 v'/\KX w' v' l/\(∀q,yd v' q->yd v q\/(w:Nat)<=q)/\Fr (λk=>k=B\/k=K\/yd v k) (λk=>k=B\/k=K\/yd v' k) w w'
 c:zy w' K 0 kv
 z:w'.frozen? (B,0)=false/\w'.frozen? (K,0)=false
def wQ(f:FuncId):Prop:=∀(B K:Nat) (v kv:zx) (l:Wd) (x:Nat) (ks:List Nat) (w:z7),zy w B 0 v->w.frozen? (B,0)=false->zy w K 0 kv->w.frozen? (K,0)=false ->
  KX w v l->ff w kv (x::ks)->B≠K->¬yd v B->¬yd v K->(∀k,kv.ownBlock=some k->¬yd v k/\k≠B/\k≠K)->x<=4000000000->l.length<=100000000 ->
  zE prog f #[(B,0),(K,0)] w (xkk B K v (l++gz x) (UA kv) w)
def Of:wQ 102/\wQ 104:=by
 constructor<;>(
  intro B K v kv l x ks w hB zB hK zK hr hn fH h1 h2 h3 hx hl;have HR:=Z hr;obtain⟨a,cap,rfl,k1,k2,k3⟩:=hn.ex;obtain⟨b,rfl,hb⟩:=k3 0 (by simp);obtain⟨m,hm⟩:=zo ks.length;simp only[zm,hm]at k1 hK;obtain⟨Cz,h4⟩:=h3 b.block rfl;have HT:=Z (AX v l x w.drew (by exact hr) hx (by omega));obtain⟨L,hL⟩:=zo (l++gz x);rw[hL]at HT|-
  clear k3 hn h3 hL;have HM:=Z hm;clear hm;have hb':w.drew.cell? b=some (.int .i64 x):=by
   have e:b.add 0=b:=by unfold xM;split<;>simp_all
   rw[e]at hb;exact hb
  obtain⟨ad,wK⟩:∃ad,UA (.slice (some b) (m+1) cap) = .slice (some ad) m (cap - 1):=⟨_,rfl⟩;have hs:=Sm b m cap k1;rw[wK]at hs;have HS:=Z hs;clear hs;first|(go_enter func102,ntmps102)|(go_enter func104,ntmps104)
  go_wp2_with fail;refine rk (λW':z7=>W'.cell? ⟨K,0,none⟩=some (.slice (some b) (m+1) cap)/\W'.cell? b=some (.int .i64 x)) 8 [1,2,3,5,6] 4 ⟨hK,hb'⟩ ?_;(iterate 4 (refine ty ?_;try simp only[pl]))
  refine ty (v := .slice (some ad) m (cap - 1)) ?_ (hy:=λw' _=>by have hs:=HS.out w';simp[execOp,go_sem,hs]);try simp only[pl]
  refine yA ?_;refine UG 0 (λJk hJ=>?_);go_simp;refine hJ.out _ _ ⟨hK,hb'⟩ λ_=>?_
  clear hJ Jk;refine UG 4 (λJk hJ=>?_);go_simp;refine HT.out.mono ?_;rintro e w1 ⟨v',rfl,I6,hf⟩;have e1:=hf.cell (a:=⟨K,0,none⟩) (v := .slice (some b) (m+1) cap) hK h2;have e2:=hf.cell hb' Cz;have e3:=hf.cell (a:=⟨B,0,none⟩) (v:=v) hB h1;have z1:=(hf.frozen (a:=⟨B,0,none⟩) (Y w _ hB) h1).trans zB;have z2:=(hf.frozen (a:=⟨K,0,none⟩) (Y w _ hK) h2).trans zK;obtain⟨na,nc,rfl⟩:=zD I6;have HF:=Z hf;have lQ:=Z I6;refine hJ.out _ _ ⟨e1,e2⟩ λ_=>?_
  clear hJ Jk hf I6;refine UG 7 (λJk hJ=>?_);go_simp;refine hJ.out _ _ ⟨by rw[zN,if_neg (λe=>fH (congrArg uh e))];exact e1,by rw[zN,if_neg (λe=>h4.1 (congrArg uh e).symm)];exact e2⟩ λ_=>?_
  clear hJ Jk;have e4:(w1.setCell ⟨B,0,none⟩ (.slice na L.length nc)).cell? ⟨K,0,none⟩=some (.slice (some b) (m+1) cap):=by rw[zN,if_neg (λe=>fH (congrArg uh e))];exact e1
  refine N3 8 (λJk hJ=>?_);go_simp;refine hJ.out _ _ ?_;clear hJ Jk;refine N4 ?_ _;go_wp2;refine zU (v := .tuple #[]) ?_ rfl ?_
  .simp[yk,results102,results104,go_sem]
  rw[show UA (.slice (some b) (ks.length+1) cap) = .slice (some ad) m (cap - 1)by rw[HM.out];exact wK];refine⟨rfl,⟨_,by rw[zN,if_neg (λe=>fH (congrArg uh e).symm),zN,if_pos rfl,e3];rfl,?_,HF.out.fp,?_⟩,by rw[zN,if_pos rfl,e4];rfl,by rw[zO,zO];exact z1,by rw[zO,zO];exact z2⟩
  .exact yC (yC lQ.out (λe=>(HF.out.fp _ e).elim h1 (λq=>yO _ (ze (Y w _ hB) q))) _) (λe=>(HF.out.fp _ e).elim h2 (λq=>yO _ (ze (Y w _ hK) q))) _
  .have h:=HF.out;exact((show Fr (λk=>k=B\/k=K\/yd v k) (λk=>k=B\/k=K\/yd _ k) w w1 from⟨h.os,h.tape,h.output,h.size,λk hk hn=>h.keep k hk (λq=>hn (.inr (.inr q))),λk hk=>by
    rcases hk with q|q|q
    .exact .inl (.inl q)
    .exact .inl (.inr (.inl q))
    .exact(h.fp k q).imp (λq => .inr (.inr q)) id⟩).set _ (.inl (.inl rfl))).set _ (.inl (.inr (.inl rfl))))
variable{q:Nat}{F F':Nat->Prop}{v':zx}{w':z7}
structure Jn where
 op:Nat
 pos:Nat
 v:Nat
 k:List Nat
 tg:List Nat
def YK:Nat->Wd
 | 1=>[107]|2=>[110]|3=>[110]|4=>[110,118]|7=>[118,116]|8=>[116,116,116,116,116,116]|9=>[116,116,116,116,116,116]|10=>[110,42]|11=>[116]|_=>[]
def CO:List Nat->List Nat->Wd
 |[],t=>gz (t.headD 0)
 |a::k,t=>gz a++(gz (t.headD 0)++CO k t.tail)
def gm:Wd->Nat->List Nat->List Nat->Wd
 |[],_,_,_=>[]
 |c::f,v,k,t =>
  if c=107\/c=110 then gz (k.headD 0)++gm f v k.tail t
  else if c=118 then Qr v++gm f v k t
  else if c=116 then gz (t.headD 0)++gm f v k t.tail
  else gz k.length++(CO k t++gm f v [] (t.drop (k.length+1)))
def okB:Wd->Nat->Nat->Bool
 |[],_,_=>true
 |c::f,a,b =>
  if c=107\/c=110 then decide (0<a) && okB f (a - 1) b
  else if c=118 then okB f a b
  else if c=116 then decide (0<b) && okB f a (b - 1)
  else decide (c=42) && (decide (a<b) && okB f 0 (b - (a+1)))
def qI(i:Jn):Wd:=bt i.op::gm (YK i.op) i.v i.k i.tg
def gQ(w:z7):Prop:=∀op,op<12->zy w 4 op (zv (YK op))
structure zm7(w:z7)(g o:Nat)(i:Jn)(kv tv:zx):Prop where
 c0:zy w g o i.op
 c1:zy w g (o+1) i.pos
 c2:zy w g (o+2) i.v
 c3:zy w g (o+3) kv
 c4:zy w g (o+4) tv
 k:ff w kv i.k
 t:ff w tv i.tg
structure AV(i:Jn):Prop where
 op:i.op<12
 v:i.v<=4000000000
 k:∀x∈i.k,x<=4000000000
 t:∀x∈i.tg,x<=4000000000
 len:i.k.length<=1000000
 ok:okB (YK i.op) i.k.length i.tg.length=true
def ff.slice{w:z7}{l:List Nat}(h:ff w v l):∃a cap,v = .slice a l.length cap:=by
 obtain⟨a,cap,h1,_⟩:=h.ex;exact⟨a,cap,h1⟩
structure Ck(w:z7)(v0:zx)(B K T I:Nat)(s:ByteArray)(j:Nat)(done:Wd)(ks ts:List Nat)(wr:z7):Prop where
 ex:∃v kv tv,zy wr B 0 v/\zy wr K 0 kv/\zy wr T 0 tv/\KX wr v done/\ff wr kv ks/\ff wr tv ts/\Fr (yd v0) (yd v) w wr /\
  ¬yd v B/\¬yd v K/\¬yd v T/\¬yd v I/\(∀q,yd kv q\/yd tv q->q<(w:Nat)/\¬yd v0 q)
 it:wr.heap[I]? = some (.stringIter s j)
 zB:wr.frozen? (B,0)=false
 zK:wr.frozen? (K,0)=false
 zT:wr.frozen? (T,0)=false
 lo:(w:Nat)<=B/\(w:Nat)<=K/\(w:Nat)<=T/\(w:Nat)<=I
 ne:B≠K/\B≠T/\K≠T/\I≠B/\I≠K/\I≠T
def ff.fr{w:z7}{l:List Nat}(h:ff w v l)(hf:Fr F F' w w')(hv:∀q,yd v q->¬F q):ff w' v l:=by
 obtain⟨a,cap,e,h1,h2,d⟩:=h.ex;refine⟨a,cap,e,h1,h2,λj f=>?_⟩;obtain⟨b,c,hb⟩:=d j f;exact⟨b,c,hf.cell hb (by rw[addr_add];exact hv _ (by rw[e,c];rfl))⟩
def KV(h:yd (UA v) q):yd v q:=by
 unfold UA at h;split at h
 .next a n cap =>
  dsimp only[yd,qb]at h|-;split at h
  .exact h
  .rw[addr_add]at h;exact h
 .exact h
section
variable {w wr:z7} {v0:zx} {B K T I j:Nat} {s:ByteArray} {done:Wd} {ks ts:List Nat} {x:Nat}
def Ck.swap(h:Ck w v0 B K T I s j done ks ts wr):Ck w v0 B T K I s j done ts ks wr:=by
 obtain⟨v,kv,r,c1,c2,c3,hr,d,f,hf,m,n,o,p,e⟩:=h.ex;obtain⟨e1,e2,e3,e4,a,b⟩:=h.ne;obtain⟨g,i,k,l⟩:=h.lo;exact⟨⟨v,r,kv,c1,c3,c2,hr,f,d,hf,m,o,n,p,λq c=>e q c.symm⟩,h.it,h.zB,h.zT,h.zK,⟨g,k,i,l⟩,⟨e2,e1,e3.symm,e4,b,a⟩⟩
def Ck.step{f:FuncId}(hs:wQ f)(h:Ck w v0 B K T I s j done (x::ks) ts wr)(hx:x<=4000000000)(z:done.length<=100000000) :
  zE prog f #[(B,0),(K,0)] wr λe w'=>e = .returned (.tuple #[])/\Ck w v0 B K T I s j (done++gz x) ks ts w':=by
 obtain⟨v,kv,u,c1,c2,c3,hr,l,A,hf,p,r,k,t,m⟩:=h.ex;obtain⟨e1,e2,e3,e4,y,E⟩:=h.ne;obtain⟨F,G,H,L⟩:=h.lo;have g:∀q,yd kv q\/yd u q->¬yd v q/\q≠B/\q≠K:=λq d=>by
  obtain⟨a,b⟩:=m q d;exact⟨λc=>(hf.fp q c).elim b J,J,J⟩
 refine(hs B K v kv done x ks wr c1 h.zB c2 h.zK hr l e1 p r (λq d=>g q (.inl d)) hx z).mono ?_;rintro e w' ⟨rfl,⟨v',d1,d2,d3,d4⟩,d5,d6,d7⟩;have C:=Y _ _ c1;have D:=Y _ _ c2;have o:=Y _ _ c3;have n:I<(wr:Nat):=(vN.1 h.it).1;have row:∀q,q<(wr:Nat)->¬yd v q->¬yd v' q:=λq a b c=>(d3 q c).elim b J
 have i:∀q,q≠B->q≠K->¬yd v q->¬(q=B\/q=K\/yd v q):=λq a b c=>by rintro(e|e|e);exact a e;exact b e;exact c e
 refine⟨rfl,⟨v',_,u,d1,d5,d4.cell c3 (i _ e2.symm e3.symm k),d2,l.tail.fr d4 (λq d=>i _ (g q (.inl (KV d))).2.1 (g q (.inl (KV d))).2.2 (g q (.inl (KV d))).1),A.fr d4 (λq d=>i _ (g q (.inr d)).2.1 (g q (.inr d)).2.2 (g q (.inr d)).1),?_,row _ C p,row _ D r,row _ o k,row _ n t,λq d=>m q (d.imp KV id)⟩,
  (d4.keep I n (i _ e4 y t)).trans h.it,d6,d7,(d4.frozen o (i _ e2.symm e3.symm k)).trans h.zT,h.lo,h.ne⟩
 refine⟨d4.os.trans hf.os,d4.tape.trans hf.tape,d4.output.trans hf.output,zZ hf.size d4.size,λq d hn=>(d4.keep q (ze d hf.size) (i q J J (λc=>(hf.fp q c).elim hn J))).trans (hf.keep q d hn),λq d=>?_⟩;exact(d3 q d).elim (hf.fp q) (λc => .inr (zZ hf.size c))
def Ck.con(h:Ck w v0 B K T I s j done (x::ks) ts wr)(hx:x<=4000000000)(a:done.length<=100000000) :
  zE prog 102 #[(B,0),(K,0)] wr λe w'=>e = .returned (.tuple #[])/\Ck w v0 B K T I s j (done++gz x) ks ts w':=h.step Of.1 hx a
def Ck.tar(h:Ck w v0 B K T I s j done ks (x::ts) wr)(hx:x<=4000000000)(c:done.length<=100000000) :
  zE prog 104 #[(B,0),(T,0)] wr λe w'=>e = .returned (.tuple #[])/\Ck w v0 B K T I s j (done++gz x) ks ts w' :=
 (h.swap.step Of.2 hx c).mono λ_ _ ⟨a,b⟩=>⟨a,b.swap⟩
def Ck.more(h:Ck w v0 B K T I s j done ks ts wr){d:Wd}(hv:zy wr B 0 v)(i:KX w' v' d)(d4:Fr (yd v) (yd v') wr w'):Ck w v0 B K T I s j d ks ts (w'.setCell (B,0) v'):=by
 obtain⟨v1,kv,u,c1,c2,c3,hr,x,y,hf,f,l,m,t,n⟩:=h.ex;obtain⟨e1,e2,e3,e4,A,C⟩:=h.ne;obtain⟨z,D,E,F⟩:=h.lo;obtain rfl:v1=v:=zR (c1.symm.trans hv);have k:=Y _ _ c1;have p:=Y _ _ c2;have r:=Y _ _ c3;have o:I<(wr:Nat):=(vN.1 h.it).1;have row:∀q,q<(wr:Nat)->¬yd v1 q->¬yd v' q:=λq a b c=>(d4.fp q c).elim b J
 have g:∀q,yd kv q\/yd u q->¬yd v1 q/\q≠B:=λq e=>by
  obtain⟨a,b⟩:=n q e;exact⟨λc=>(hf.fp q c).elim b J,J⟩
 have f2:Fr (λq=>q=B\/yd v1 q) (λq=>q=B\/yd v1 q) wr (w'.setCell (B,0) v'):=(d4.wide (λq e => .inr e)).set _ (.inl (.inl rfl));have fz:∀a,(w'.setCell (B,0) v').frozen? a=w'.frozen? a:=λa=>zO ..
 refine⟨⟨v',kv,u,Z5 (d4.cell c1 f) _,f2.cell c2 (λq=>q.elim e1.symm l),f2.cell c3 (λq=>q.elim e2.symm m),yC i (row _ k f) _,x.fr f2 (λq e c=>c.elim (g q (.inl e)).2 (g q (.inl e)).1),y.fr f2 (λq e c=>c.elim (g q (.inr e)).2 (g q (.inr e)).1),
  (hf.trans d4).set _ (.inr z),row _ k f,row _ p l,row _ r m,row _ o t,n⟩,(f2.keep I o (λq=>q.elim e4 t)).trans h.it,?_,?_,?_,h.lo,h.ne⟩
 .rw[fz,d4.frozen k f];exact h.zB
 .rw[fz,d4.frozen p l];exact h.zK
 .rw[fz,d4.frozen r m];exact h.zT
def wJ(w:z7)(K:Nat):Nat:=match w.cell? (K,0) with|some (.slice _ n _)=>n|_=>0
def Ck.ycy(h:Ck w v0 B K T I s j done ks ts wr):wJ wr K=ks.length:=by
 obtain⟨v,kv,d,c1,c2,c3,hr,b,_⟩:=h.ex;obtain⟨a,c,rfl⟩:=b.slice;simp[wJ,c2]
def Ck.next(h:Ck w v0 B K T I s j done ks ts wr)(m:Nat):Ck w v0 B K T I s m done ks ts (wr.iterAt I s m):=by
 obtain⟨v,kv,t,c1,c2,c3,hr,l,n,hf,o,p,r,i,e⟩:=h.ex;obtain⟨e1,e2,e3,e4,f,g⟩:=h.ne;obtain⟨u,x,y,z⟩:=h.lo;have f2:Fr (λq=>q=I) (λq=>q=I) wr (wr.iterAt I s m):=⟨rfl,rfl,rfl,Nat.le_of_eq (Lib.iterAt_size _ _ _ _).symm,λk _ hn=>Lib.iterAt_other _ _ _ _ _ hn,λ_ q => .inl q⟩;refine⟨⟨v,kv,t,f2.cell c1 e4.symm,f2.cell c2 f.symm,f2.cell c3 g.symm,f2.own hr (λq a b=>i (b▸a)),l.fr f2 (λq d c=>by have:=(e q (.inl d)).1;omega),n.fr f2 (λq d c=>by have:=(e q (.inr d)).1;omega),?_,o,p,r,i,e⟩,
  Lib.iterAt_heap _ _ _ _ _ h.it,(f2.frozen (Y _ _ c1) e4.symm).trans h.zB,(f2.frozen (Y _ _ c2) f.symm).trans h.zK,(f2.frozen (Y _ _ c3) g.symm).trans h.zT,h.lo,h.ne⟩
 exact⟨hf.os,hf.tape,hf.output,zZ hf.size f2.size,λq d hn=>(f2.keep q (ze d hf.size) J).trans (hf.keep q d hn),hf.fp⟩
end
def Sn(op:Nat):∀c∈YK op,c.toNat<128:=by
 unfold YK;split<;>decide
def wG(w:z7)(a b:zx)(t:uP):∃W,W=((w.alloc (.cells #[a] t)).alloc (.cells #[b] t)).drew/\(zy W (w:Nat) 0 a/\W.frozen? (w,0)=false)/\(zy W ((w:Nat)+1) 0 b/\W.frozen? ((w:Nat)+1,0)=false)/\Fr j6 j6 w W/\W.heap.size=(w:Nat)+2:=by
 have e:(w.alloc (.cells #[a] t)).heap.size=(w:Nat)+1:=zY;refine⟨_,rfl,⟨yG (zg w #[a] t (0,0) 0) _,?_⟩,⟨?_,?_⟩,(((Fr.refl _ _).alloc _).alloc _).drew,zY⟩
 .show((w.alloc (.cells #[a] t)).alloc (.cells #[b] t)).frozen? _=false;rw[zb (xA _ _ _ zY)];simp
 .rw[<-e];exact zg (w.alloc (.cells #[a] t)) #[b] t (0,0) 0
 .rw[<-e];show((w.alloc (.cells #[a] t)).alloc (.cells #[b] t)).frozen? _=false;simp
def Sp(g o:Nat)(i:Jn)(kv tv v:zx)(l:Wd)(w:z7)(hi:zm7 w g o i kv tv)(ho:AV i)(hr:KX w v l)(hg:¬yd v g)(hk:∀q,yd kv q->q<w.heap.size/\¬yd v q)(ht:∀q,yd tv q->q<w.heap.size/\¬yd v q)(hF:gQ w)
  (hfv:¬yd v 4) (hl:(l++qI i).length<=100000000) :
  zE prog 70 #[.pointer (some ⟨g,o,none⟩),v] w (wY v (l++qI i) w):=by
 have HI:=Z hi;have HO:=Z ho;have c0:=hi.c0;have c2:=hi.c2;have c3:=hi.c3;have c4:=hi.c4;obtain⟨ka,kc,ek⟩:=hi.k.slice;obtain⟨ta,tc,et⟩:=hi.t.slice;obtain⟨kn,Qn⟩:=zo i.k.length;obtain⟨tn,htn⟩:=zo i.tg.length;obtain⟨op,hop⟩:=zo i.op;have zm8:=ho.op;rw[hop]at c0 zm8;rw[Qn]at ek;rw[htn]at et;subst ek et;obtain⟨n,hn⟩:=zo l.length;have hr':=hr;dsimp only[KX]at hr';rw[hn]at hr';have HL:=Z hl;have Nx:n<=100000000:=by rw[<-hn];simp only[zI]at hl;omega
 obtain⟨va,vc,rfl⟩:=zD hr';have HR:=Z hr';have HN:=Z hn;have IH:=Z Qn;have HTN:=Z htn;have HOP:=Z hop;clear hr hr' hn hl Qn htn hop hi ho;go_enter func70,ntmps70;go_wp2_with fail;refine fP ?_;intro W1 fe;obtain⟨B,hB⟩:=zo w.heap.size;rw[hB];have f1:Fr j6 j6 w W1:=by rw[fe];exact Fr.of ((z8 _ _).alloc (X _) _)
 have b0:W1.cell? ⟨B,0,none⟩=some (.slice va n vc):=by rw[fe,<-hB];exact zg _ _ _ _ _
 have b1:W1.frozen? ⟨B,0,none⟩=false:=by rw[fe,<-hB];simp
 have s1:W1.heap.size=B+1:=by rw[fe];simp[hB]
 have c0:=f1.cell c0 id;have hcv:IntKind.u8.wrap (op:Int)=((bt op).toNat:Int):=by simp[IntKind.wrap,IntKind.signed,IntKind.bits,bt]
 have HB:=Z hB;clear fe hB;refine rk (λW':z7=>W'.cell? ⟨B,0,none⟩=some (.slice va n vc)/\W'.cell? ⟨g,o,none⟩=some (.int .i64 op)) 8 [0,1,2,3,4,5] 3 ⟨b0,c0⟩ ?_;(iterate 6 (refine ty ?_;try simp only[pl]))
 refine yA ?_;refine UG 6 (λJk hJ=>?_);go_simp;refine hJ.out _ _ ⟨yG b0 _,yG c0 _⟩ λ_=>?_
 clear hJ Jk;refine UG 7 (λJk hJ=>?_);rw[if_pos (by rfl)];rw[<-s1];change XM _ _ _ (W1.drew.alloc (.cells [_].toArray _)) _ _
 refine Qi Bj [_] 1 ((f1.own HR.out (λ_ _=>id):W1.drew.ownsRow _ _ _ _ _ _)) (by omega) ?_;intro v2 W2 ho2 V0;have f2:Fr (yd (.slice va n vc)) (yd v2) w W2:=(f1.wide (λ_ q=>q.elim)).trans V0.und;have yak:=Y _ _ b0;have nB:∀q,yd (.slice va n vc) q->q<B:=λq hq=>by have:=(HR.out.lt q hq).2;have:=HB.out;omega
 have b0:=V0.cell (a:=⟨B,0,none⟩) (v := .slice va n vc) b0 (λq=>yO _ (nB _ q));have b1:=(V0.frozen (a:=⟨B,0,none⟩) yak (λq=>yO _ (nB _ q))).trans b1;have c0:=V0.cell (a:=⟨g,o,none⟩) c0 hg;have nB2:¬yd v2 B:=λq=>(V0.fp _ q).elim (λq=>yO _ (nB _ q)) (λq=>by have:W1.drew.heap.size=B+1:=s1;omega)
 obtain⟨va2,vc2,rfl⟩:=zD ho2;go_simp;refine hJ.out _ _ ⟨b0,c0⟩ λ_=>?_
 clear hJ Jk;refine N3 8 (λJk hJ=>?_);go_simp;refine hJ.out _ _ ?_;clear hJ Jk;refine N4 ?_ _;have f3:=f2.set (a:=⟨B,0,none⟩) (.slice va2 (n+1) vc2) (.inr (by have:=HB.out;show w.heap.size<=B;omega));have b0:=Z5 b0 (.slice va2 (n+1) vc2);have b1:(W2.setCell ⟨B,0,none⟩ (.slice va2 (n+1) vc2)).frozen? ⟨B,0,none⟩=false:=by rw[zO];exact b1
 have wF:=Z (yC ho2 nB2 (.slice va2 (n+1) vc2) (a:=⟨B,0,none⟩));have dw:=V0.size;obtain⟨W3,fE⟩:=zo (W2.setCell ⟨B,0,none⟩ (.slice va2 (n+1) vc2));rw[fE]at f3 b0 b1 wF|-
 have sz3:B<W3.heap.size:=Y _ _ b0;clear fE V0 ho2 f2 f1 hcv c0;have c3:=f3.cell c3 hg;have c4:=f3.cell c4 hg;go_wp2_with fail;refine rt (λW':z7=>W'.cell? ⟨g,o+3,none⟩=some (.slice ka kn kc)/\W'.cell? ⟨g,o+4,none⟩=some (.slice ta tn tc)) [0,1,2,3,4,5,6,7] 4 ⟨c3,c4⟩ ?_;(iterate 8 (refine ty ?_;try simp only[pl]))
 refine yA ?_;obtain⟨N,hN⟩:=zo W3.heap.size;refine wpAnyH_ready (rs:=[8,9]) (by kernel_rfl) (by simp) (uv rfl (λJk hJ=>?_) (uv rfl (λJk hJ=>?_) Ye));all_goals
  go_simp;refine hJ.out _ _ ⟨yG c3 _,yG c4 _⟩ λ_=>?_
  clear hJ Jk
 refine bF 9 (λJk hJ=>?_);rotate_left
 refine bF 8 (λJk hJ=>?_);rotate_left
 all_goals
  go_simp;refine hJ.out _ _ ⟨yG (yG c3 _) _,yG (yG c4 _) _⟩ λ_=>?_
  clear hJ Jk;refine bF 10 (λJk hJ=>?_);go_simp;refine hJ.out _ _ ⟨yG (yG c3 _) _,yG (yG c4 _) _⟩ λ_=>?_
  clear hJ Jk;refine bF 11 (λJk hJ=>?_);go_simp;refine hJ.out _ _ ⟨yG (yG c3 _) _,yG (yG c4 _) _⟩ λ_=>?_
  clear hJ Jk;refine fR ?_ _
 obtain⟨W4,I5,e1,e2,fb,s4⟩:=wG W3 (.slice ka kn kc) (.slice ta tn tc) 23;rw[<-I5];obtain⟨K,hK⟩:=zo N;obtain⟨T,hT⟩:=zo (N+1);rw[hN]at e1 e2 s4;rw[hT]at e2|-
 rw[hK]at e1|-
 rotate_left
 obtain⟨W4,I5,e2,e1,fb,s4⟩:=wG W3 (.slice ta tn tc) (.slice ka kn kc) 23;rw[<-I5];obtain⟨K,hK⟩:=zo (N+1);obtain⟨T,hT⟩:=zo N;rw[hN]at e1 e2 s4;rw[hK]at e1|-
 rw[hT]at e2|-
 rotate_left
 all_goals
  have hKN:N<=K:=by omega
  have hTN:N<=T:=by omega
  have hKT:K≠T:=by omega
  have hBN:B<N:=by rw[<-hN];exact sz3
  have f4:=f3.trans (fb.wide (λ_ q=>q.elim));have b0:=fb.cell b0 id;have b1:=(fb.frozen (a:=⟨B,0,none⟩) sz3 id).trans b1;have HR3:=Z (fb.own wF.out (λ_ _=>id));have nV:∀q,yd (.slice va2 (n+1) vc2) q->q<N/\q≠B:=λq hq=>⟨by rw[<-hN];exact(wF.out.lt q hq).2,λe=>nB2 (e▸hq)⟩
  have c5:=f4.cell (a:=⟨g,o,none⟩) (v := .int .i64 op) (by rw[<-HOP.out];exact HI.out.c0) hg;have c6:=f4.cell (hF op zm8) hfv;have fl:decide ((op:Int)<12)=true:=by simp;omega
  clear I5 hK hT c3 c4 fb f3 hN wF c0 sz3 dw;obtain⟨F,hFm⟩:=zo (YK op);rw[hFm]at c6;obtain⟨I,hI⟩:=zo (N+2);rw[hI]at s4;have nI:B<I/\K<I/\T<I:=by have:=Y _ _ e1.1;have:=Y _ _ e2.1;dsimp only at *;omega
  go_wp2_with fail;have HT:=Z (show qI i=bt op::gm F i.v i.k i.tg by unfold qI;rw[HOP.out,hFm]);go_loopw [10] (λ_ wr=>∃j done ks ts,j<=F.length/\Ck w (.slice va n vc) B K T I ⟨F.toArray⟩ j done ks ts wr/\done++gm (F.drop j) i.v ks ts=l++qI i/\okB (F.drop j) ks.length ts.length=true/\(∀x∈ks,x<=4000000000)/\(∀x∈ts,x<=4000000000)/\ks.length<=1000000) (λ_ wr=>F.length - wr.iterPos I)
  case atStart =>
   have fi:Fr j6 j6 W4 (W4.iter ⟨F.toArray⟩ 0):=(Fr.refl _ _).alloc _;have Fh:=HO.out.k;have gN:=HO.out.t;have Ks:=HO.out.ok;rw[HOP.out,hFm]at Ks;have hwB:w.heap.size=B:=HB.out;have eb:Fb l++[yF gD ((bt op).toNat:Int)]=Fb (l++[bt op]):=by simp[Fb]
   have el:n+1=(l++[bt op]).length:=by simp[HN.out]
   have hR4:KX (W4.iter ⟨F.toArray⟩ 0) (.slice va2 (n+1) vc2) (l++[bt op]):=by
    have:=fi.own HR3.out (λ_ _=>id);rw[eb,el]at this;rw[el];exact this
   refine⟨0,l++[bt op],i.k,i.tg,zG _,⟨⟨_,_,_,fi.cell b0 id,fi.cell e1.1 id,fi.cell e2.1 id,hR4,(HI.out.k.fr f4 (λq hq=>(hk q hq).2)).fr fi (λ_ _=>id),(HI.out.t.fr f4 (λq hq=>(ht q hq).2)).fr fi (λ_ _=>id),f4.alloc _,
    λq=>(nV _ q).2 rfl,λq=>by have:=(nV _ q).1;omega,λq=>by have:=(nV _ q).1;omega,λq=>by have:=(nV _ q).1;omega,λq hq=>hq.elim (hk q) (ht q)⟩,by rw[<-s4];exact World.iter_heap W4 _ 0,(fi.frozen (a:=⟨B,0,none⟩) (show B<_ by omega) id).trans b1,(fi.frozen (Y _ _ e1.1) id).trans e1.2,(fi.frozen (Y _ _ e2.1) id).trans e2.2,by omega,by omega⟩,?_,Ks,Fh,gN,HO.out.len⟩
   rw[HT.out];simp
  case round =>
   obtain⟨j,done,ks,ts,hj,eX,heq,Ks,IM,eV,wB⟩:=hrel;have HAP:=Z eX;have hit:=eX.it;by_cases ud:j<F.length
   .obtain⟨c,hc⟩:=zo (F[j]);have hd:F.drop j=c::F.drop (j+1):=by rw[<-hc];exact yH ud
    have hn:=Lib.run_next_ascii_at (P:=prog) wr I ⟨F.toArray⟩ j 0 hit (by rw[size_mk];exact ud) (by
     show(F[j]).toNat<128;exact Sn op _ (by rw[hFm];exact xd _))
    rw[show(jW F.toArray)[j]'(by rw[size_mk];exact ud)=c from hc]at hn;have Jo:=eX.next (j+1);obtain⟨W5,hW5⟩:=zo (wr.iterAt I ⟨F.toArray⟩ (j+1));rw[hW5]at hn Jo;rw[hd]at heq Ks;have HJ:=Z (show W5.iterPos I=j+1 from QN Jo.it);have HJ0:=Z (show wr.iterPos I=j from QN eX.it);have HD:=Z hd;clear hW5 hd eX hit hc;have EO:c=107\/c=110\/c=118\/c=116\/c=42:=by
     unfold okB at Ks;split at Ks
     .next h=>rcases h with h|h<;>simp[h]
     .split at Ks
      .next h=>simp[h]
      .split at Ks
       .next h=>simp[h]
       .simp at Ks;simp[Ks.1]
    rcases EO with rfl|rfl|rfl|rfl|rfl;iterate 2
     cases ks with
     |nil=>simp[okB]at Ks
     |cons x ks =>
      have hx:=IM x (by simp);have HQ:=Z (show(done++gz x)++gm (F.drop (j+1)) i.v ks ts=l++qI i by rw[<-heq];simp[gm]);have HK:=Z (show okB (F.drop (j+1)) ks.length ts.length=true by simpa[okB]using Ks);have HC:=Z (Jo.con hx (by have:=congrArg qj heq;have:=HL.out;simp only[zI]at *;omega));have Sr:=Z IM;clear heq Ks Jo IM hx;go_wp2_with fail;refine HC.out.mono ?_;rintro e W6 ⟨rfl,FZ⟩;have HIP:=Z (QN FZ.it);go_wp2;go_roundw
      case rel=>exact⟨j+1,_,ks,ts,ud,FZ,HQ.out,HK.out,λy hy=>Sr.out y (by simp[hy]),eV,by simp at wB;omega⟩
      case measure=>rw[HIP.out,HJ0.out];omega
    .obtain⟨v,kv,tv,d1,d2,d3,dr,dk,dt,df,n1,n2,n3,n4,dq⟩:=Jo.ex;have hv:=HO.out.v;have HQ:=Z (show(done++Qr i.v)++gm (F.drop (j+1)) i.v ks ts=l++qI i by rw[<-heq];simp[gm]);have HK:=Z (show okB (F.drop (j+1)) ks.length ts.length=true by simpa[okB]using Ks);have HC:=Z (wV v done i.v W5.drew (by exact dr) (by omega) (by have:=congrArg qj heq;have:=HL.out;simp only[zI]at *;omega));obtain⟨D,hD⟩:=zo (done++Qr i.v);rw[hD]at HQ HC;have HA2:=Z Jo;have g2:=df.cell c2 hg;have hcv:IntKind.u32.wrap (i.v:Int)=(i.v:Int):=by simp[IntKind.wrap,IntKind.signed,IntKind.bits];omega
     have z1:=Jo.zB;have DF:=Z df;clear heq Ks Jo dr dk dt dq df hD;go_wp2_with fail;refine rk (λW':z7=>W'.cell? ⟨B,0,none⟩=some v/\W'.cell? ⟨g,o+2,none⟩=some (.int .i64 i.v)) 7 [0,1,2,3,4,5] 2 ⟨d1,g2⟩ ?_;(iterate 6 (refine ty ?_;try simp only[pl]))
     refine yA ?_;refine UG 6 (λJk hJ=>?_);go_simp;refine HC.out.mono ?_;rintro e W6 ⟨v',rfl,EZ,Cu⟩;have FZ:=HA2.out.more d1 EZ Cu.und;have z6:=(Cu.frozen (a:=⟨B,0,none⟩) (Y _ _ d1) n1).trans z1;have k6:=Cu.cell (a:=⟨B,0,none⟩) (v:=v) d1 n1;have g6:=Cu.cell (a:=⟨g,o+2,none⟩) g2 (λq=>(DF.out.fp _ q).elim hg (λq=>by have:g<w.heap.size:=Y w _ c2;have q2:w.heap.size<=g:=q;omega));refine hJ.out _ _ ⟨k6,g6⟩ λ_=>?_
     clear hJ Jk;refine N3 7 (λJk hJ=>?_);obtain⟨a6,c6',rfl⟩:=zD EZ;go_simp;refine hJ.out _ _ ?_;clear hJ Jk;refine N4 ?_ _;have HIP:=Z (QN FZ.it);have HA3:=Z FZ;clear FZ EZ Cu;go_wp2;go_roundw
     case rel=>exact⟨j+1,_,ks,ts,ud,HA3.out,HQ.out,HK.out,IM,eV,wB⟩
     case measure=>rw[HIP.out,HJ0.out];omega
    .skip
     cases ts with
     |nil=>simp[okB]at Ks
     |cons x ts =>
      have hx:=eV x (by simp);have HQ:=Z (show(done++gz x)++gm (F.drop (j+1)) i.v ks ts=l++qI i by rw[<-heq];simp[gm]);have HK:=Z (show okB (F.drop (j+1)) ks.length ts.length=true by simpa[okB]using Ks);have HC:=Z (Jo.tar hx (by have:=congrArg qj heq;have:=HL.out;simp only[zI]at *;omega));have Sr:=Z eV;clear heq Ks Jo eV hx;go_wp2_with fail;refine HC.out.mono ?_;rintro e W6 ⟨rfl,FZ⟩;have HIP:=Z (QN FZ.it);go_wp2;go_roundw
      case rel=>exact⟨j+1,_,ks,ts,ud,FZ,HQ.out,HK.out,IM,λy hy=>Sr.out y (by simp[hy]),wB⟩
      case measure=>rw[HIP.out,HJ0.out];omega
    .obtain⟨v,kv,tv,d1,d2,d3,dr,dk,dt,df,n1,n2,n3,n4,dq⟩:=Jo.ex;obtain⟨q1,q2,Ks⟩:ks.length<ts.length/\okB (F.drop (j+1)) 0 (ts.length - (ks.length+1))=true/\True:=by simpa[okB]using Ks
     have HK:=Z q2;have HQ:=Z (show(done++gz ks.length)++(CO ks ts++gm (F.drop (j+1)) i.v [] (ts.drop (ks.length+1)))=l++qI i by rw[<-heq];simp[gm]);have HC:=Z (AX v done ks.length W5 (by exact dr) (by omega) (by have:=congrArg qj heq;have:=HL.out;simp only[zI]at *;omega));obtain⟨D,hD⟩:=zo (done++gz ks.length);rw[hD]at HQ HC;have HA2:=Z Jo;obtain⟨ea,ec,rfl⟩:=dk.slice;clear heq Ks Jo dr dk dt dq df hD q2;go_wp2_with fail;refine HC.out.mono ?_;rintro e W6 ⟨v',rfl,EZ,Cu⟩;have FZ:=HA2.out.more d1 EZ Cu;have z6:=(Cu.frozen (a:=⟨B,0,none⟩) (Y _ _ d1) n1).trans HA2.out.zB;have k6:=Cu.cell (a:=⟨B,0,none⟩) (v:=v) d1 n1;obtain⟨a6,c6',rfl⟩:=zD EZ;have HA3:=Z FZ;clear FZ EZ Cu HC;go_wp2;go_loopw [] (λwr2=>∃d2 k2 t2,Ck w (.slice va n vc) B K T I ⟨F.toArray⟩ (j+1) d2 k2 t2 wr2/\d2++(CO k2 t2++gm (F.drop (j+1)) i.v [] (ts.drop (ks.length+1)))=l++qI i/\t2.drop (k2.length+1)=ts.drop (ks.length+1)/\k2.length<t2.length/\(∀x∈k2,x<=4000000000)/\(∀x∈t2,x<=4000000000)) (λwr2=>wJ wr2 K)
     case atStart=>exact⟨D,ks,ts,HA3.out,HQ.out,rfl,q1,IM,eV⟩
     case round =>
      clear HA3 HA2;obtain⟨d2,k2,t2,eX,heq,hdr,Qt,hk2,ht2⟩:=hrel
      cases t2 with
      |nil=>simp at Qt
      |cons t t2 =>
      have zd2:=eX;obtain⟨v7,kv7,tv7,g1,g2,g3,-,gk,-,-,-,-,-,-,-⟩:=eX.ex;obtain⟨a7,c7,rfl⟩:=gk.slice;have hlen:(d2++gz t).length<=100000000:=by have:=congrArg qj heq;have:=HL.out;cases k2<;>simp only[zI,CO,List.headD_cons,gz,zm,ur]at * <;> omega
      have zm9:d2.length<=100000000:=by simp at hlen;omega
      have HM:=Z eX.ycy;clear gk
      cases k2 with
      |nil =>
       have HC:=Z (zd2.tar (ht2 t (by simp)) zm9);have HEQ:=Z heq;have HDR:=Z hdr;clear eX zd2 heq hdr;go_wp2_with fail;refine HC.out.mono ?_;rintro e W8 ⟨rfl,wC⟩;have HIP:=Z (QN wC.it);go_wp2;go_roundw
       case rel =>
        have hd8:t2=ts.drop (ks.length+1):=HDR.out;refine⟨j+1,_,[],t2,ud,wC,?_,?_,λ_ h=>by simp at h,λy hy=>ht2 y (by simp[hy]),by simp⟩
        .rw[<-HEQ.out,hd8];simp[CO]
        .rw[hd8];simpa using HK.out
       case measure=>rw[HIP.out,HJ0.out];omega
      |cons x k2 =>
       obtain⟨n2,hn2⟩:=zo ((x::k2).length);have hn3:0<n2:=by rw[<-hn2];simp
       rw[hn2]at g2;have k0:decide (0<n2)=true:=by simp[hn3]
       have k1:decide ((0:Int)<(n2:Int))=true:=by simp;omega
       have HC:=Z (zd2.con (hk2 x (by simp)) zm9);have HEQ:=Z heq;have HDR:=Z hdr;have HN2:=Z hn2;clear eX zd2 heq hdr hn2;go_wp2_with fail;refine HC.out.mono ?_;rintro e W8 ⟨rfl,wC⟩;have HT8:=Z (wC.tar (ht2 t (by simp)) (by simp only[zI,gz,zm,ur]at hlen|-;omega));go_wp2_with fail;refine HT8.out.mono ?_;rintro e W9 ⟨rfl,yck⟩;have HM9:=Z yck.ycy;clear HT8 wC;go_wp2;go_roundw
       case rel=>exact⟨_,k2,t2,yck,by rw[<-HEQ.out];simp[CO],by simpa using HDR.out,by simp at Qt;omega,λy hy=>hk2 y (by simp[hy]),λy hy=>ht2 y (by simp[hy])⟩
       case measure=>rw[HM9.out,HM.out];simp
   .have hn:=Lib.run_next_end_at (P:=prog) wr I ⟨F.toArray⟩ j 0 hit (by rw[size_mk];exact ud);obtain⟨v,kv,tv,d1,d2,d3,dr,dk,dt,df,n1,n2,n3,n4,dq⟩:=eX.ex;have hFe:F.drop j=[]:=yq (by omega);rw[hFe]at heq;have HEQ:=Z (show done=l++qI i by rw[<-heq];simp[gm]);have HDR:=Z dr;have HDF:=Z df;clear eX heq Ks dr df dk dt dq hit;go_wp2;go_ret;rw[<-HEQ.out];exact⟨v,rfl,HDR.out,HDF.out⟩
variable{n:Nat}
def jk(e:uP)(w:z7)(b n:Nat)(f:Wd->Option Nat):Prop :=
 ∃D:DataW Unit,w.ownsMap prog 9 (plainElem prog e) b n D/\Maps.IsMap D/\∀m:Wd,znq D (.string m)=(f m).isSome/\D.atKey (.string m) (.lit (.int .i64 0)) = .lit (.int .i64 (((f m).getD 0:Nat):Int))
structure eU(t e:uP):Prop where
 map:prog.underlying t=some (.map 9 e)
 el:prog.underlying e=some (.int .i64)
 zero:∀w,(zeroValue e).run prog w = .ok (.int .i64 0) w
def jk.keep{e:uP}{b:Nat}{f:Wd->Option Nat}(h:jk e w b n f)(hb:w'.heap[b]? = w.heap[b]?):jk e w' b n f:=by
 obtain⟨D,h1,h2⟩:=h;obtain⟨es,a,c,rest⟩:=h1;exact⟨D,⟨es,a,hb.trans c,rest⟩,h2⟩
def jk.lt{e:uP}{b:Nat}{f:Wd->Option Nat}(h:jk e w b n f):b<(w:Nat):=Ph
def jk.below{e:uP}{b:Nat}{f:Wd->Option Nat}(h:jk e w b n f)(hb:zJ w w'):jk e w' b n f:=h.keep (hb.block b h.lt)
def jk.made(e:uP)(w:z7):jk e (w.alloc (.map #[] 0)) (w:Nat) 0 (λ_=>none) :=
 ⟨.map [],C5 w _ _ _,⟨_,rfl⟩,λm=>⟨rfl,rfl⟩⟩
section
variable {t e:uP}
def jk.look{b:Nat}{f:Wd->Option Nat}(T:eU t e)(h:jk e w b n f)(m:Wd)(hm:m.length<=5000000) :
  (C6 t (.map (some b)) (zv m) true).run prog w = .ok (.tuple #[(((f m).getD 0:Nat):Int),.bool (f m).isSome]) w:=by
 obtain⟨D,h1,h2,d⟩:=h;obtain⟨v,ps,a,hv⟩:=h1.look_ok (vE underlying9) T.map (z := .int .i64 0) (T.zero w) (Zh T.el zj)
  (key:=zv m) (xy (s:=⟨m.toArray⟩) underlying9 GV)
 rw[toList_mk]at a hv;rw[(d m).1]at a;rw[(d m).2]at hv;obtain⟨c,rfl,hc,_⟩:=plainElem_int_inv T.el hv;simp only[Yg,Hs,zk5]at hc;rw[a,<-hc.1.2]
def jk.Ee{b:Nat}{f:Wd->Option Nat}(T:eU t e)(h:jk e w b n f)(m:Wd)(hm:m.length<=5000000) :
  (C6 t (.map (some b)) (zv m) false).run prog w = .ok (((f m).getD 0:Nat):Int) w:=by
 obtain⟨D,h1,h2,g⟩:=h;obtain⟨c,d,a,_⟩:=h1.lookup_int (vE underlying9) T.map T.el (q := .i64) (T.zero w)
  (key:=zv m) (xy (s:=⟨m.toArray⟩) underlying9 GV)
 rw[toList_mk,(g m).2]at a;simp only[Hs,zk5,true_and]at a;rw[d,<-a]
def jk.put{b:Nat}{f:Wd->Option Nat}(T:eU t e)(h:jk e w b n f)(m:Wd)(hm:m.length<=5000000)(v:Int)(k:Nat)(hv:v=(k:Int))(i:k<=1000000000)(hn:n<=1000000000) :
  ∃w',(Cw t (.map (some b)) (zv m) v).run prog w = .ok () w'/\jk e w' b (n+1) (λx=>if m=x then some k else f x)/\w.grownBy w' (some b):=by
 subst hv;obtain⟨D,h1,h2,h3⟩:=h;obtain⟨w',d,c,g⟩:=h1.update (vE underlying9) T.map Z7 (key:=zv m) (xy (s:=⟨m.toArray⟩) underlying9 GV)
  (Zh T.el (q := .i64) (a:=(k:Int)) Pr)
 rw[toList_mk]at c;refine⟨w',d,⟨_,c,h2.put _ _,λx=>?_⟩,g⟩;by_cases hx:m=x
 .subst hx;simp only[↓reduceIte];exact⟨by rw[Vr h2 (show ku (.string m)from trivial)];simp,by rw[dC h2 (show ku (.string m)from trivial)];simp⟩
 .exact mL
end
variable{xs:List zx}{k p:Nat}{e:uP}
structure MkS where
 cs:List Wd
 code:List Jn
 pos:Nat
namespace MkS
def const(s:MkS)(t:Wd):MkS:=if t∈s.cs then s else { s with cs:=s.cs++[t] }
def num(s:MkS)(t:Wd):Nat:=s.cs.idxOf t
def put(s:MkS)(op v:Nat)(k tg:List Nat):MkS:={ s with code:=s.code++[⟨op,s.pos,v,k,tg⟩],pos:=s.pos+(qI ⟨op,s.pos,v,k,tg⟩).length }
def qh(s:MkS)(i j:Nat):MkS:={ s with code:=s.code.modify i λx=>{ x with tg:=x.tg.set j s.pos } }
end MkS
structure Yc where
 B:Nat
 q:Nat
 m:Nat
 vC:zx
 vI:zx
 rs:List (zx×zx)
def Yc.has(L:Yc)(p k:Nat):Prop:=k=p\/k=L.q\/k=L.m\/yd L.vC k\/yd L.vI k\/∃r∈L.rs,yd r.1 k\/yd r.2 k
def Od(i:Jn)(r:zx×zx):List zx:=[.int .i64 i.op,.int .i64 i.pos,.int .i64 i.v,r.1,r.2]
def Yy:List Jn->List (zx×zx)->List zx
 |i::l,r::rs=>Od i r++Yy l rs
 |_,_=>[]
def Yx(l:List Nat):List zx:=l.map λx => .int .i64 (x:Nat)
abbrev qT(w:z7)(v:zx)(l:List Nat):Prop:=w.ownsRow 0 3 1 v l.length (Yx l)
def wE:bH prog 99 110 (.agg #[.int .i64 0,.int .i64 0,.int .i64 0,.slice none 0 0,.slice none 0 0]) 5 72 :=
 ⟨underlying99,info_parts yy,rfl,zj,zj⟩
def Ob:∀(l:List Jn) (rs:List (zx×zx)) (i:Jn) (r:zx×zx),rs.length=l.length->Yy (l++[i]) (rs++[r])=Yy l rs++Od i r
 |[],[],i,r,_=>by simp[Yy]
 |[],r'::rs,i,r,h=>JC
 |i'::l,[],i,r,h=>JC
 |i'::l,r'::rs,i,r,h=>by simp[Yy,Ob l rs i r Y3]
def Lp:∀(l:List Jn) (rs:List (zx×zx)),rs.length=l.length->∀n j (i:Jn) (r:zx×zx),l[n]? = some i->rs[n]? = some r->j<5->(Yy l rs)[n*5+j]? = (Od i r)[j]?
 |[],_,_,n,j,i,r,h,_,_=>JC
 |i'::l,[],h,_,_,_,_,_,_,_=>JC
 |i'::l,r'::rs,h,0,j,i,r,h1,h2,a=>by
  simp at h1 h2;subst h1 h2;simp only[Yy,Nat.zero_mul,V9];exact qM (by simpa[Od]using a)
 |i'::l,r'::rs,h,n+1,j,i,r,h1,h2,a=>by
  have:=Lp l rs Y3 n j i r (by simpa using h1) (by simpa using h2) a;rw[<-this];simp only[Yy];rw[zc (by simp[Od];omega)];congr 1;simp[Od];omega
def OZ:∀(l:List Jn) (rs:List (zx×zx)) (n:Nat) (f:List Nat->List Nat),Yy (l.modify n λx=>{ x with tg:=f x.tg }) rs=Yy l rs
 |[],_,n,f=>by simp[Yy]
 |i::l,[],0,f=>by simp[Yy]
 |i::l,[],n+1,f=>by simp[Yy]
 |i::l,r::rs,0,f=>by simp[Yy,Od]
 |i::l,r::rs,n+1,f=>by simp[Yy,OZ l rs n f]
def Ua(w:z7)(k:Nat):Option uP:=match w.heap[k]? with|some (.cells _ t _)=>some t|_=>none
def jR{base size:Nat}(h:w.ownsRow base e size v n xs){g:Nat}(a:yd v g):Ua w g=some e:=by
 rcases h.2 with⟨hv,_⟩|⟨g',cap,cur,hv,_,b,_⟩
 .rw[hv]at a;cases a
 .rw[hv]at a;cases a;simp[Ua,b]
def ue(h:w'.heap[k]? = w.heap[k]?):Ua w' k=Ua w k:=by unfold Ua;rw[h]
def Uf(w:z7)(a:yi)(u:zx)(k:Nat):Ua (w.setCell a u) k=Ua w k:=by
 by_cases b:k=a.block
 .subst b;unfold Ua xW;simp only[Zt,if_true];cases c:w.heap[a.block]? with
  |none=>rfl
  |some o=>cases o<;>rfl
 .exact ue (zh _ _ _ _ b)
def KU(w:z7)(c:Array zx)(t:uP):Ua (w.alloc (.cells c t)) (w:Nat)=some t:=by
 unfold Ua;show(match (w.heap.push (.cells c t (0,0)))[(w:Nat)]? with|some (.cells _ t _)=>some t|_=>none)=_;simp
def ZZ{t:uP}(h:Ua w k=some t):k<(w:Nat):=by
 unfold Ua at h;split at h
 .next a=>exact(vN.1 a).1
 .cases h
def XX{b:Nat}{f:Wd->Option Nat}(h:jk e w b n f):Ua w b=none:=by
 obtain⟨D,⟨es,a,c,_⟩,_⟩:=h;simp[Ua,c]
def ke(cs:List Wd)(t:Wd):Option Nat:=if t∈cs then some (cs.idxOf t)else none
structure Bg(w:z7)(code:List Jn)(rs:List (zx×zx)):Prop where
 len:rs.length=code.length
 k:∀(n:Nat) (i:Jn) (r:zx×zx),code[n]? = some i->rs[n]? = some r->qT w r.1 i.k/\qT w r.2 i.tg
 ne:∀(n m:Nat) (r r':zx×zx),rs[n]? = some r->rs[m]? = some r'->∀g,yd r.2 g->¬yd r'.1 g/\(yd r'.2 g->n=m)
def Bg.fr{code:List Jn}{rs:List (zx×zx)}(h:Bg w code rs)(hf:Fr F F' w w')(hF:∀k,F k->Ua w k≠some 3):Bg w' code rs :=
 ⟨h.len,λn i r h1 h2=>by
  obtain⟨a,b⟩:=h.k n i r h1 h2;exact⟨hf.own a (λg c d=>hF g d (jR a c)),hf.own b (λg c d=>hF g d (jR b c))⟩,h.ne⟩
structure uq(p:Nat)(L:Yc)(s:MkS)(w:z7):Prop where
 p0:zy w p 0 (L.q,0)
 p1:zy w p 1 s.pos
 p2:zy w p 2 (.map (some L.m))
 q0:zy w L.q 0 L.vC
 q1:zy w L.q 1 L.vI
 q2:zy w L.q 2 (.map none)
 zp:∀j,w.frozen? ⟨p,j,none⟩=false
 zq:∀j,w.frozen? ⟨L.q,j,none⟩=false
 tp:Ua w p=some 105
 tq:Ua w L.q=some 102
 mp:jk 3 w L.m s.cs.length (ke s.cs)
 cC:w.ownsRow 0 9 1 L.vC s.cs.length (s.cs.map zv)
 cI:w.ownsRow 0 110 5 L.vI s.code.length (Yy s.code L.rs)
 rows:Bg w s.code L.rs
 lo:∀k,L.has p k->L.B<=k
def jk.fr{b:Nat}{f:Wd->Option Nat}(h:jk e w b n f)(hf:Fr F F' w w')(hb:¬F b):jk e w' b n f:=h.keep (hf.keep b h.lt hb)
def uq.fr{L:Yc}{s:MkS}(h:uq p L s w)(hf:Fr F F' w w')(hF:∀k,F k->¬L.has p k):uq p L s w':=by
 have d:¬F p:=λq=>hF p q (.inl rfl)
 have nq:¬F L.q:=λq=>hF _ q (.inr (.inl rfl))
 have lp:=ZZ h.tp;have e:=ZZ h.tq;refine⟨hf.cell h.p0 d,hf.cell h.p1 d,hf.cell h.p2 d,hf.cell h.q0 nq,hf.cell h.q1 nq,hf.cell h.q2 nq,λj=>(hf.frozen lp d).trans (h.zp j),λj=>(hf.frozen e nq).trans (h.zq j),(ue (hf.keep p lp d)).trans h.tp,(ue (hf.keep _ e nq)).trans h.tq,
  h.mp.fr hf (λq=>hF _ q (.inr (.inr (.inl rfl)))),hf.own h.cC (λg c q=>hF g q (.inr (.inr (.inr (.inl c))))),hf.own h.cI (λg c q=>hF g q (.inr (.inr (.inr (.inr (.inl c)))))),⟨h.rows.len,λn i r h1 h2=>?_,h.rows.ne⟩,h.lo⟩
 obtain⟨a,b⟩:=h.rows.k n i r h1 h2;have hr:=gg h2;exact⟨hf.own a (λg c q=>hF g q (.inr (.inr (.inr (.inr (.inr ⟨r,hr,.inl c⟩)))))),hf.own b (λg c q=>hF g q (.inr (.inr (.inr (.inr (.inr ⟨r,hr,.inr c⟩))))))⟩
def uq.lt{L:Yc}{s:MkS}(h:uq p L s w)(c:L.has p k):k<(w:Nat):=by
 rcases c with rfl|rfl|rfl|c|c|⟨r,hr,c⟩
 .exact ZZ h.tp
 .exact ZZ h.tq
 .exact h.mp.lt
 .exact ji h.cC c
 .exact ji h.cI c
 .obtain⟨n,hn,e⟩:=List.mem_iff_getElem.1 hr;have h1:L.rs[n]? = some r:=by rw[zw hn,e]
  have h2:s.code[n]? = some (s.code[n]'(by have:=h.rows.len;omega)):=zw _;obtain⟨a,b⟩:=h.rows.k n _ r h2 h1;exact c.elim (ji a) (ji b)
def uq.alloc{L:Yc}{s:MkS}(h:uq p L s w)(o:Obj):uq p L s (w.alloc o):=h.fr ((Fr.refl j6 w).alloc o) (λ_ q=>q.elim)
def uq.drew{L:Yc}{s:MkS}(h:uq p L s w):uq p L s w.drew:=h.fr (Fr.refl j6 w).drew (λ_ q=>q.elim)
def uq.base{L:Yc}{s:MkS}(h:uq p L s w):L.B<=p/\p<(w:Nat):=⟨h.lo p (.inl rfl),ZZ h.tp⟩
def uq.low{L L':Yc}{s:MkS}(h:uq p L s w)(hb:L'.B=L.B)(hf:Fr (L.has p) (L'.has p) w w'):∀k,L'.has p k->L'.B<=k:=λk a=>by
 have:=h.base;rw[hb];exact(hf.fp k a).elim (h.lo k) J
def MkQ(p:Nat)(L:Yc)(s:MkS)(w w':z7):Prop:=∃L',uq p L' s w'/\(L'.q=L.q/\L'.B=L.B)/\Fr (L.has p) (L'.has p) w w'
variable{L:Yc}{w1 w2:z7}
def Jp:eU 103 3:=⟨underlying103,underlying3,λw=>dz⟩
def GM{cs:List Wd}{t:Wd}(h:t ∉ cs):(λx=>if t=x then some cs.length else ke cs x)=ke (cs++[t]):=by
 funext x;unfold ke;by_cases hx:t=x
 .subst hx;simp[h,List.idxOf_append,List.idxOf_cons]
 .have a:¬x=t:=λe=>hx e.symm
  by_cases hm:x∈cs
  .simp[hx,hm,List.idxOf_append]
  .simp[hx,hm,a]
def uq.nC{s:MkS}(h:uq p L s w){g:Nat}(a:yd L.vC g):g≠p/\g≠L.q/\g≠L.m/\¬yd L.vI g:=by
 have t:=jR h.cC a;refine⟨?_,?_,?_,λq=>?_⟩
 .rintro rfl;rw[h.tp]at t;simp at t
 .rintro rfl;rw[h.tq]at t;simp at t
 .rintro rfl;rw[XX h.mp]at t;cases t
 .rw[jR h.cI q]at t;simp at t
def uq.nI{s:MkS}(h:uq p L s w){g:Nat}(a:yd L.vI g):g≠p/\g≠L.q/\g≠L.m:=by
 have t:=jR h.cI a;refine⟨?_,?_,?_⟩
 .rintro rfl;rw[h.tp]at t;simp at t
 .rintro rfl;rw[h.tq]at t;simp at t
 .rintro rfl;rw[XX h.mp]at t;cases t
def uq.nP{s:MkS}(h:uq p L s w):p≠L.q/\p≠L.m/\L.q≠L.m:=by
 refine⟨λe=>?_,λe=>?_,λe=>?_⟩
 .have:=h.tp;rw[e,h.tq]at this;simp at this
 .have:=h.tp;rw[e,XX h.mp]at this;cases this
 .have:=h.tq;rw[e,XX h.mp]at this;cases this
def uq.more{s:MkS}{t:Wd}(h:uq p L s w)(z:t ∉ s.cs)(hm:jk 3 w1 L.m (s.cs.length+1) (λx=>if t=x then some s.cs.length else ke s.cs x))(h1:w.grownBy w1 (some L.m))
  (y:w2.ownsRow 0 9 1 v' (s.cs.length+1) (s.cs.map zv++[zv t])) (h2:Fr (yd L.vC) (yd v') w1 w2) :
  ∃L',uq p L' { s with cs:=s.cs++[t] } (w2.setCell (L.q,0) v')/\(L'.q=L.q/\L'.B=L.B)/\Fr (L.has p) (L'.has p) w (w2.setCell (L.q,0) v'):=by
 obtain⟨A,r,u⟩:=h.nP;have nC:=λg d=>h.nC (g:=g) d
 have nI:=λg d=>h.nI (g:=g) d
 have n:=ZZ h.tq;have lp:=ZZ h.tp;have f1:Fr (λk=>k=L.m) (λk=>k=L.m) w w1:=⟨h1.os,h1.tape,h1.output,h1.size,λk b hn=>h1.block k b (λe=>hn (zR e)),λ_ q => .inl q⟩;have f2:Fr (λk=>k=L.m\/yd L.vC k) (λk=>k=L.m\/yd v' k) w w2:=by
  have a:=f1.wide (G:=λk=>k=L.m\/yd L.vC k) (λ_ q => .inl q);exact⟨h2.os.trans a.os,h2.tape.trans a.tape,h2.output.trans a.output,zZ a.size h2.size,λk b hn=>(h2.keep k (ze b a.size) (λq=>hn (.inr q))).trans (a.keep k b hn),λk q=>q.elim (λq => .inl (.inl q)) (λq=>(h2.fp k q).imp .inr (zZ a.size))⟩
 have nq:¬(L.q=L.m\/yd L.vC L.q):=λq=>q.elim u (λq=>(nC _ q).2.1 rfl)
 have D:¬(p=L.m\/yd L.vC p):=λq=>q.elim r (λq=>(nC _ q).1 rfl)
 have o:∀g,yd v' g->yd L.vC g\/(w:Nat)<=g:=λg d=>(h2.fp g d).imp id (zZ f1.size)
 have v:=f2.cell h.q0 nq;have C:¬yd v' L.q:=λq=>(o _ q).elim (λq=>(nC _ q).2.1 rfl) J
 have f3:Fr (λk=>k=L.m\/yd L.vC k\/k=L.q) (λk=>k=L.m\/yd L.vC k\/k=L.q) w (w2.setCell ⟨L.q,0,none⟩ v'):=(f2.wide (λ_ q=>q.elim .inl (λq => .inr (.inl q)))).set _ (.inl (.inr (.inr rfl)));have c:¬(p=L.m\/yd L.vC p\/p=L.q):=λq=>q.elim r (λq=>q.elim (λq=>(nC _ q).1 rfl) A)
 have i:∀g,yd L.vI g->¬(g=L.m\/yd L.vC g\/g=L.q):=λg d q=>q.elim (nI g d).2.2 (λq=>q.elim (λq=>(nC _ q).2.2.2 d) (nI g d).2.1)
 have l:Fr (L.has p) (Yc.has { L with vC:=v' } p) w (w2.setCell (L.q,0) v'):=by
  refine(f3.wide (G:=L.has p) (λk b=>by rcases b with b|b|b;exact .inr (.inr (.inl b));exact .inr (.inr (.inr (.inl b)));exact .inr (.inl b))).tg λk b=>?_
  rcases b with b|b|b|b|b|b
  .exact .inl (.inl b)
  .exact .inl (.inr (.inl b))
  .exact .inl (.inr (.inr (.inl b)))
  .exact(o k b).imp (λq => .inr (.inr (.inr (.inl q)))) id
  .exact .inl (.inr (.inr (.inr (.inr (.inl b)))))
  .exact .inl (.inr (.inr (.inr (.inr (.inr b)))))
 refine⟨{ L with vC:=v' },⟨f3.cell h.p0 c,f3.cell h.p1 c,f3.cell h.p2 c,Z5 v _,?_,?_,λj=>(f3.frozen lp c).trans (h.zp j),λj=>?_,(ue (f3.keep p lp c)).trans h.tp,?_,?_,?_,f3.own h.cI i,h.rows.fr f3 ?_,h.low rfl l⟩,⟨rfl,rfl⟩,l⟩
 .rw[zN,zL zY];exact f2.cell h.q1 nq
 .rw[zN,zL zY];exact f2.cell h.q2 nq
 .rw[zO];exact(f2.frozen n nq).trans (h.zq j)
 .rw[Uf];exact(ue (f2.keep _ n nq)).trans h.tq
 .have f:jk 3 w2 L.m (s.cs.length+1) (λx=>if t=x then some s.cs.length else ke s.cs x):=hm.fr h2 (λq=>(nC _ q).2.2.1 rfl);rw[GM z]at f;have:=f.keep (w':=w2.setCell ⟨L.q,0,none⟩ v') (zh _ _ _ _ (λe=>u e.symm));simpa using this
 .have:=yC y (a:=(L.q,0)) C v';simpa using this
 .intro k b;rcases b with rfl|b|rfl
  .rw[XX h.mp];simp
  .rw[jR h.cC b];simp
  .rw[h.tq];simp
def Ud(p:Nat)(L:Yc)(s:MkS)(t:Wd)(w:z7)(h:uq p L s w)(E:t.length<=5000000)(K:s.cs.length<=1000000) :
  zE prog 96 #[(p,0),zv t] w λe w'=>e = .returned (s.num t:Nat)/\∃L',uq p L' (s.const t) w'/\(L'.q=L.q/\L'.B=L.B)/\Fr (L.has p) (L'.has p) w w':=by
 have r:=Z h;have p0:=h.p0;have p2:=h.p2;have q0:=h.q0;have x:=h.mp.look Jp t E;by_cases b:t∈s.cs
 .rw[show ke s.cs t=some (s.num t)from zl b]at x;have C:=Z (show s.const t=s from zl b);clear h b;go_enter func96,ntmps96;go_wp2;go_ret;rw[C.o];exact⟨rfl,L,r.o,⟨rfl,rfl⟩,Fr.refl _ _⟩
 .rw[show ke s.cs t=none from zL b]at x;have C:=Z (show s.const t={ s with cs:=s.cs++[t] }from zL b);have G:=Z (show s.num t=s.cs.length from List.idxOf_eq_length b);obtain⟨w1,y,k,f⟩:=h.mp.put Jp t E (s.cs.length:Nat) s.cs.length rfl J J;obtain⟨n,hn⟩:=zo s.cs.length;have D:=Z b;have u:=f.cell p0 (λe=>h.nP.2.1 (zR e));have j:=f.cell q0 (λe=>h.nP.2.2 (zR e));have c:w1.ownsRow 0 9 1 L.vC s.cs.length (s.cs.map zv):=h.cC.kept f (by
   cases hv:L.vC.ownBlock with
   |none=>exact .inl rfl
   |some g=>exact .inr (λe=>(h.nC hv).2.2.1 (zR e)))
  obtain⟨ca,I,l⟩:=zD c;rw[hn]at y k c l;rw[l]at q0 j c;clear h b;go_enter func96,ntmps96;go_wp2_with fail;refine PG (λW':z7=>zy W' p 0 (zX L.q 0)/\zy W' L.q 0 (.slice ca n I)) 16 [0,1,2,3,4,5,6,7,8,9,10,11] 5 ⟨u,j⟩ ?_;refine UG 12 (λv m=>?_);go_simp;refine m.out _ _ ⟨yG u _,yG j _⟩ λ_=>?_
  clear m v;refine UG 13 (λv m=>?_);rw[zl xK];change XM _ _ _ (w1.drew.alloc (.cells [_].toArray _)) _ _
  refine Qi uN [_] 1 (by exact c) J ?_;intro v2 w2 i a;have a:=a.und;rw[<-l]at a;have F:=Z a;have z:=a.cell u (λq=>(r.o.nC q).1 rfl);have A:=a.cell j (λq=>(r.o.nC q).2.1 rfl);have z2:=(a.frozen (Y _ _ j) (λq=>(r.o.nC q).2.1 rfl)).trans ((zb (f.block L.q (Y _ _ q0) (λe=>r.o.nP.2.2 (zR e)))).trans (r.o.zq 0));rw[<-hn]at i k;have H:=Z (r.o.more D.o k f i a);rw[hn]at i;obtain⟨a2,c2,rfl⟩:=zD i;clear i a k l c;go_simp;refine m.out _ _ ⟨z,A⟩ λ_=>?_
  clear m v;refine qY [14,15] 1 rfl fy yy yy ⟨z,A⟩ ?_;(iterate 2 (refine ty ?_;try simp only[pl]))
  refine yA ?_;refine N3 16 (λv m=>?_);go_simp;refine m.out _ _ ?_;clear m v;refine N4 ?_ _;go_wp2;go_ret;rw[C.o,G.o,hn];exact⟨rfl,H.o⟩
structure jg(w:z7)(p:Nat)(i:Nat)(b c:Nat):Prop where
 pb:zy w b 0 (p,0)
 pc:zy w c 0 i
 tb:Ua w b=some 98
 tc:Ua w c=some 3
abbrev ZY(b c:Nat):zx := .func (.func 71) #[] #[(b,0),(c,0)]
def qT.ycj{l:List Nat}(h:qT w v l):ff w v l:=by
 rcases h.2 with⟨rfl,hn⟩|⟨g,cap,cur,rfl,_,e,b,a,d,f⟩
 .exact⟨none,0,by rw[hn],J,zG _,λj c=>J⟩
 .refine⟨_,cap,rfl,b,a,λj c=>⟨_,rfl,?_⟩⟩;rw[vA,ypv h j J];simp[Yx,c]
def uq.ycg{s:MkS}{i:Jn}{kv d:zx}(h:uq p L s w)(b:qT w kv i.k)(C:qT w d i.tg)(K:∀g,yd kv g->¬L.has p g)(z:∀g,yd d g->¬L.has p g)(M:∀g,yd d g->¬yd kv g)
  (lk:∀g,yd kv g\/yd d g->L.B<=g) (F:w2.ownsRow 0 110 5 v' (s.code.length+1) (Yy s.code L.rs++Od i (kv,d))) (h2:Fr (yd L.vI) (yd v') w w2) :
  ∃L',uq p L' { s with code:=s.code++[i] } (w2.setCell (L.q,1) v')/\(L'.q=L.q/\L'.B=L.B)/\Fr (λg=>L.has p g\/yd kv g\/yd d g) (L'.has p) w (w2.setCell (L.q,1) v'):=by
 obtain⟨H,O,I⟩:=h.nP;have nC:=λg c=>h.nC (g:=g) c
 have nI:=λg c=>h.nI (g:=g) c
 have D:=ZZ h.tq;have lp:=ZZ h.tp;have nq:¬yd L.vI L.q:=λq=>(nI _ q).2.1 rfl
 have N:¬yd v' L.q:=λq=>(h2.fp _ q).elim nq J
 have f3:Fr (λk=>yd L.vI k\/k=L.q) (λk=>yd L.vI k\/k=L.q) w (w2.setCell ⟨L.q,1,none⟩ v'):=(h2.wide (λ_ q => .inl q)).set _ (.inl (.inr rfl));have o:¬(yd L.vI p\/p=L.q):=λq=>q.elim (λq=>(nI _ q).1 rfl) H
 have y:∀g,yd L.vC g->¬(yd L.vI g\/g=L.q):=λg c q=>q.elim (nC g c).2.2.2 (nC g c).2.1
 have A:Fr (λg=>L.has p g\/yd kv g\/yd d g) (Yc.has { L with vI:=v',rs:=L.rs++[(kv,d)] } p) w (w2.setCell (L.q,1) v'):=by
  refine(f3.wide (G:=λg=>L.has p g\/yd kv g\/yd d g) (λk b=>by rcases b with b|b;exact .inl (.inr (.inr (.inr (.inr (.inl b)))));exact .inl (.inr (.inl b)))).tg λk b=>?_
  rcases b with b|b|b|b|b|⟨r,hr,b⟩
  .exact .inl (.inl (.inl b))
  .exact .inl (.inl (.inr (.inl b)))
  .exact .inl (.inl (.inr (.inr (.inl b))))
  .exact .inl (.inl (.inr (.inr (.inr (.inl b)))))
  .exact(h2.fp k b).imp (λq => .inl (.inr (.inr (.inr (.inr (.inl q)))))) id
  .rcases xY.1 hr with hr|hr
   .exact .inl (.inl (.inr (.inr (.inr (.inr (.inr ⟨r,hr,b⟩))))))
   .simp at hr;subst hr;exact .inl (.inr b)
 have t:∀k,(yd L.vI k\/k=L.q)->Ua w k≠some 3:=by
  rintro k (b|rfl)
  .rw[jR h.cI b];simp
  .rw[h.tq];simp
 have f:=h.rows.len;refine⟨{ L with vI:=v',rs:=L.rs++[(kv,d)] },⟨f3.cell h.p0 o,f3.cell h.p1 o,f3.cell h.p2 o,?_,Z5 (h2.cell h.q1 nq) _,?_,λj=>(f3.frozen lp o).trans (h.zp j),λj=>?_,(ue (f3.keep p lp o)).trans h.tp,?_,h.mp.fr f3 (λq=>q.elim (λq=>(nI _ q).2.2 rfl) (λe=>I e.symm)),f3.own h.cC y,?_,⟨by simp[f],?_,?_⟩,?_⟩,⟨rfl,rfl⟩,A⟩
 .rw[zN,zL zY];exact h2.cell h.q0 nq
 .rw[zN,zL zY];exact h2.cell h.q2 nq
 .rw[zO];exact(h2.frozen D nq).trans (h.zq j)
 .rw[Uf];exact(ue (h2.keep _ D nq)).trans h.tq
 .have:=yC F (a:=(zX L.q 1)) N v';rw[Ob _ _ _ _ f];simpa using this
 .have E:=h.rows.fr f3 t;intro n j r e1 e2;by_cases hn:n<s.code.length
  .rw[qM hn]at e1;rw[qM J]at e2;exact E.k n j r e1 e2
  .have l:n=s.code.length:=(by have:=(vq.1 e1).1;simp at this;omega);rw[l,zc (X _)]at e1;rw[l,zc J,f]at e2;simp at e1 e2;subst e1 e2;exact⟨f3.own b (λg c q=>t g q (jR b c)),f3.own C (λg c q=>t g q (jR C c))⟩
 .intro n m r r' e1 e2 g c;have v:∀n (r:zx×zx),(L.rs++[(kv,d)])[n]? = some r->(n<L.rs.length/\L.rs[n]? = some r)\/(n=L.rs.length/\r=(kv,d)):=λn r e=>by
   by_cases hn:n<L.rs.length
   .exact .inl ⟨hn,by rwa [qM hn]at e⟩
   .have l:n=L.rs.length:=(by have:=(vq.1 e).1;simp at this;omega);rw[l,zc (X _)]at e;simp at e;exact .inr ⟨l,e.symm⟩
  rcases v n r e1 with⟨a1,a2⟩|⟨a1,rfl⟩<;>rcases v m r' e2 with⟨b1,b2⟩|⟨b1,rfl⟩
  .exact h.rows.ne n m r r' a2 b2 g c
  .have u:L.has p g := .inr (.inr (.inr (.inr (.inr ⟨r,gg a2,.inr c⟩))));exact⟨λq=>K g q u,λq=>absurd u (z g q)⟩
  .have u:∀x,(yd r'.1 x\/yd r'.2 x)->L.has p x:=λx hx => .inr (.inr (.inr (.inr (.inr ⟨r',gg b2,hx⟩))))
   exact⟨λq=>z g c (u g (.inl q)),λq=>absurd (u g (.inr q)) (z g c)⟩
  .exact⟨M g c,λ_=>J⟩
 .intro k b;have:=h.base;exact(A.fp k b).elim (λq=>q.elim (h.lo k) (lk k)) (λq=>by show L.B<=k;omega)
def uq.setPos{s:MkS}(h:uq p L s w)(n:Nat):uq p L { s with pos:=n } (w.setCell (p,1) n)/\Fr (L.has p) (L.has p) w (w.setCell (p,1) n):=by
 obtain⟨b,c,d⟩:=h.nP;have f3:Fr (λk=>k=p) (λk=>k=p) w (w.setCell (zX p 1) n):=(Fr.refl _ _).set _ (.inl rfl);refine⟨⟨?_,Z5 h.p1 _,?_,f3.cell h.q0 (λe=>b e.symm),f3.cell h.q1 (λe=>b e.symm),f3.cell h.q2 (λe=>b e.symm),λj=>by rw[zO];exact h.zp j,λj=>by rw[zO];exact h.zq j,by rw[Uf];exact h.tp,by rw[Uf];exact h.tq,
  h.mp.fr f3 (λe=>c e.symm),f3.own h.cC (λg a=>(h.nC a).1),f3.own h.cI (λg a=>(h.nI a).1),h.rows.fr f3 (by rintro k rfl;rw[h.tp];simp),h.lo⟩,f3.wide (by rintro k rfl;exact .inl rfl)⟩
 .rw[zN,zL zY];exact h.p0
 .rw[zN,zL zY];exact h.p2
def eQ(w:z7)(x y:zx)(l:List zx)(t1 t2 t3:uP):∃W,W=((w.alloc (.cells #[x] t1)).alloc (.cells l.toArray t2)).alloc (.cells #[y] t3)/\Fr j6 j6 w W/\W.heap.size=(w:Nat)+3/\zy W (w:Nat) 0 x/\(∀j,W.cell? ⟨(w:Nat)+1,j,none⟩=l[j]?)/\zy W ((w:Nat)+2) 0 y/\Ua W (w:Nat)=some t1/\Ua W ((w:Nat)+2)=some t3:=by
 have e1:(w.alloc (.cells #[x] t1)).heap.size=(w:Nat)+1:=zY;have e2:((w.alloc (.cells #[x] t1)).alloc (.cells l.toArray t2)).heap.size=(w:Nat)+2:=zY;refine⟨_,rfl,(((Fr.refl _ _).alloc _).alloc _).alloc _,zY,yG (yG (zg w #[x] t1 (0,0) 0) _) _,λj=>?_,by rw[<-e2];exact zg _ #[y] t3 (0,0) 0,?_,by rw[<-e2];exact KU _ _ _⟩
 .rw[za _ _ _ (by rw[e2];show (w:Nat)+1<_;omega),<-e1,zg];simp
 .rw[ue (xA _ _ _ (by rw[e2];omega)),ue (xA _ _ _ (by rw[e1];omega))];exact KU _ _ _
def bO(p:Nat)(L:Yc)(s:MkS)(op v:Nat)(k tg:List Nat)(kv tv:zx)(w:z7)(h:uq p L s w)(hk:qT w kv k)(ht:qT w tv tg)(nk:∀g,yd kv g->¬L.has p g)(nt:∀g,yd tv g->¬L.has p g)(nn:∀g,yd tv g->¬yd kv g)
  (lk:∀g,yd kv g\/yd tv g->L.B<=g) (ho:AV ⟨op,s.pos,v,k,tg⟩) (hF:gQ w) (hB:4<L.B) (hl:s.code.length<=1000000) (hp:s.pos<=1000000) (hx:(qI ⟨op,s.pos,v,k,tg⟩).length<=1000000) :
  zE prog 40 #[(p,0),.agg #[op,.int .i64 0,v,kv,tv]] w λe w'=>∃b c,e = .returned (ZY b c)/\jg w' p s.code.length b c/\(w:Nat)<=b/\(w:Nat)<=c /\
   ∃L',uq p L' (s.put op v k tg) w'/\(L'.q=L.q/\L'.B=L.B)/\Fr (λg=>L.has p g\/yd kv g\/yd tv g) (L'.has p) w w'/\¬L'.has p b/\¬L'.has p c:=by
 obtain⟨I,HK,HT,HO,HF,HX⟩:=l6 h hk ht ho hF hx;have p0:=h.p0;have p1:=h.p1;have q0:=h.q1;have lp:=Y _ _ p0;obtain⟨n,hn⟩:=zo s.code.length;obtain⟨pos,y⟩:=zo s.pos;have r:=h.cI;rw[hn]at r;obtain⟨ia,ic,hvI⟩:=zD r;rw[hvI]at q0 r;obtain⟨ka,kc,rfl⟩:=zD hk;obtain⟨ta,tc,rfl⟩:=zD ht;obtain⟨kn,Qn⟩:=zo k.length;obtain⟨tn,htn⟩:=zo tg.length;rw[Qn]at HK nk nn lk|-;rw[htn]at HT nt nn lk|-;rw[y]at p1;have HN:=Z hn;have HP:=Z y;have lq:=Y _ _ q0;have cM:n<=1000000:=by rw[<-hn];exact hl
 have hp1:pos<=1000000:=by rw[<-y];exact hp
 obtain⟨N,M⟩:=zo (w:Nat);have p0a:=λo o2=>yG (yG p0 o) o2
 have p1a:=λo o2=>yG (yG p1 o) o2
 have q0a:=λo o2=>yG (yG q0 o) o2
 clear h hk ht ho hF hx hn y;go_enter func40,ntmps40;go_wp2_with fail;obtain⟨U,fe,f1,s1,b0,e0,c0,y1,y2⟩:=eQ w (zX p 0) n [.int .i64 op,.int .i64 pos,.int .i64 v,.slice ka kn kc,.slice ta tn tc] 98 110 3;rw[<-fe];rw[M]at s1 b0 e0 c0 y1 y2;have HY:=Z (qZ y1 y2);clear y1 y2;have p0:=f1.cell p0 id;have q0:=f1.cell q0 id;have QP:=Z f1;have UR:=Z s1;have HW1:=Z (λg (t:g<N)=>f1.keep g (by rw[M];exact t) id);have i0:=e0 0;have i1:=e0 1;have E:=e0 2;have F:=e0 3;have i4:=e0 4;simp at i0 i1 E F i4;clear fe;refine PG (λW':z7=>zy W' p 0 (zX L.q 0)/\zy W' L.q 1 (.slice ia n ic)/\zy W' N 0 (zX p 0)/\zy W' (N+1) 0 op/\zy W' (N+1) 1 pos/\zy W' (N+1) 2 v/\zy W' (N+1) 3 (.slice ka kn kc)/\zy W' (N+1) 4 (.slice ta tn tc)) 16 [0,1,2,3,4,5,6,7,8,9,10,11] 5 ⟨p0,q0,b0,i0,i1,E,F,i4⟩ ?_;refine UG 12 (λK x=>?_);go_simp;refine x.out _ _ ⟨yG p0 _,yG q0 _,yG b0 _,yG i0 _,yG i1 _,yG E _,yG F _,yG i4 _⟩ λ_=>?_
 clear x K;refine UG 13 (λK x=>?_);rw[zl xK];rw[show N+3=(U:Nat)from s1.symm];change XM _ _ _ (U.drew.alloc (.cells [_,_,_,_,_].toArray _)) _ _
 refine Qi wE [_,_,_,_,_] 1 ((f1.own r (λ_ _=>id):U.drew.ownsRow _ _ _ _ _ _)) J ?_;intro v2 w2 ho2 f;have f:=f.und;rw[<-hvI]at f;have P:=I.o.fr f1 (λ_ q=>q.elim);have l:qT U (.slice ka kn kc) k/\qT U (.slice ta tn tc) tg:=⟨f1.own HK.o (λ_ _=>id),f1.own HT.o (λ_ _=>id)⟩;have nI:∀g,yd L.vI g->g<N/\g≠p/\g≠L.q:=λg t=>⟨by rw[<-M];exact ji I.o.cI t,(I.o.nI t).1,(I.o.nI t).2.1⟩
 have nb:∀j,N<=j->¬yd L.vI j:=λj hj q=>by have:=(nI j q).1;omega
 have p0:=f.cell p0 (λq=>(nI _ q).2.1 rfl);have q0:=f.cell q0 (λq=>(nI _ q).2.2 rfl);have b0:=f.cell b0 (nb N (X _));have i0:=f.cell i0 (nb (N+1) J);have i1:=f.cell i1 (nb (N+1) J);have E:=f.cell E (nb (N+1) J);have F:=f.cell F (nb (N+1) J);have i4:=f.cell i4 (nb (N+1) J);have c0:=f.cell c0 (nb (N+2) J);have zq:=(f.frozen (a:=⟨L.q,1,none⟩) (ZZ P.tq) (λq=>(nI _ q).2.2 rfl)).trans (P.zq 1);have wF:=Z (show qT w2 (.slice ka kn kc) k/\qT w2 (.slice ta tn tc) tg from⟨f.own l.1 (λg t q=>nk g t (.inr (.inr (.inr (.inr (.inl q)))))),f.own l.2 (λg t q=>nt g t (.inr (.inr (.inr (.inr (.inl q))))))⟩);have HM:=Z (P.ycg (i:=⟨op,s.pos,v,k,tg⟩) l.1 l.2 nk nt nn lk (by rw[HN.o,HP.o];exact ho2) f);have ZT:=Z f;obtain⟨a2,c2,rfl⟩:=zD ho2;clear ho2 f r l f1 P;go_simp;refine x.out _ _ ⟨p0,q0,b0,i0,i1,E,F,i4⟩ λ_=>?_
 clear x K;refine qY [14,15] 1 rfl fy yy yy ⟨p0,q0,b0,i0,i1,E,F,i4⟩ ?_;(iterate 2 (refine ty ?_;try simp only[pl]))
 refine yA ?_;refine N3 16 (λK x=>?_);go_simp;refine x.out _ _ ?_;clear x K;refine N4 ?_ _;obtain⟨L2,D,⟨QW,OY⟩,W⟩:=HM.o;obtain⟨C,A⟩:=zo (w2.setCell (zX L.q 1) (.slice a2 (n+1) c2));have R:∀{a:yi} {u:zx},w2.cell? a=some u->a.block≠L.q->C.cell? a=some u:=λhc hn=>by rw[<-A];exact Qe hc _ (λe=>hn e.symm)
 rw[A]at D W|-;have p0:=D.p0;have p1:zy C p 1 pos:=by have:=D.p1;rw[show s.pos=pos from HP.o]at this;exact this
 have qN:L.q<N:=by rw[<-M];exact lq
 have b0:=R b0 (show N≠L.q by omega);have c0:=R c0 (show N+2≠L.q by omega);have i0:=R i0 (show N+1≠L.q by omega);have i1:=R i1 (show N+1≠L.q by omega);have E:=R E (show N+1≠L.q by omega);have F:=R F (show N+1≠L.q by omega);have i4:=R i4 (show N+1≠L.q by omega);have s3:N+3<=(C:Nat):=Y _ _ c0;have hfw:∀g,g<L.B->C.heap[g]? = w.heap[g]? := λg t=>by
  rw[<-A,zh _ _ _ _ (by show g≠L.q;have:=I.o.lo L.q (.inr (.inl rfl));omega)];have:=I.o.base;rw[M]at this;exact(ZT.o.keep g J (λq=>by have:=I.o.lo g (.inr (.inr (.inr (.inr (.inl q)))));omega)).trans (HW1.o g J)
 have HFO:gQ C:=λo ho=>(yZ (hfw _ hB)).trans (HF.o o ho)
 have hia:zm7 C.drew (N+1) 0 ⟨op,pos,v,k,tg⟩ (.slice ka kn kc) (.slice ta tn tc):=by
  refine⟨i0,i1,E,F,i4,qT.ycj ?_,qT.ycj ?_⟩
  .show qT C _ _;rw[<-A];exact yC wF.o.1 (λe=>nk _ e (.inr (.inl rfl))) _
  .show qT C _ _;rw[<-A];exact yC wF.o.2 (λe=>nt _ e (.inr (.inl rfl))) _
 have EJ:∀g,(yd (.slice ka kn kc) g\/yd (.slice ta tn tc) g)->g<(C:Nat):=λg t=>by
  have:g<N:=by rw[<-M];exact t.elim (ji HK.o) (ji HT.o)
  omega
 have hio:AV ⟨op,pos,v,k,tg⟩:=by have:=HO.o;rw[show s.pos=pos from HP.o]at this;exact this
 have hxl:=HX.o;rw[show s.pos=pos from HP.o]at hxl;have HAP:=Z (Sp (N+1) 0 ⟨op,pos,v,k,tg⟩ _ _ (.slice none 0 0) [] C.drew hia hio (yr _ _ _ _) (λq=>X0) (λg t=>⟨EJ g (.inl t),λq=>by cases q⟩) (λg t=>⟨EJ g (.inr t),λq=>by cases q⟩) HFO (λq=>by cases q) (by simp only[kr];omega));obtain⟨V,hX⟩:=zo (qI ⟨op,pos,v,k,tg⟩);rw[kr,hX]at HAP;rw[hX]at hxl;have HXX:=Z hX;have Cx:=Z D;have G:=Z W;clear hia EJ hio hfw A D W hX R i0 i1 E F i4;go_wp2_with fail;refine PG (λW':z7=>zy W' p 1 pos/\zy W' N 0 (zX p 0)) 9 [0,1,2,3] 6 ⟨p1,b0⟩ ?_;refine UG 4 (λK x=>?_);go_simp;refine HAP.o.mono ?_;rintro e W4 ⟨v4,rfl,hr4,m⟩;have m:=m.und;obtain⟨a4,c4,rfl⟩:=zD hr4;have p1:=m.cell p1 (λq=>by cases q);have b0:=m.cell b0 (λq=>by cases q);have c0:=m.cell c0 (λq=>by cases q);have Q:=Cx.o.fr m (λ_ q=>by cases q);refine x.out _ _ ⟨p1,b0⟩ λ_=>?_
 clear x K;refine qY [5,6,7,8] 1 rfl fy yy yy ⟨p1,b0⟩ ?_;have vky:yU.wrap ((pos:Int)+(V.length:Int))=((pos+V.length:Nat):Int):=qK;(iterate 4 (refine ty ?_;try simp only[pl]))
 refine yA ?_;have zp:=Q.zp 1;refine N3 9 (λK x=>?_);go_simp;refine x.out _ _ ?_;clear x K;refine N4 ?_ _;obtain⟨PM,hf5⟩:=Q.setPos (pos+V.length);obtain⟨T,H,S,HM4,z⟩:=FD PM hf5 m Q M;have np:p<N:=by rw[<-M];exact lp
 have e9:((pos+V.length:Nat):Int)=(pos:Int)+(V.length:Int):=J;rw[e9]at T H;obtain⟨W5,O⟩:=zo (W4.setCell (zX p 1) (.int .i64 ((pos:Int)+(V.length:Int))));have b5:zy W5 N 0 (zX p 0):=by rw[<-O];exact Qe b0 _ (by show p≠N;omega)
 have c5:zy W5 (N+2) 0 n:=by rw[<-O];exact Qe c0 _ (by show p≠N+2;omega)
 rw[O]at T H|-;clear PM hf5 m Q;clear O M;have hmf:∀(fn:Fn) (first cap:Array zx) (w:z7),(gP fn first cap).run prog w = .ok (.func fn first cap) w:=λ_ _ _ _=>rfl
 go_wp2;go_ret;have hno:∀g,N<=g->g<N+3->¬L2.has p g:=λg h1 h2 q=>by
  rcases G.o.fp g q with(q|q|q)|q
  .have:=I.o.lt q;have:=z.o;omega
  .have:=ji HK.o q;have:=z.o;omega
  .have:=ji HT.o q;have:=z.o;omega
  .have:=UR.o;omega
 have hty:∀g,N<=g->g<N+3->Ua W5 g=Ua U g:=λg h1 h2=>by
  have l1:g<(U:Nat):=by have:=UR.o;omega
  have l3:g<(C:Nat):=ze l1 G.o.size;rw[ue (H.o.keep g (ze l3 S.o.size) (hno g h1 h2)),ue (S.o.keep g l3 (λq=>X0)),ue (G.o.keep g l1 (λq=>?_))];have:=z.o;rcases q with q|q|q
  .have:=I.o.lt q;omega
  .have:=ji HK.o q;omega
  .have:=ji HT.o q;omega
 refine⟨N,N+2,rfl,⟨b5,by rw[HN.o];exact c5,(hty N (X _) J).trans HY.o.1,(hty (N+2) J J).trans HY.o.2⟩,by have:=z.o;omega,by have:=z.o;omega,L2,?_,⟨QW,OY⟩,(((QP.o.wide (λ_ q=>q.elim)).trans G.o).trans (S.o.wide (λ_ q=>by cases q))).trans H.o,hno N (X _) J,hno (N+2) J J⟩;have:=T.o;simp only[MkS.put];rw[show s.pos=pos from HP.o]at this|-;rw[show qI ⟨op,pos,v,k,tg⟩=V from HXX.o];exact this
variable{cap j:Nat}
def wH{base:Nat}{size g:Nat}(h:w.ownsRow base e size (.slice (g,0) n cap) n xs)(j:Nat)(u:zx) :
  (w.setCell (g,j) u).ownsRow base e size (.slice (g,0) n cap) n (xs.set j u):=by
 obtain⟨h1,h2⟩:=h;refine⟨by simp[h1],?_⟩;rcases h2 with⟨h2,_⟩|⟨g',a,cur,hv,hg,hh,k1,k2,k3,k4⟩
 .cases h2
 .exact ziq
def uq.qh{s:MkS}{i T tc:Nat}{x:Jn}{kv:zx}(h:uq p L s w)(hi:s.code[i]? = some x)(hr:L.rs[i]? = some (kv,.slice (T,0) n tc)) :
  uq p L (s.qh i j) (w.setCell (T,j) s.pos)/\Fr (L.has p) (L.has p) w (w.setCell (T,j) s.pos):=by
 obtain⟨d,o⟩:=h.rows.k i x _ hi hr;have v:=jR o (g:=T) rfl;have nx:∀g t,Ua w g=some t->t≠3->g≠T:=λg t c f e=>by rw[e,v]at c;exact f (zR c).symm
 have u:=nx p _ h.tp zj;have nq:=nx L.q _ h.tq zj;have nm:L.m≠T:=λe=>by have:=XX h.mp;rw[e,v]at this;cases this
 have f3:Fr (λk=>k=T) (λk=>k=T) w (w.setCell (T,j) s.pos):=(Fr.refl _ _).set _ (.inl rfl);have hn:n=x.tg.length:=by rcases o.2 with⟨hv,_⟩|⟨g,cap,cur,hv,_⟩<;>cases hv;rfl
 refine⟨⟨f3.cell h.p0 u,f3.cell h.p1 u,f3.cell h.p2 u,f3.cell h.q0 nq,f3.cell h.q1 nq,f3.cell h.q2 nq,λj=>by rw[zO];exact h.zp j,λj=>by rw[zO];exact h.zq j,by rw[Uf];exact h.tp,by rw[Uf];exact h.tq,
  h.mp.fr f3 nm,f3.own h.cC (λg c=>nx g _ (jR h.cC c) zj),?_,⟨by simpa[MkS.qh]using h.rows.len,?_,h.rows.ne⟩,h.lo⟩,f3.wide (λk d=>?_)⟩
 .have:=f3.own h.cI (λg c=>nx g _ (jR h.cI c) zj);simp only[MkS.qh,List.length_modify];rw[show Yy (s.code.modify i λx=>{ x with tg:=x.tg.set j s.pos }) L.rs=Yy s.code L.rs from OZ s.code L.rs i (λl=>l.set j s.pos)];exact this
 .intro m y r e1 e2;simp only[MkS.qh]at e1;rw[List.getElem?_modify]at e1;by_cases hm:i=m
  .subst hm;rw[hi]at e1;rw[hr]at e2;simp at e1 e2;subst e1 e2;refine⟨f3.own d (λg c e=>(h.rows.ne i i _ _ hr hr T rfl).1 (e▸c)),?_⟩;subst hn;have:=wH o j s.pos;have e:(Yx x.tg).set j s.pos=Yx (x.tg.set j s.pos):=(by simp[Yx,List.map_set]);rw[e]at this;show World.ownsRow _ _ _ _ _ (x.tg.set j s.pos).length _;rw[List.length_set];exact this
  .simp[hm]at e1;obtain⟨a,b⟩:=h.rows.k m y r e1 e2;exact⟨f3.own a (λg c e=>(h.rows.ne i m _ _ hr e2 T rfl).1 (e▸c)),f3.own b (λg c e=>hm ((h.rows.ne i m _ _ hr e2 T rfl).2 (e▸c)))⟩
 .subst d;exact .inr (.inr (.inr (.inr (.inr ⟨_,gg hr,.inr rfl⟩))))
def OX(p:Nat)(L:Yc)(s:MkS)(w:z7)(e:gG)(w':z7):Prop:=e = .returned (.tuple #[])/\uq p L s w'/\Fr (L.has p) (L.has p) w w'
def KQ(p:Nat)(L:Yc)(s:MkS)(i j b c:Nat)(x:Jn)(w:z7)(h:uq p L s w)(u:jg w p i b c)(hi:s.code[i]? = some x)(A:j<x.tg.length)(C:s.code.length<=1000000)(F:x.tg.length<=1000000) :
  zE prog 71 #[j,(b,0),(c,0)] w (OX p L (s.qh i j) w):=by
 have t:=(vq.1 hi).1;obtain⟨⟨kv,M⟩,hr⟩:∃r,L.rs[i]? = some r:=⟨_,zw (by have:=h.rows.len;omega)⟩;obtain⟨E,y⟩:=h.rows.k i x _ hi hr;obtain⟨T,tc,rfl,-,K,a⟩:=vK y J;obtain⟨I,G,f,-,H,d⟩:=vK h.cI J;have p0:=h.p0;have p1:=h.p1;have q1:=h.q1;rw[f]at q1;have b0:=u.pb;have c0:=u.pc;have t0:zy w I (i*5+4) (.slice (zX T 0) x.tg.length tc):=by
  rw[d _ J,Lp _ _ h.rows.len i 4 x _ hi hr J];rfl
 have u0:zy w T j (x.tg[j]:Nat):=by
  rw[a j J];simp[Yx,A]
 have zT:w.frozen? (T,j)=false:=by
  rcases y.2 with⟨hv,_⟩|⟨g,cap,cur,hv,_,D,_⟩
  .cases hv
  .cases hv;simp[PJ,D]
 have l:=Z (h.qh (j:=j) hi hr);obtain⟨n,hn⟩:=zo s.code.length;obtain⟨m,hm⟩:=zo x.tg.length;obtain⟨pos,e⟩:=zo s.pos;rw[hn]at q1 t;rw[hm]at t0 A;rw[e]at p1 l;have k1:(i:Int)<(n:Int):=J;have k2:(j:Int)<(m:Int):=J;clear h u E y a d f hi hr;go_enter func71,ntmps71;go_wp2_with fail;refine PG (λW':z7=>zy W' p 0 (zX L.q 0)/\zy W' p 1 pos/\zy W' L.q 1 (.slice (zX I 0) n G)/\zy W' b 0 (zX p 0)/\zy W' c 0 i/\zy W' I (i*5+4) (.slice (zX T 0) m tc)) 17 (Um 17) 1 ⟨p0,p1,q1,b0,c0,t0⟩ ?_;refine N3 17 (λB z=>?_);go_simp;refine z.out _ _ ?_;clear z B;refine N4 ?_ _;go_wp2;refine zU (v := .tuple #[]) ?_ rfl ?_
 .simp[yk,results71,go_sem]
 exact⟨rfl,l.o.1.drew,l.o.2.drew⟩
def MkS.sz(s:MkS):Nat:=s.code.length+s.cs.length+s.pos
def MkS.one(s:MkS)(op:Nat)(t:Wd):MkS:=(s.const t).put op 0 [s.num t] []
def gu(s:MkS)(t:Wd):(s.const t).sz<=s.sz+1/\(s.const t).code=s.code/\(s.const t).pos=s.pos:=by
 unfold MkS.const;split
 .exact⟨J,rfl,rfl⟩
 .exact⟨by simp[MkS.sz];omega,rfl,rfl⟩
def fZ(s:MkS)(op v:Nat)(k tg:List Nat):(s.put op v k tg).sz=s.sz+1+(qI ⟨op,s.pos,v,k,tg⟩).length:=by simp[MkS.put,MkS.sz];omega
def X3(s:MkS)(i j:Nat):(s.qh i j).sz=s.sz:=by simp[MkS.qh,MkS.sz]
def Lr(s:MkS)(t:Wd):s.num t<=s.cs.length:=ypy
def Fr.tr{G a:Nat->Prop}(h:Fr F F' w w1)(k:Fr G a w1 w2)(b:∀q,G q->F q\/(w:Nat)<=q):Fr F a w w2 :=
 ⟨k.os.trans h.os,k.tape.trans h.tape,k.output.trans h.output,zZ h.size k.size,λi hi hn=>(k.keep i (ze hi h.size) (λq=>(b i q).elim hn J)).trans (h.keep i hi hn),
  λi hi=>(k.fp i hi).elim (b i) (λq => .inr (zZ h.size q))⟩
def qT.lit(w:z7)(l:List Nat)(a:l.length<=1000000):qT (w.alloc (.cells (Yx l).toArray 3)) (.slice (w,0) l.length l.length) l:=by
 have h:=znu (base:=0) (e:=3) (size:=1) w (Yx l).toArray l.length (zG _) Z7 (by simp[Yx]);simpa using h
def qT.nil(w:z7):qT w (.slice none 0 0) []:=yr _ _ _ _
def gQ.fr(h:gQ w)(hf:Fr F F' w w')(hF:∀k,F k->B<=k)(hB:4<B):gQ w':=λo a=>hf.cell (h o a) (λq=>by have:=hF _ q;simp only at this;omega)
def MQ(p:Nat)(L:Yc)(s:MkS)(w:z7)(e:gG)(w':z7):Prop:=e = .returned (.tuple #[])/\MkQ p L s w w'
def Ls(p:Nat)(L:Yc)(s:MkS)(op:Nat)(t:Wd)(w:z7)(h:uq p L s w)(d:op=1\/op=2\/op=3)(G:t.length<=5000000)(hs:s.sz<=900000)(hF:gQ w)(hB:4<L.B) :
  zE prog 67 #[(p,0),op,zv t] w (MQ p L (s.one op t) w):=by
 have F:s.cs.length<=900000:=R7;have f:=Z (Ud p L s t w h G J);have z:=Z h;have y:=Z hF;obtain⟨n,hn⟩:=zo (s.num t);have E:n<=900000:=by have:=Lr s t;omega
 have A:=Z hn;rw[hn]at f;obtain⟨z1,z2,H⟩:=gu s t;have D:=h.base.2;clear h hF hn;go_enter func67,ntmps67;go_wp2_with fail;refine f.o.mono ?_;rintro e w1 ⟨rfl,L1,Dz,⟨r,a⟩,Kp⟩;clear f;have k:=qT.lit w1 [n] zY;have l:=Dz.alloc (.cells (Yx [n]).toArray 3);have hx:(qI ⟨op,(s.const t).pos,0,[n],[]⟩).length<=1000:=by rcases d with rfl|rfl|rfl<;>simp[qI,YK,gm,gz]
 have x:=Z (bO p L1 (s.const t) op 0 [n] [] (.slice (w1,0) 1 1) (.slice none 0 0) (w1.alloc (.cells (Yx [n]).toArray 3)) l k (qT.nil _) (λg hg q=>pj) (λg hg=>VJ) (λg hg=>by cases hg)
  (λg hg=>o5)
  ⟨by show op<12;omega,zY,zV,zY,zY,by rcases d with rfl|rfl|rfl<;>rfl⟩ ((y.o.fr Kp z.o.lo hB).fr ((Fr.refl j6 w1).alloc _) (λ_ q=>q.elim) hB) (by rw[a];exact hB) (by have:=z2;unfold MkS.sz at hs z1;omega) (by rw[H];unfold MkS.sz at hs;omega) J)
 go_wp2_with fail;refine x.o.mono ?_;rintro e w2 ⟨b,c,rfl,I,hb,hc,C,m,⟨u,i⟩,j,-,-⟩;clear x;go_wp2;refine zU (v := .tuple #[]) ?_ rfl ?_
 .simp[yk,results67,go_sem]
 refine⟨rfl,C,?_,⟨u.trans r,i.trans a⟩,(Kp.alloc _).tr j (λq hq=>?_)⟩
 .unfold MkS.one;rw[A.o];exact m
 .exact oy
variable{rs:List Int}{d:Nat}
structure xD(p:Nat)(rs:List Int)(i d:Nat)(w:z7):Prop where
 row:∃g cap,zy w p 0 (.slice (some ⟨g,0,none⟩) rs.length cap)/\rs.length<=cap/\cap<=maxLen/\g<p/\∀j (h:j<rs.length),zy w g j (.int .i32 rs[j])
 at_:zy w p 1 i
 deep:zy w p 2 d
 z1:w.frozen? (p,1)=false
 z2:w.frozen? (p,2)=false
 len:rs.length<=1000000
 here:i<=rs.length+1
 low:d<=100
 pos:∀r∈rs,0<=r
def xD.lt{i:Nat}(h:xD p rs i d w):p<(w:Nat):=Y w _ h.at_
def xD.below{i:Nat}(h:xD p rs i d w)(hb:zJ w w'):xD p rs i d w':=by
 have a:=h.lt;obtain⟨⟨g,cap,l,h1,h2,m,f⟩,n,o,q,r,s,b,c,e⟩:=h;refine⟨⟨g,cap,(hb.cell (p:=(zX p 0)) a).trans l,h1,h2,m,λj k=>?_⟩,(hb.cell (p:=(zX p 1)) a).trans n,(hb.cell (p:=(zX p 2)) a).trans o,(hb.frozen (p:=(zX p 1)) a).trans q,(hb.frozen (p:=(zX p 2)) a).trans r,s,b,c,e⟩;rw[hb.cell (Y w _ (f j k))];exact f j k
def xD.move{i:Nat}(h:xD p rs i d w)(j:Nat)(o:j<=rs.length+1):xD p rs j d (w.setCell (p,1) j):=by
 obtain⟨⟨g,cap,h0,h1,h2,f,h4⟩,l,m,h7,h8,n,c,a,b⟩:=h;refine⟨⟨g,cap,JM,h1,h2,f,λk hk=>sA⟩,by rw[zN,zl rfl,l];rfl,by rw[zN,zL zY];exact m,Sg,Sf,n,o,a,b⟩
def xD.ycf{i:Nat}(h:xD p rs i d w)(e:Nat)(he:e<=100):xD p rs i e (w.setCell (p,2) e):=by
 obtain⟨⟨g,cap,h0,h1,h2,f,h4⟩,h5,j,h7,h8,l,a,c,b⟩:=h;refine⟨⟨g,cap,JM,h1,h2,f,λk hk=>sA⟩,Ld,by rw[zN,zl rfl,j];rfl,Sg,Sf,l,a,he,b⟩
def xD.grown{i:Nat}{row:Option Nat}(h:xD p rs i d w)(b:w.grownBy w' row)(hr:∀q,row=some q->p<q):xD p rs i d w':=by
 have m:=h.lt;have hp:some p≠row:=λe=>by have:=hr p e.symm;omega
 obtain⟨⟨g,cap,n,h1,h2,o,r⟩,s,t,u,v,x,c,f,k⟩:=h;have l:some g≠row:=λe=>by have:=hr g e.symm;omega
 have hb:=b.block p m (λe=>hp (by rw[e]));exact⟨⟨g,cap,b.cell n hp,h1,h2,o,λj y=>b.cell (r j y) l⟩,b.cell s hp,b.cell t hp,(zb (a:=(zX p 1)) hb).trans u,(zb (a:=(zX p 2)) hb).trans v,x,c,f,k⟩
def zC(rs:List Int)(i:Nat):Int:=rs.getD i (-1)
def gq(p:Nat)(rs:List Int)(i d:Nat)(w:z7)(h:xD p rs i d w) :
  zE prog 58 #[(p,0)] w λe w'=>e = .returned (.int .i32 (zC rs i))/\zJ w w':=by
 obtain⟨⟨g,cap,c,h1,h2,y,k⟩,l,t,u,v,x,f,s⟩:=h;have m:=Z k;obtain⟨n,hn⟩:=zo rs.length;rw[hn]at c x f;have HN:=Z hn;have a:zy w.drew p 1 i/\zy w.drew p 0 (.slice (zX g 0) n cap):=⟨l,c⟩;clear h1 k hn t u v h2;by_cases ud:i<n
 .have hc:=m.o i gA;have HF:=Lib.hid (show zC rs i=rs[i]' gA by unfold zC;rw[List.getD_eq_getElem?_getD,List.getElem?_eq_getElem (by rw[HN.o];exact ud)];rfl);obtain⟨r,hr⟩:=zo (rs[i]'(by rw[HN.o];exact ud));rw[hr]at hc;have q:=Lib.hid hr;have b:decide ((i:Int)<(n:Int))=true:=by simp;omega
  have j:zy w.drew.drew p 1 i/\zy w.drew.drew p 0 (.slice (zX g 0) n cap)/\zy w.drew.drew g i (.int .i32 r):=⟨l,c,hc⟩;clear hr;go_enter func58,ntmps58;go_wp2_with fail;refine bW (λW':z7=>zy W' p 1 i/\zy W' p 0 (.slice (zX g 0) n cap)) [0,1,2,3,4,5,6,7,8,9] 0 a ?_;refine fR ?_ _;go_wp2_with fail;refine bW (λW':z7=>zy W' p 1 i/\zy W' p 0 (.slice (zX g 0) n cap)/\zy W' g i (.int .i32 r)) [0,1,2,3,4,5,6,7,8,9,10] 0 j ?_;refine fR ?_ _;go_wp2;go_ret;exact⟨by rw[HF.o,q.o];rfl,(z8 _ _).drew.drew⟩
 .have HF:=Lib.hid (show zC rs i = -1 by unfold zC;rw[List.getD_eq_getElem?_getD,List.getElem?_eq_none RA];rfl);have b:decide ((i:Int)<(n:Int))=false:=by simp;omega
  go_enter func58,ntmps58;go_wp2_with fail;refine bW (λW':z7=>zy W' p 1 i/\zy W' p 0 (.slice (zX g 0) n cap)) [0,1,2,3,4,5,6,7,8,9] 0 a ?_;refine fR ?_ _;go_wp2;go_ret;exact⟨uZ,(z8 _ _).drew⟩
def AU(p:Nat)(rs:List Int)(d:Nat)(r:zx)(j:Nat)(w:z7)(e:gG)(w':z7):Prop:=e = .returned r/\xD p rs j d w'/\xj p w w'
def xj.grown{a:z7}{row:Option Nat}(h:xj p a w)(b:w.grownBy w' row)(hr:∀q,row=some q->(a:Nat)<=q):xj p a w' :=
 ⟨b.os.trans h.os,b.tape.trans h.tape,b.output.trans h.output,zZ h.size b.size,λk d c=>(b.block k (ze d h.size) (λe=>by have:=hr k (by rw[e]);omega)).trans (h.block k d c)⟩
def xj.KK(h:xj p w w')(j:Nat)(u:zx):xj p w (w'.setCell (p,j) u):=h.trans (xj.set p w' j u)
def VM(p:Nat)(rs:List Int)(i d:Nat)(r:Int)(w:z7)(h:xD p rs i d w)(hr:r≠-1) :
  zE prog 131 #[(p,0),.int .i32 r] w (AU p rs d (.bool (zC rs i==r)) (if zC rs i=r then i+1 else i) w):=by
 have b:=Z (gq p rs i d w h);have g:=Z h;obtain⟨q,c⟩:=zo (zC rs i);have n:=Z c;rw[c]at b|-;by_cases a:q=r
 .subst a;have hi:i+1<=rs.length+1:=by
   have:i<rs.length:=by
    apply zi;intro hc;apply hr;rw[<-c];unfold zC;rw[zM,Xe J];rfl
   omega
  clear c h;go_enter func131,ntmps131;go_wp2_with fail;refine b.o.mono ?_;rintro e w1 ⟨rfl,hb⟩;have hs:=g.o.below hb;have f:=Z hs;have s:=hs.at_;have t:=hs.z1;have j:=hs.len;clear hs b;go_wp2;go_ret;refine⟨zY,?_,(xj.of hb).KK 1 _⟩;have:=f.o.move (i+1) hi;simpa using this
 .have k:(q !=r)=true:=by simpa using a
  have l:=Z (show(q==r)=false by simpa using a);have m:=Z (show(if q=r then i+1 else i)=i from zL a);clear c h;go_enter func131,ntmps131;go_wp2_with fail;refine b.o.mono ?_;rintro e w1 ⟨rfl,hb⟩;have f:=Z (g.o.below hb);clear b;go_wp2;go_ret;exact⟨by rw[l.o];rfl,f.o,xj.of hb⟩
def Ei(p:Nat)(w:z7):Prop:=∃x,zy w p 2 (.int .i64 x)/\w.frozen? (p,2)=false
def xD.Ev{i:Nat}(h:xD p rs i d w):Ei p w:=⟨_,h.deep,h.z2⟩
def Ei.below(h:Ei p w)(hb:zJ w w'):Ei p w':=by
 obtain⟨x,h1,h2⟩:=h;have a:p<(w:Nat):=Y w _ h1;exact⟨x,(hb.cell (p:=(p,2)) a).trans h1,(hb.frozen (p:=(p,2)) a).trans h2⟩
def Jr(p:Nat)(n:Nat)(at_:Nat)(e:gG)(w':z7):Prop:=∃b,e = .panicked [{ v := .iface 68 (.pointer (some ⟨b,0,none⟩)),recovered:=false }]/\zy w' b 0 n/\zy w' b 1 at_/\Ei p w'/\b≠p/\b<(w':Nat)
def YV(p:Nat)(n at_:Nat)(w:z7)(hd:Ei p w) :
  zE prog 59 #[(p,0),n,at_] w λe w'=>Jr p n at_ e w'/\zJ w w':=by
 go_enter func59,ntmps59;have a:=Z hd;clear hd;go_wp2;have hb:=λo=>(z8 (w:Nat) w).alloc (X _) o
 have b:p<(w:Nat):=by
  obtain⟨x,h1,_⟩:=a.o;exact Y w _ h1
 exact⟨rfl,⟨_,rfl,zg _ _ _ _ _,zg _ _ _ _ _,a.o.below (hb _),J,zY⟩,hb _⟩
def kG(r:Int)(num:Bool):Bool:=r==123 ||(r==125 ||(r==35 && num))
def jV(r:Int):Bool:=(decide (97<=r) && decide (r<=122)) ||((decide (65<=r) && decide (r<=90)) ||r==95)
def qg(r:Int):Bool:=decide (48<=r) && decide (r<=57)
def OV(r:Int)(num:Bool)(w:z7):zE prog 136 #[.int .i32 r,.bool num] w λe w'=>e = .returned (.bool (kG r num))/\w=w':=by
 go_enter func136,ntmps136;go_wp2;all_goals (go_ret;refine⟨dE ?_,rfl⟩;show UH _=UH _;congr 1;first|(simp[kG, *];done)|(rw[vF];simp[kG, *];done)|(rw[vF];simp[kG];omega)|(rw[vF];simp[kG,lI, *];done))
def Ss(r:Int)(w:z7):zE prog 162 #[.int .i32 r] w λe w'=>e = .returned (.bool (jV r))/\w=w':=by
 go_enter func162,ntmps162;go_wp2;all_goals (go_ret;refine⟨dE ?_,rfl⟩;show UH _=UH _;congr 1;first|(simp[jV, *];done)|(rw[vF];simp[jV, *];done)|(rw[vF];simp[jV];omega)|(rw[vF];simp[jV,lI, *];done))
def El(r:Int)(w:z7):zE prog 163 #[.int .i32 r] w λe w'=>e = .returned (.bool (qg r))/\w=w':=by
 go_enter func163,ntmps163;go_wp2;all_goals (go_ret;refine⟨dE ?_,rfl⟩;show UH _=UH _;congr 1;first|(simp[qg, *];done)|(rw[vF];simp[qg, *];done)|(rw[vF];simp[qg];omega)|(rw[vF];simp[qg,lI, *];done))
def ycd(p:Nat)(rs:List Int)(i d:Nat)(r:Int)(w:z7)(e:gG)(w':z7):Prop :=
 (if zC rs i=r then e = .returned (.tuple #[])/\xD p rs (i+1) d w' else Jr p 3 i e w')/\xj p w w'
def Zy(p:Nat)(rs:List Int)(i d:Nat)(r:Int)(w:z7)(h:xD p rs i d w)(hr:r≠-1) :
  zE prog 128 #[(p,0),.int .i32 r] w (ycd p rs i d r w):=by
 have f:=Z (VM p rs i d r w h hr);by_cases c:zC rs i=r
 .have a:(zC rs i==r)=true:=by simpa using c
  rw[a,zl c]at f;have j:=Z c;clear h c a;go_enter func128,ntmps128;go_wp2_with fail;refine f.o.mono ?_;rintro e w1 ⟨rfl,hs,hb⟩;have m:=Z hs;clear hs f;go_wp2;refine zU (v := .tuple #[]) ?_ rfl ⟨by rw[zl j.o];exact⟨rfl,m.o⟩,hb⟩;simp[yk,results128,go_sem]
 .have a:(zC rs i==r)=false:=by simpa using c
  rw[a,zL c]at f;have j:=Z c;clear h c a;go_enter func128,ntmps128;go_wp2_with fail;refine f.o.mono ?_;rintro e w1 ⟨rfl,hs,hb⟩;have n:=hs.at_;have g:=Z hs.Ev;clear hs f;go_wp2_with fail;refine(YV p 3 i w1 g.o).mono ?_;rintro e w2 ⟨hf,k⟩;have l:=Z hf;obtain⟨b,rfl,_,_⟩:=hf;clear n;go_wp2;exact⟨rfl,by rw[zL j.o];exact l.o,hb.below k⟩
def wI(g cap:Nat)(rs:List Int)(r:Int)(w:z7)(s:rs.length<=1000000)(hc:∀j (h:j<rs.length),zy w g j (.int .i32 rs[j])) :
  zE prog 180 #[.slice (g,0) rs.length cap,.int .i32 r] w λe w'=>(∃k:Int,e = .returned k/\decide (0<=k)=rs.contains r)/\w=w':=by
 have p:=Z hc;obtain⟨n,hn⟩:=zo rs.length;have HN:=Z hn;rw[hn]at s|-;clear hc hn;go_enter func180,ntmps180;go_wp2;go_loop [8] (λi=>∃k:Nat,k<=n/\i = .int .i64 k/\r ∉ rs.take k) (λi=>n - (intOf i).toNat)
 case atStart=>exact⟨0,zG _,rfl,zY⟩
 case round =>
  obtain⟨k,t,rfl,b⟩:=hrel;have a:=Z b;clear b;by_cases ud:k<n
  .have c:=p.o k gA;obtain⟨x,hx⟩:=zo (rs[k]' gA);rw[hx]at c;have m:=Z hx;clear hx;by_cases f:r=x
   .have l:(r==x)=true:=(by simpa using f);have HF:=Z (show r∈rs by rw[f,<-m.o];exact xd _);clear f;go_wp2;go_ret;exact⟨⟨k,rfl,by simpa using HF.o⟩,rfl⟩
   .have l:(r==x)=false:=(by simpa using f);have HF:=Z (show r ∉ rs.take (k+1) by
     rw[zr gA,xY];rintro(q|q)
     .exact a.o q
     .rw[m.o]at q;exact f (uG.1 q))
    exact S0
  .obtain rfl:k=n:=(by omega);have d:=a.o;rw[xJ Lq]at d;have HF:=Z d;clear d;go_wp2;go_ret;exact⟨⟨-1,rfl,by simpa using HF.o⟩,rfl⟩
def CP(g cap:Nat)(rs:List Int)(r:Int)(w:z7)(d:rs.length<=1000000)(hc:∀j (h:j<rs.length),zy w g j (.int .i32 rs[j])) :
  zE prog 159 #[.slice (g,0) rs.length cap,.int .i32 r] w λe w'=>e = .returned (.bool (rs.contains r))/\w=w':=by
 have a:=Z (wI g cap rs r w d hc);clear hc;go_enter func159,ntmps159;go_wp2_with fail;refine a.o.mono ?_;rintro e w' ⟨⟨k,rfl,b⟩,rfl⟩;have c:=Z b;clear b a;go_wp2;go_ret;exact⟨by rw[<-c.o];rfl,rfl⟩
def bX(r:Int):Bool:=[32,9,10,13].contains r
def yK(rs:List Int)(i:Nat):Nat:=i+((rs.drop i).takeWhile bX).length
def wL{i:Nat}(h:bX (zC rs i)=true):i<rs.length/\yK rs i=yK rs (i+1):=by
 have ud:i<rs.length:=by
  apply zi;intro hc;unfold zC at h;rw[zM,Xe J]at h;revert h
  decide
 refine⟨ud,?_⟩;have hn:zC rs i=rs[i]:=by unfold zC;rw[zM,zw ud];rfl
 rw[hn]at h;unfold yK;rw[yH ud,Un h];simp;omega
def zd3{i:Nat}(h:bX (zC rs i)=false):yK rs i=i:=by
 unfold yK;by_cases a:i<rs.length
 .have hn:zC rs i=rs[i]:=by unfold zC;rw[zM,zw a];rfl
  rw[hn]at h;rw[yH a,kR Uw];rfl
 .rw[yq J];rfl
def St(p:Nat)(w:z7):Nat:=match w.cell? (p,1) with|some v=>(intOf v).toNat|none=>0
def qc{i:Nat}(h:xD p rs i d w):St p w=i:=by
 unfold St;rw[h.at_];simp[intOf]
def jP(p:Nat)(rs:List Int)(i d:Nat)(w:z7)(h:xD p rs i d w) :
  zE prog 129 #[(p,0)] w (AU p rs d (.tuple #[]) (yK rs i) w):=by
 have E:=Z h;obtain⟨R,hR⟩:=zo (yK rs i);rw[hR];have F:=Z hR;clear h hR;go_enter func129,ntmps129;go_wp2_with fail;go_loopw [] (λwr=>∃j,xD p rs j d wr/\xj p w wr/\yK rs j=R) (λwr=>rs.length - St p wr)
 case atStart=>exact⟨i,E.o,xj.refl _ _,F.o⟩
 case round =>
  obtain⟨j,hs,m,x⟩:=hrel;have z:=Z hs;have t:=Z x;clear hs x;go_wp2_with fail;refine yh ?_;intro W hW;have hb:zJ wr W:=UM;have hc:∀k (h:k<4),zy W (wr:Nat) k (.int .i32 ([32,9,10,13][k]'h)):=by
   rw[hW];intro k B;rw[zg];match k,B with
   | 0,_=>rfl
   | 1,_=>rfl
   | 2,_=>rfl
   | 3,_=>rfl
  clear hW;refine(gq p rs j d W (z.o.below hb)).mono ?_;rintro e w1 ⟨rfl,n⟩;have g:=hb.trans (n.mono hb.size);have I:(wr:Nat)<(W:Nat):=Y W _ (hc 0 zj);have u:∀k (h:k<4),zy w1 (wr:Nat) k (.int .i32 ([32,9,10,13][k]'h)):=λk B=>(n.cell (p:=⟨(wr:Nat),k,none⟩) I).trans (hc k B)
  have a:=CP (wr:Nat) 4 [32,9,10,13] (zC rs j) w1 zj u;rw[show[32,9,10,13].contains (zC rs j)=bX (zC rs j)from rfl]at a;have f:=Z a;have c:=z.o.below g;have s:=Z c;have K:=c.at_;have L:=c.z1;have D:=c.len;have A:=c.here;obtain⟨G,q⟩:∃b,bX (zC rs j)=b:=⟨_,rfl⟩;rw[q]at f;have r:=Z q;clear hc u a hb n c q;go_wp2_with fail;refine f.o.mono ?_;rintro e w' ⟨rfl,rfl⟩;cases G
  .have y:=Z (show j=R by rw[<-t.o];exact(zd3 r.o).symm);go_wp2;go_end0
   exact⟨rfl,by rw[<-y.o];exact s.o,m.below g⟩
  .obtain⟨H,l⟩:=wL r.o;have y:=Z (show yK rs (j+1)=R by rw[<-t.o,l]);have v:=s.o.move (j+1) J;have C:=Z (show xD p rs (j+1) d (w1.setCell (zX p 1) (.int .i64 ((j:Int)+1)))by simpa using v);clear l v;go_wp2;go_roundw
   case rel=>exact⟨j+1,C.o,(m.below g).KK 1 _,y.o⟩
   case measure=>rw[qc C.o,qc z.o];omega
def VN(l:List Int):runesBytes l=⟨(l.flatMap enc).toArray⟩:=by
 unfold runesBytes;have h:∀(l:List Int) (a:List UInt8),l.foldl (λr n=>r++F9 n) (⟨a.toArray⟩:ByteArray)=⟨(a++l.flatMap enc).toArray⟩:=by
  intro l;induction l with
  |nil=>intro a;simp
  |cons c t b =>
   intro a;rw[QA,append_eq,toList_mk];rw[show(F9 c).data.toList=enc c from rfl,b];simp
 have:=h l [];rw[kr]at this;exact this
def wM(p:Nat)(rs:List Int)(i d:Nat)(w:z7)(v:zx)(F:Int->Nat->Bool):Prop :=
 ∃k cap,v = .func (.func k) #[] cap/\(∀args w,(callFunc k args).run prog w = .ok (.enter k args) w) /\
  ∀W,xj p w W->∀n,(n=0\/i+n<=rs.length)->n<=1000000->xD p rs (i+n) d W->zE prog k (#[.int .i32 (zC rs (i+n)),.int .i64 (n:Nat)]++cap) W λe W'=>e = .returned (.bool (F (zC rs (i+n)) n))/\zJ W W'
def fM(F:Int->Nat->Bool)(rs:List Int)(i:Nat):Nat->Nat->Nat
 | 0,n=>n
 |f+1,n=>if F (zC rs (i+n)) n=true then fM F rs i f (n+1)else n
def runN(F:Int->Nat->Bool)(rs:List Int)(i:Nat):Nat:=fM F rs i (rs.length+1) 0
def uy(rs:List Int)(i n:Nat):Wd:=((rs.drop i).take n).flatMap enc
def yz6(p:Nat)(rs:List Int)(i d n:Nat)(w:z7)(e:gG)(w':z7):Prop :=
 (if n=0 then Jr p 3 i e w' else e = .returned (zv (uy rs i n))/\xD p rs (i+n) d w')/\xj p w w'
def jD{i:Nat}(h:rs.length<=i):zC rs i = -1:=oI
def wN{F:Int->Nat->Bool}{i R f:Nat}(h:fM F rs i (f+1) n=R):(F (zC rs (i+n)) n=true->fM F rs i f (n+1)=R)/\(F (zC rs (i+n)) n=false->n=R):=by
 rw[fM]at h;constructor
 .intro q;rw[zl q]at h;exact h
 .intro q;rw[zL (by rw[q];simp)]at h;exact h
def AQ(p:Nat)(rs:List Int)(i d:Nat)(w:z7)(v:zx)(F:Int->Nat->Bool)(h:xD p rs i d w)(hf:wM p rs i d w v F)(D:∀n,F (-1) n=false) :
  zE prog 160 #[(p,0),v] w (yz6 p rs i d (runN F rs i) w):=by
 obtain⟨kf,cf,rfl,tX,m⟩:=hf;have HH:=Z h;have t:=Z m;obtain⟨R,hR⟩:=zo (runN F rs i);rw[hR];have HR:=Z hR;have hi0:=h.at_;have xo6:=h.here;have MN:=h.len;clear h m hR;go_enter func160,ntmps160;go_wp2_with fail;clear hi0;go_loopw [] (λwr=>∃n,n<=rs.length/\(n=0\/i+n<=rs.length)/\xD p rs (i+n) d wr/\xj p w wr/\fM F rs i (rs.length+1 - n) n=R) (λwr=>rs.length+1 - St p wr)
 case atStart=>exact⟨0,zG _,.inl rfl,HH.o,xj.refl _ _,HR.o⟩
 case round =>
  obtain⟨n,hn,q,hs,c,G⟩:=hrel;have S:=Z hs;have M:=wN (F:=F) (rs:=rs) (i:=i) (n:=n) (R:=R) (f:=rs.length - n) (by rw[show rs.length - n+1=rs.length+1 - n by omega];exact G);have x:=Z M;have h5:=hs.at_;have A:zy wr.drew p 1 ((i+n:Nat):Int):=h5;have hd1:((i+n:Nat):Int) - (i:Int)=(n:Int):=J;have Yt:yU.wrap ((i:Int)+(n:Int) - (i:Int))=(n:Int):=by rw[show(i:Int)+(n:Int) - (i:Int)=(n:Int)by omega];simp[IntKind.wrap,IntKind.signed,IntKind.bits];omega
  clear hs G M;go_wp2_with fail;refine bW (λW':z7=>zy W' p 1 ((i+n:Nat):Int)) [0,1,3,4,5,6,7,8] 2 A ?_;refine bF 2 (λK hK=>?_);go_simp;refine(gq p rs (i+n) d wr.drew (S.o.below (z8 _ _).drew)).mono ?_;rintro e w1 ⟨rfl,W⟩;have a:zJ wr w1:=(z8 _ wr).drew.trans W;have u:=Z (S.o.below a);have B:zy w1 p 1 ((i+n:Nat):Int):=u.o.at_;refine hK.out _ _ B λ_=>?_;clear hK K;refine bF 9 (λK hK=>?_);go_simp;refine(t.o w1 (c.below a) n q J u.o).mono ?_;rintro e w2 ⟨rfl,y⟩;have l:=a.trans (y.mono a.size);have s:=u.o.below y;have r:=Z s;have C:zy w2 p 1 ((i+n:Nat):Int):=s.at_;have h7:=s.z1;refine hK.out _ _ C λ_=>?_;clear hK K;refine fR ?_ _;obtain⟨b,hb⟩:=zo (F (zC rs (i+n)) n);rw[hb];rw[hb]at x;have HB:=Z hb;clear s hb A B h5 hd1 Yt
  cases b
  .have N:=Z (show n=R from x.o.2 rfl);by_cases z:n=0
   .subst z;have hq:(((i+0:Nat):Int)==(i:Int))=true:=(by simp);go_wp2_with fail;refine(YV p 3 i w2 r.o.Ev).mono ?_;rintro e w3 ⟨E,kL⟩;have O:=Z E;obtain⟨bf,rfl,_,_⟩:=E;go_wp2;exact⟨rfl,by rw[<-N.o,zl rfl];exact O.o,(c.below l).below kL⟩
   .have hq:(((i+n:Nat):Int)==(i:Int))=false:=(by simp;omega);obtain⟨⟨g,cap,c0,hlc,hcm,hgp,k⟩,c1,_,_,_,_,_,_⟩:=r.o;have EJ:i+n<=rs.length:=q.resolve_left z;obtain⟨L,T⟩:=zo rs.length;have Q:=Z T;rw[T]at c0 hlc EJ;have V:zy w2.drew p 1 ((i+n:Nat):Int)/\zy w2.drew p 0 (.slice (zX g 0) L cap)/\∀j (h:j<rs.length),zy w2.drew g j (.int .i32 rs[j]):=⟨c1,c0,k⟩;have k1:i<=i+n:=J;have k2:i+n<=cap:=J;have k3:i<=cap:=J;have k4:(i:Int)<=(i:Int)+(n:Int):=J;have k5:(i:Int)+(n:Int)<=(cap:Int):=J;have k6:((i:Int)+(n:Int)).toNat=i+n:=J;have k7:(0:Int)<=(i:Int)+(n:Int):=J;have k8:i+n - i=n:=J;have k9:(i:Int)+(n:Int) - (i:Int)=(n:Int):=J;clear T k c0 c1 C y;go_wp2_with fail;refine rt (λW':z7=>zy W' p 1 ((i+n:Nat):Int)/\zy W' p 0 (.slice (zX g 0) L cap)/\∀j (h:j<rs.length),zy W' g j (.int .i32 rs[j])) [0,1,2,3,4,5,6,7,8,9,10,11] 0 V ?_;(iterate 10 ((first|refine ty ?_|refine tn ?_);try simp only[pl]))
    refine jN (v:=zv (uy rs i n)) rfl xK ?_ ?_
    .intro w' U;have hcv:=ygb (P:=prog) w' 96 9 21 ⟨g,i,none⟩ n (cap - i) ((rs.drop i).take n) (by simp;have:=Q.o;omega) underlying96 underlying21 underlying9 (λj hj=>by
      have H:i+j<rs.length:=Jb;have e:(⟨g,i,none⟩:yi).add j=⟨g,i+j,none⟩:=by
       unfold xM;split
       .next h=>subst h;rfl
       .rfl
      rw[e,U.2.2 (i+j) H];have hjn:j<n:=Jb;simp[zM,List.getElem?_take,MM,hjn,H])
     rw[xJ zV,VN]at hcv;go_simp;rw[zL (show ¬cap=i by omega),hcv];rfl
    (try simp only[ZP,yb,xu,xq])
    (iterate 1 ((first|refine ty ?_|refine tn ?_);try simp only[pl]))
    refine yA ?_;refine fR ?_ _;go_wp2;go_ret;exact⟨by rw[zL (by rw[<-N.o];exact z)];exact⟨by rw[<-N.o];rfl,by rw[<-N.o];exact r.o.below (z8 _ _).drew⟩,(c.below l).drew⟩
  .have ud:i+n<rs.length:=by
    apply zi;intro hc;have:=HB.o;rw[jD J,D]at this;cases this
   have HG:=Z (x.o.1 rfl);have I:=r.o.move (i+(n+1)) J;have HM:=Z (show xD p rs (i+(n+1)) d (w2.setCell (zX p 1) (.int .i64 ((i:Int)+(n:Int)+1)))by rw[show(i:Int)+(n:Int)+1=((i+(n+1):Nat):Int)by omega];exact I);clear I;go_wp2;go_roundw
   case rel=>exact⟨n+1,J,.inr J,HM.o,(c.below l).KK 1 _,by rw[show rs.length+1 - (n+1)=rs.length - n by omega];exact HG.o⟩
   case measure=>rw[qc HM.o,qc S.o];omega
def jY(r:Int)(n:Nat):Bool:=decide (n<16) && (jV r ||(decide (0<n) && qg r))
def eK(r:Int)(n:Nat)(w:z7)(hn:n<=1000000):zE prog 161 #[.int .i32 r,(n:Nat)] w λe w'=>e = .returned (.bool (jY r n))/\w=w':=by
 obtain⟨l,c⟩:∃b,jV r=b:=⟨_,rfl⟩;obtain⟨dg,l7⟩:∃b,qg r=b:=⟨_,rfl⟩;have f:=Z (c▸Ss r w);have d:=Z (l7▸El r w);have a:=Z (show jY r n=(decide (n<16) && (l ||(decide (0<n) && dg)))by unfold jY;rw[c,l7]);clear c l7;by_cases h1:n<16
 .have g1:decide (n<16)=true:=decide_eq_true h1;go_enter func161,ntmps161;go_wp2_with fail;refine f.o.mono ?_;rintro e w' ⟨rfl,rfl⟩;cases l
  .by_cases h2:0<n
   .have g2:decide (0<n)=true:=decide_eq_true h2;go_wp2_with fail;refine d.o.mono ?_;rintro e w' ⟨rfl,rfl⟩;go_wp2;go_ret;exact⟨by rw[a.o,g1,g2];simp,rfl⟩
   .have g2:decide (0<n)=false:=decide_eq_false h2;go_wp2;go_ret;exact⟨by rw[a.o,g1,g2];simp,rfl⟩
  .go_wp2;go_ret;exact⟨by rw[a.o,g1];simp,rfl⟩
 .have g1:decide (n<16)=false:=decide_eq_false h1;go_enter func161,ntmps161;go_wp2;go_ret;exact⟨by rw[a.o,g1];simp,rfl⟩
def vg(rs:List Int)(i:Nat):Nat:=runN jY rs i
def KJ(p:Nat)(rs:List Int)(i d:Nat)(w:z7)(h:xD p rs i d w) :
  zE prog 130 #[(p,0)] w (yz6 p rs i d (vg rs i) w):=by
 have hf:wM p rs i d w (.func (.func 161) #[] #[]) jY :=
  ⟨_,_,rfl,λargs w=>xK,λW _ n _ hn _=>(eK (zC rs (i+n)) n W hn).mono λe w' q=>⟨q.1,q.2▸z8 _ _⟩⟩
 have g:=Z (AQ p rs i d w _ jY h hf (λn=>by unfold jY;simp[jV,qg]));rw[show runN jY rs i=vg rs i from rfl]at g;obtain⟨n,hn⟩:=zo (vg rs i);rw[hn]at g|-;clear h hf hn;go_enter func130,ntmps130;go_wp2_with fail;refine g.o.mono ?_;rintro e w1 ⟨c,hb⟩;by_cases a:n=0
 .rw[zl a]at c;have j:=Z c;obtain⟨b,rfl,_,_⟩:=c;have f:=Z a;clear a;go_wp2;exact⟨rfl,by rw[zl f.o];exact j.o,hb⟩
 .rw[zL a]at c;obtain⟨rfl,hs⟩:=c;have f:=Z a;clear a;go_wp2;go_ret;exact⟨by rw[zL f.o];exact⟨rfl,hs⟩,hb⟩
def ky(r0:Int)(r:Int)(n:Nat):Bool:=(decide (n<9) && qg r) && (decide (n=0) ||r0 !=48)
def Sh(p bt k:Nat)(rs:List Int)(i n d:Nat)(w:z7)(hs:xD p rs (i+n) d w)(hn:n<=1000000)(hi:n=0\/i+n<=rs.length)(C:zy w bt 0 (p,0))(hf:zy w k 0 i)(r:Int) :
  zE prog 165 #[.int .i32 r,n,(bt,0),(k,0)] w λe w'=>e = .returned (.bool (ky (zC rs i) r n))/\zJ w w':=by
 obtain⟨dg,l7⟩:∃b,qg r=b:=⟨_,rfl⟩;have HD:=Z (λW=>l7▸El r W);obtain⟨j,f⟩:∃q,zC rs i=q:=⟨_,rfl⟩;rw[f];have HF:=Z (show ky j r n=((decide (n<9) && dg) && (decide (n=0) ||j !=48))by unfold ky;rw[l7]);obtain⟨⟨g,cap,c0,v,z,A,a⟩,c1,_,_,_,_,_,_⟩:=hs;obtain⟨L,m⟩:=zo rs.length;rw[m]at c0 v hi;have x:=Z (show i<L->zy w g i (.int .i32 j)from λh=>by
  rw[a i (by rw[m];exact h),<-f];unfold zC;rw[zM,zw (by rw[m];exact h)];rfl)
 clear l7 f a m;by_cases h1:n<9
 .have g1:decide (n<9)=true:=decide_eq_true h1;have s:decide ((n:Int)<9)=true:=by simp;omega
  cases dg
  .exact sH
  .by_cases l:n=0
   .subst l;exact sH
   .have g2:decide (n=0)=false:=decide_eq_false l;have D:(n==0)=false:=(by simpa using l);have y:((n:Int)==0)=false:=zV;have B:=hi.resolve_left l;have u:i<L:=J;have t:=x.o u;have c:zy w.drew bt 0 (zX p 0)/\zy w.drew k 0 i/\zy w.drew p 0 (.slice (zX g 0) L cap)/\zy w.drew g i (.int .i32 j):=⟨C,hf,c0,t⟩;go_enter func165,ntmps165;go_wp2_with fail;refine bW (λW':z7=>zy W' bt 0 (zX p 0)/\zy W' k 0 i/\zy W' p 0 (.slice (zX g 0) L cap)/\zy W' g i (.int .i32 j)) [0,1,2,3] 17 c ?_;refine bF 4 (λK hK=>?_);go_simp;refine(HD.o _).mono ?_;rintro e w' ⟨rfl,rfl⟩;refine hK.out _ _ c λ_=>?_;clear hK K;refine Xo [5,6,7,8,9,10,11,12,13,14,15,16,17,18,19,20] 0 c ?_;refine fR ?_ _;go_wp2;go_ret;exact⟨by rw[HF.o,g1,g2];simp,(z8 _ _).drew⟩
 .have g1:decide (n<9)=false:=decide_eq_false h1;have s:decide ((n:Int)<9)=false:=by simp;omega
  go_enter func165,ntmps165;go_wp2_with fail;refine xb (λW':z7=>True) [0,1,2,3] 17 fy yy yy (show True from trivial) ?_;(iterate 4 ((first|refine ty ?_|refine tn ?_);try simp only[pl]))
  refine yA ?_;refine bF 4 (λK hK=>?_);rw[zL (by exact lM)];exact ziv
def vL(rs:List Int)(i:Nat):Nat:=runN (ky (zC rs i)) rs i
def Em(p:Nat)(rs:List Int)(i d:Nat)(w:z7)(h:xD p rs i d w) :
  zE prog 134 #[(p,0)] w (yz6 p rs i d (vL rs i) w):=by
 have m:=Z h;have t:=h.lt;have s:=h.at_;obtain⟨n,hn⟩:=zo (vL rs i);rw[hn];have q:=Z hn;clear h hn;go_enter func134,ntmps134;go_wp2_with fail;refine yh ?_;intro W hW;have hb:zJ w W:=Ie;have u:zy W (w:Nat) 0 (zX p 0):=by rw[hW];go_simp
 have hf:zy W ((w:Nat)+1) 0 i:=by rw[hW];go_simp
 clear hW s;have j:wM p rs i d W (.func (.func 165) #[] #[(w,0),((w:Nat)+1,0)]) (ky (zC rs i)) :=
  ⟨_,_,rfl,λargs w=>xK,λW' c n hi hn hs=>Sh p w.heap.size (w.heap.size+1) rs i n d W' hs hn hi (c.cell u (by show w.heap.size≠p;omega)) (c.cell hf (by show w.heap.size+1≠p;omega)) (zC rs (i+n))⟩
 refine(AQ p rs i d W _ (ky (zC rs i)) (m.o.below hb) j (λn=>by unfold ky;simp[qg])).mono ?_;rintro e w1 ⟨g,l⟩;rw[show runN (ky (zC rs i)) rs i=n from q.o]at g;have a:=(xj.of (p:=p) hb).trans l;by_cases f:n=0
 .rw[zl f]at g;have r:=Z g;obtain⟨b,rfl,_,_⟩:=g;have k:=Z f;clear f;go_wp2;exact⟨rfl,by rw[zl k.o];exact r.o,a⟩
 .rw[zL f]at g;obtain⟨rfl,hs⟩:=g;have k:=Z f;clear f;go_wp2;go_ret;exact⟨by rw[zL k.o];exact⟨rfl,hs⟩,a⟩
def Sw(g1 s c1 g2 c2:Nat)(a c:List Int)(w:z7)(E:a.length<=1000000)(u:c.length<=1000000)(h1:∀j (h:j<a.length),zy w g1 (s+j) (.int .i32 a[j]))(h2:∀j (h:j<c.length),zy w g2 j (.int .i32 c[j])) :
  zE prog 164 #[.slice (g1,s) a.length c1,.slice (g2,0) c.length c2] w λe w'=>e = .returned (.bool (decide (a=c)))/\zJ w w':=by
 have C:=Z h1;have D:=Z h2;clear h1 h2;obtain⟨n,hn⟩:=zo a.length;obtain⟨m,hm⟩:=zo c.length;have HN:=Z hn;have l:=Z hm;rw[hn]at E|-;rw[hm]at u|-;obtain⟨R,hR⟩:∃b,decide (a=c)=b:=⟨_,rfl⟩;rw[hR];have t:=Z hR;clear hn hm hR;by_cases B:n=m
 .subst B;go_enter func164,ntmps164;go_wp2;go_loopw [13] (λi wr=>∃k:Nat,k<=n/\i = .int .i64 k/\a.take k=c.take k/\zJ w wr) (λi _=>n - (intOf i).toNat)
  case atStart=>exact⟨0,zG _,rfl,rfl,z8 _ _⟩
  case round =>
   obtain⟨k,G,rfl,q,hb⟩:=hrel;have v:=Z q;clear q;by_cases ud:k<n
   .have d:=C.o k gA;have f:=D.o k (by rw[l.o];exact ud);obtain⟨x,hx⟩:=zo (a[k]' gA);obtain⟨y,hy⟩:=zo (c[k]'(by rw[l.o];exact ud));rw[hx]at d;rw[hy]at f;have z:=Z hx;have A:=Z hy;have d1:=(hb.cell (Y _ _ d)).trans d;have d2:=(hb.cell (Y _ _ f)).trans f;have p:zy wr.drew g1 (s+k) (.int .i32 x)/\zy wr.drew g2 k (.int .i32 y):=⟨d1,d2⟩;clear hx hy d f d1 d2;by_cases g:x=y
    .have r:(x !=y)=false:=(by simpa using g);have HF:=Z (show a.take (k+1)=c.take (k+1) by
      rw[zr gA,zr (by rw[l.o];exact ud),v.o,z.o,A.o,g])
     go_wp2_with fail;refine bW (λW':z7=>zy W' g1 (s+k) (.int .i32 x)/\zy W' g2 k (.int .i32 y)) [0,1,2,3,4,5,6,7,8] 0 p ?_;refine fR ?_ _;go_wp2;go_roundw
     case rel=>exact⟨k+1,J,xi,HF.o,hb.drew⟩
     case measure=>simp[intOf];omega
    .have r:(x !=y)=true:=(by simpa using g);have HF:=Z (show R=false by
      rw[<-t.o,decide_eq_false_iff_not];intro e;subst e;exact g (z.o.symm.trans A.o))
     go_wp2_with fail;refine bW (λW':z7=>zy W' g1 (s+k) (.int .i32 x)/\zy W' g2 k (.int .i32 y)) [0,1,2,3,4,5,6,7,8] 0 p ?_;refine fR ?_ _;go_wp2;go_ret;exact⟨uZ,hb.drew⟩
   .obtain rfl:k=n:=(by omega);have HF:=Z (show R=true by
     rw[<-t.o,qP];have h:=v.o;rw[xJ Lq,xJ (by rw[l.o];exact X _)]at h;exact h)
    go_wp2;go_ret;exact⟨uZ,hb⟩
 .have HF:=Z (show R=false by
   rw[<-t.o,decide_eq_false_iff_not];intro e;subst e;exact B (HN.o.symm.trans l.o))
  have F:((n:Int) !=(m:Int))=true:=zV;go_enter func164,ntmps164;go_wp2;go_ret;exact⟨uZ,z8 _ _⟩
def Bf:List Int:=[111,102,102,115,101,116,58]
def KG(rs:List Int)(i:Nat):Bool:=decide ((rs.drop i).take 7=Bf)
def En:C0 (⟨#[111,102,102,115,101,116,58]⟩:ByteArray) 7 0 #[]=(Bf.map (yF .i32)).toArray:=yy
def OU(p:Nat)(rs:List Int)(i d:Nat)(w:z7)(h:xD p rs i d w) :
  zE prog 133 #[(p,0),.string ⟨#[111,102,102,115,101,116,58]⟩] w (AU p rs d (.bool (KG rs i)) (if KG rs i=true then i+7 else i) w):=by
 have U:=Z h;have hcv:=λW=>run_runes_of_string (P:=prog) W 9 96 21 ⟨#[111,102,102,115,101,116,58]⟩ underlying9 underlying96 underlying21 (by rw[show(⟨#[111,102,102,115,101,116,58]⟩:ByteArray).size=7 from rfl,En];decide)
 have F:∃M W,(convert 9 96 (.string ⟨#[111,102,102,115,101,116,58]⟩)).run prog w = .ok (.slice (w,0) 7 M) W/\zJ w W/\∀j (h:j<Bf.length),zy W (w:Nat) j (.int .i32 Bf[j]):=by
  refine⟨_,_,hcv w,(z8 _ _).drew.alloc (X _) _,λj hj=>?_⟩;rw[show (w:Nat)=w.drew.heap.size from rfl,zg];rw[show(⟨#[111,102,102,115,101,116,58]⟩:ByteArray).size=7 from rfl,En];rw[Array.getElem?_append_left D9];simp
 obtain⟨M,W,A,b,c⟩:=F;obtain⟨⟨g,cap,c0,S,hcm,hgp,r⟩,c1,_,_,_,y,q,_⟩:=h;have f:=Y w _ c1;have H:=Z (λj (hj:j<rs.length)=>(b.cell (Y _ _ (r j hj))).trans (r j hj));have t:=Z c;obtain⟨L,Q⟩:=zo rs.length;rw[Q]at c0 S y q;have C:=Z Q;have m:zy W.drew p 1 i/\zy W.drew p 0 (.slice (zX g 0) L cap):=⟨(b.cell (p:=(zX p 1)) f).trans c1,(b.cell (p:=(zX p 0)) f).trans c0⟩;obtain⟨B,hB⟩:=zo (KG rs i);rw[hB];have T:=Z hB;obtain⟨I,O⟩:=zo ((if B=true then i+7 else i));rw[O];have E:=Z O;clear O;obtain⟨N,V⟩:=zo (w:Nat);rw[V]at A t;clear hcv c r Q hB;have hw1:yU.wrap ((L:Int) - (i:Int))=(L:Int) - (i:Int):=qK;by_cases hsh:L<i+7
 .have g1:decide ((L:Int) - (i:Int)<7)=true:=by simp;omega
  have HF:=Z (show B=false by
   rw[<-T.o];unfold KG;rw[decide_eq_false_iff_not];intro e;have e2:=congrArg qj e;rw[xr,xz,C.o]at e2;have e3:Bf.length=7:=rfl;omega)
  go_enter func133,ntmps133;go_wp2_with fail;refine bW (λW':z7=>zy W' p 1 i/\zy W' p 0 (.slice (zX g 0) L cap)) [0,1,2,3,4,5,6,7,8,9,10,11,12,13,14,15,16,17,18,19,20,21,22,23,24,25,26,27,28,29,30] 3 m ?_;refine bF 31 (λK hK=>?_);rw[zL (by exact lM)];refine hK.out _ _ m λ_=>?_;clear hK K;refine Xo [32,33] 0 m ?_;refine fR ?_ _;go_wp2;go_ret;have k:I=i:=by rw[<-E.o,HF.o];rfl
  exact⟨uZ,by rw[k];exact U.o.below b.drew,xj.of b.drew⟩
 .have g1:decide ((L:Int) - (i:Int)<7)=false:=by simp;omega
  have g2:yU.wrap ((i:Int)+7)=(i:Int)+7:=qK;have k1:i<=i+7:=J;have k2:i+7<=cap:=J;have k3:i<=cap:=J;have k4:(i:Int)<=(i:Int)+7:=J;have k5:(i:Int)+7<=(cap:Int):=J;have k6:((i:Int)+7).toNat=i+7:=J;have k7:(0:Int)<=(i:Int)+7:=J;have k8:i+7 - i=7:=J;have k9:(i:Int)+7 - (i:Int)=7:=J;have k10:¬cap=i:=J;have l:((rs.drop i).take 7).length=7:=by rw[xr,xz,C.o];omega
  have n:=Sw g i (cap - i) N M ((rs.drop i).take 7) Bf W.drew (by rw[l];decide) zj (λj hj=>by
   have R:i+j<rs.length:=(by rw[C.o];rw[l]at hj;omega);have hj3:j<7:=(by rw[l]at hj;exact hj);refine(H.o (i+j) R).trans ?_;simp[ypu,List.getElem_drop]) t.o
  rw[l,show Bf.length=7 from rfl,show decide ((rs.drop i).take 7=Bf)=B from T.o]at n;have D:=Z n;clear l n;go_enter func133,ntmps133;go_wp2_with fail;refine bW (λW':z7=>zy W' p 1 i/\zy W' p 0 (.slice (zX g 0) L cap)) [0,1,2,3,4,5,6,7,8,9,10,11,12,13,14,15,16,17,18,19,20,21,22,23,24,25,26,27,28,29,30] 3 m ?_;refine bF 31 (λK hK=>?_);go_simp;refine D.o.mono ?_;rintro e w2 ⟨rfl,x⟩;have hW2:(W:Nat)<=(w2:Nat):=x.size;have a:zJ w w2:=(b.drew).trans (x.mono b.size);have s:=U.o.below a;have u:=Z s;have v:zy w2 p 1 i/\zy w2 p 0 (.slice (zX g 0) L cap):=⟨(a.cell (p:=(zX p 1)) f).trans c1,(a.cell (p:=(zX p 0)) f).trans c0⟩;have h7:=s.z1;refine hK.out _ _ v λ_=>?_;clear hK K s;refine Xo [32,33] 0 v ?_;refine fR ?_ _
  cases B
  .go_wp2;go_ret;have k:I=i:=(by rw[<-E.o];rfl);exact⟨rfl,by rw[k];exact u.o,xj.of a⟩
  .have z:=u.o.move (i+7) (by rw[C.o];omega);have G:=Z z;clear z;go_wp2;go_ret;have k:I=i+7:=(by rw[<-E.o];rfl);exact⟨rfl,by rw[k];simpa using G.o,(xj.of a).KK 1 _⟩
def CR(x:Wd):Lib.containsS (XW.take 6) ⟨x.toArray⟩=decide (x∈fg):=by
 have e:XW.take 6=fg.map (λl=>(⟨l.toArray⟩:ByteArray)):=rfl;rw[e,vF,qP,Lib.containsS_iff,yk5];constructor
 .rintro⟨y,hy,h2⟩;have a:=congrArg (λb:ByteArray=>b.data.toList) h2;simp at a;rw[<-a];exact hy
 .intro h;exact⟨x,h,rfl⟩
def Lt(x:Wd)(w:z7)(h:kb w):zE prog 166 #[zv x] w λe w'=>e = .returned (.bool (decide (x∈fg)))/\w=w':=by
 have a:=Z (Tryz.slices_Contains_string 1 0 6 6 XW ⟨x.toArray⟩ w zj zj (λj b=>by rw[V9];exact h j b));rw[CR]at a;go_enter func166,ntmps166;go_wp2_with fail;refine a.o.mono ?_;rintro e w' ⟨rfl,rfl⟩;go_wp2;go_ret;exact⟨rfl,rfl⟩
def yV:List Int->List Int×Nat
 |[]=>([],0)
 |c::t=>if c=39 then
   match t with
   |[]=>([],1)
   |d::u=>if d=39 then (39::(yV u).1,(yV u).2+2)else ([],1)
  else (c::(yV t).1,(yV t).2+1)
def uU(rs:List Int)(num:Bool)(i:Nat):Wd×Nat :=
 if zC rs i≠39 then (enc (zC rs i),i+1)
 else if zC rs (i+1)=39 then (enc 39,i+2)
 else if kG (zC rs (i+1)) num=false then (enc 39,i+1)
 else ((yV (rs.drop (i+1))).1.flatMap enc,i+1+(yV (rs.drop (i+1))).2)
def Bd:bH prog 96 21 (.int .i32 0) 1 4 :=
 ⟨underlying96,info_parts yy,rfl,zj,zj⟩
def eJ(h:rs.length<=j):yV (rs.drop j)=([],0):=by rw[yq h,yV]
def ZX(h:j<rs.length):rs.drop j=zC rs j::rs.drop (j+1):=by
 rw[yH h];exact Wo
def T4(h:j<rs.length)(a:zC rs j≠39):yV (rs.drop j)=(zC rs j::(yV (rs.drop (j+1))).1,(yV (rs.drop (j+1))).2+1):=by
 rw[ZX h,yV.eq_def];dsimp only;rw[zL a]
def eG(h:j<rs.length)(b:zC rs j=39)(h2:zC rs (j+1)=39):yV (rs.drop j)=(39::(yV (rs.drop (j+2))).1,(yV (rs.drop (j+2))).2+2):=by
 have a:j+1<rs.length:=rF;rw[ZX h,ZX a,yV.eq_def];dsimp only;rw[zl b,zl h2]
def T5(h:j<rs.length)(b:zC rs j=39)(h2:zC rs (j+1)≠39):yV (rs.drop j)=([],1):=by
 rw[ZX h,yV.eq_def];dsimp only;rw[zl b];by_cases a:j+1<rs.length
 .rw[ZX a];dsimp only;rw[zL h2]
 .rw[yq J]
def KF{base size:Nat}(h:w.ownsRow base e size v n xs)(hb:xj p w w')(hp:p<base):w'.ownsRow base e size v n xs :=
 h.kept (row:=some p) ⟨hb.os,hb.tape,hb.output,hb.size,λi hi hn=>hb.block i hi (λe=>hn (by rw[e]))⟩ (nD)
def eF:∀(n:Nat) (l:List Int),l.length<=n->(yV l).2<=l.length/\(yV l).1.length<=l.length:=r8
def OQ{num:Bool}{i:Nat}(h:i<rs.length):i<(uU rs num i).2/\(uU rs num i).2<=rs.length:=by
 unfold uU;split
 .exact⟨by show i<i+1;omega,by show i+1<=_;omega⟩
 split
 .next h2 =>
  have:i+1<rs.length:=rF;exact⟨by show i<i+2;omega,by show i+2<=_;omega⟩
 split
 .exact⟨by show i<i+1;omega,by show i+1<=_;omega⟩
 .have:=(eF _ (rs.drop (i+1)) (X _)).1;rw[xz]at this;exact⟨by show i<i+1+_;omega,by show i+1+_<=_;omega⟩
def Bb{base:Nat}{acc:List Int}(h:w.ownsRow base 21 1 v acc.length (acc.map (yF .i32))) :
  (convert 96 166 v).run prog w = .ok (zv (acc.flatMap enc)) w:=by
 rcases h.2 with⟨hv,hn⟩|⟨g,cap,cur,hv,_⟩
 .have:acc=[]:=zF hn;subst this;rw[hv,run_convert_runes_nil w _ _ 21 _ _ underlying96 underlying21 underlying166];rfl
 .subst hv;have hc:=ygb (P:=prog) w 96 166 21 ⟨g,0,none⟩ acc.length cap acc (X _) underlying96 underlying21 underlying166 (λj a=>by
   rw[vA,h.cellAt j J];simp[zM,a])
  rw[kp,VN]at hc;exact hc
def wO(p:Nat)(rs:List Int)(i d:Nat)(num:Bool)(w:z7)(h:xD p rs i d w)(hi:i<rs.length) :
  zE prog 94 #[(p,0),.bool num] w (AU p rs d (zv (uU rs num i).1) (uU rs num i).2 w):=by
 have HH:=Z h;have HN:=Z (gq p rs i d w h);have hL:=h.len;have y:=h.lt;obtain⟨T,hT⟩:=zo (uU rs num i);rw[hT];have HT:=Z hT;obtain⟨T1,T2⟩:=T;dsimp only;obtain⟨q,Q⟩:=zo (zC rs i);rw[Q]at HN;have HQ:=Z Q;clear h hT Q;go_enter func94,ntmps94;go_wp2_with fail;refine HN.o.mono ?_;rintro e w1 ⟨rfl,qV⟩;have ZE:=HH.o.below qV;have h5:=ZE.at_;have h7:=ZE.z1;have N:=ZE.move (i+1) J;have HM:=Z (show xD p rs (i+1) d (w1.setCell (zX p 1) (.int .i64 ((i:Int)+1)))by rw[show(i:Int)+1=((i+1:Nat):Int)by omega];exact N);have s:xj p w (w1.setCell (zX p 1) (.int .i64 ((i:Int)+1))):=(xj.of qV).KK 1 _;obtain⟨W,hW⟩:=zo (w1.setCell (zX p 1) (.int .i64 ((i:Int)+1)));rw[hW]at HM s;have HW:=Z hW;clear ZE N qV HN hW;by_cases z:q=39
 .have QW:(q !=39)=false:=by rw[z];rfl
  have m:=HT.o;unfold uU at m;rw[zL (by rw[HQ.o,z];simp)]at m;have H:=Z m;have a:=VM p rs (i+1) d 39 W HM.o zj;clear m HQ;subst z;by_cases f:zC rs (i+1)=39
  .rw[show(zC rs (i+1)==39)=true by simpa using f,zl f]at a;have HTK:=Z a;have HE:=Z (show(enc 39,i+2)=(T1,T2)by have h:=H.o;rw[zl f]at h;exact h);clear a f;go_wp2_with fail;rw[HW.o];refine HTK.o.mono ?_;rintro e w2 ⟨rfl,R,qX⟩;have F:=Z R;clear R;go_wp2;go_ret;have he:=HE.o;cases he;exact⟨rfl,F.o,s.trans qX⟩
  .rw[show(zC rs (i+1)==39)=false by simpa using f,zL f]at a;have HTK:=Z a;have hT3:=H.o;rw[zL f]at hT3;have HT3:=Z hT3;obtain⟨sp,hsp⟩:∃b,kG (zC rs (i+1)) num=b:=⟨_,rfl⟩;have HSP:=Z hsp;clear a hT3 hsp H;go_wp2_with fail;rw[HW.o];refine HTK.o.mono ?_;rintro e w2 ⟨rfl,R,qX⟩;have F:=Z R;have K:=s.trans qX;clear R qX HTK HW HM s;go_wp2_with fail;refine(gq p rs (i+1) d w2 F.o).mono ?_;rintro e w3 ⟨rfl,kL⟩;have GZ:=Z (F.o.below kL);have L:=K.below kL;clear kL K F;go_wp2_with fail;refine(OV (zC rs (i+1)) num w3).mono ?_;rintro e w' ⟨rfl,rfl⟩;rw[HSP.o];cases sp
   .have HE:=Z (show(enc 39,i+1)=(T1,T2)by have h:=HT3.o;rw[zl HSP.o]at h;exact h);go_wp2;go_ret;have he:=HE.o;cases he;exact⟨rfl,GZ.o,L⟩
   .have HE:=Z (show((yV (rs.drop (i+1))).1.flatMap enc,i+1+(yV (rs.drop (i+1))).2)=(T1,T2)by have h:=HT3.o;rw[zL (by rw[HSP.o];simp)]at h;exact h);clear HT3 HSP HT f;go_wp2_with fail;obtain⟨wq,Db⟩:∃x,x=w3:=⟨_,rfl⟩;obtain⟨E1,hE1⟩:∃x,(yV (rs.drop (i+1))).1=x:=⟨_,rfl⟩;obtain⟨E2,hE2⟩:∃x,i+1+(yV (rs.drop (i+1))).2=x:=⟨_,rfl⟩;have HE1:=Z hE1;have HE2:=Z hE2;clear hE1 hE2;go_loopw [5,6] (λrv tv wr=>∃(j:Nat) (r:Int) (acc:List Int),j<=rs.length/\rv = .int .i32 r/\xD p rs j d wr/\xj p w wr/\wr.ownsRow (w:Nat) 21 1 tv acc.length (acc.map (yF .i32))/\acc.length<=j/\acc++(yV (rs.drop j)).1=E1/\j+(yV (rs.drop j)).2=E2) (λ_ _ wr=>rs.length - St p wr)
    case atStart=>exact⟨i+1,39,[],J,rfl,GZ.o,L,yr _ _ _ _,zY,HE1.o,HE2.o⟩
    case round =>
     obtain⟨j,r,acc,hj,rfl,hs,CS,P,CT,ha1,ha2⟩:=hrel;obtain⟨HS,HO,U,V⟩:=hdd hs P ha1 ha2;obtain⟨ta,tc,rfl⟩:=zD P;clear hs P ha1 ha2;go_wp2_with fail;refine(gq p rs j d wr HS.o).mono ?_;rintro e w4 ⟨rfl,YZ⟩;have dS:=HS.o.below YZ;have Vg:=Z dS;have MP:=Z (KF HO.o (xj.of (p:=p) YZ) y);have oQ:=CS.below YZ;clear dS YZ CS;by_cases v:j<rs.length
     .obtain⟨c,hc⟩:=zo (zC rs j);rw[hc];have hcp:0<=c:=by
       rw[<-hc];unfold zC;rw[zM,zw v];exact Vg.o.pos _ (xd v)
      have La:c≠-1:=J;have HC:=Z hc;clear hc;go_wp2_with fail;refine(gq p rs j d w4 Vg.o).mono ?_;rintro e w5 ⟨rfl,Xv⟩;rw[HC.o];have hs5:=Vg.o.below Xv;have aO:=Z (KF MP.o (xj.of (p:=p) Xv) y);have zfd:=oQ.below Xv;have g5:=hs5.at_;have g7:=hs5.z1;have N:=hs5.move (j+1) J;have hM:xD p rs (j+1) d (w5.setCell (zX p 1) (.int .i64 ((j:Int)+1))):=(by rw[show(j:Int)+1=((j+1:Nat):Int)by omega];exact N);have hO6:=KF aO.o (xj.set p w5 1 (.int .i64 ((j:Int)+1))) y;have t:xj p w (w5.setCell (zX p 1) (.int .i64 ((j:Int)+1))):=zfd.KK 1 _;obtain⟨W6,Gd⟩:∃W,w5.setCell (zX p 1) (.int .i64 ((j:Int)+1))=W:=⟨_,rfl⟩;rw[Gd]at hM hO6 t;have HM6:=Z hM;have HO6:=Z hO6;have HW6:=Z Gd;clear hs5 N hM hO6 Xv zfd Gd;by_cases g:c=39
      .have MR:(c==39)=true:=(by rw[g];rfl);have D:=VM p rs (j+1) d 39 W6 HM6.o zj;by_cases l:zC rs (j+1)=39
       .rw[show(zC rs (j+1)==39)=true by simpa using l,zl l]at D;have n:=Z D;have E:=Z (eG v (HC.o.trans g) l);have hj2:j+1<rs.length:=by
         apply zi;intro hcc;rw[jD J]at l;cases l
        subst g;clear D l;go_wp2_with fail;rw[HW6.o];refine n.o.mono ?_;rintro e w7 ⟨rfl,S,A⟩;have HS7:=Z S;have HO7:=Z (KF HO6.o A y);have C:=t.trans A;have vku:(w:Nat)<=(w7:Nat):=C.size;clear S A n;go_wp2_with (first|(at_builtin;refine vY Bd rfl _ _ rfl (w:Nat) _ acc.length (acc.map (yF .i32)) rfl (HO7.o.alloc _) ⟨(w7:Nat),0,none⟩ 1 1 [.int .i32 39] rfl rfl ?a1 ?a2 ?a3 ?a4 ?_)|fail)
        case a1=>exact cells_one (zg _ _ _ _ _)
        case a2 =>
         exact jr
        case a3=>have:=HS7.o.len;omega
        case a4=>simp;omega
        intro v8 w8 O B;have k:∀q,(yI ta acc.length tc).ownBlock=some q->(w:Nat)<=q:=λq Q=>(HO7.o.lt q Q).1
        have M:xj p w w8:=(C.below ((z8 _ _).alloc (X _) _)).grown B k;have I:=(HS7.o.below ((z8 _ _).alloc (X _) _)).grown B (λq Q=>by have:=k q Q;omega);have G:=Z I;have HO8:=Z (show w8.ownsRow (w:Nat) 21 1 v8 (acc++[39]).length ((acc++[39]).map (yF .i32))by simpa using O);clear O B I;go_wp2;go_roundw
        case rel=>exact⟨j+2,39,acc++[39],J,rfl,G.o,M,HO8.o,zV,by rw[<-U.o,E.o];simp,by rw[<-V.o,E.o];omega⟩
        case measure=>rw[qc G.o,qc HS.o];omega
       .rw[show(zC rs (j+1)==39)=false by simpa using l,zL l]at D;have n:=Z D;have hqq:=T5 v (HC.o.trans g) l;have QP:=Z (show acc=E1 by rw[<-U.o,hqq];simp);have ZT:=Z (show j+1=E2 by rw[<-V.o,hqq]);subst g;clear D l hqq;go_wp2_with fail;rw[HW6.o];refine n.o.mono ?_;rintro e w7 ⟨rfl,S,A⟩;have HS7:=Z S;have HO7:=Z (KF HO6.o A y);have C:=t.trans A;have hcv:=Bb HO7.o;clear S A n;go_wp2;go_ret;have he:=HE.o;rw[HE1.o,HE2.o]at he;cases he;exact⟨by rw[QP.o];rfl,by rw[<-ZT.o];exact HS7.o,C⟩
      .have MR:(c==39)=false:=(by simpa using g);have E:=Z (T4 v (λe=>g (HC.o.symm.trans e)));have xj6:(w:Nat)<=(W6:Nat):=t.size;have xj7:=HW6.o;subst xj7;go_wp2_with (first|(at_builtin;refine vY Bd rfl _ _ rfl (w:Nat) _ acc.length (acc.map (yF .i32)) rfl (HO6.o.alloc _) ⟨(w5:Nat),0,none⟩ 1 1 [.int .i32 c] rfl rfl ?a1 ?a2 ?a3 ?a4 ?_)|fail)
       case a1 =>
        have e:(w5.setCell (p,1) (.int .i64 ((j:Int)+1))).heap.size=(w5:Nat):=ZA;have h:=zg (w5.setCell (zX p 1) (.int .i64 ((j:Int)+1))) #[.int .i32 c] 21 (0,0) 0;rw[e]at h;exact cells_one h
       case a2 =>
        exact jr
       case a3=>have:=HM6.o.len;omega
       case a4=>exact zZ xj6 zY
       intro v8 w8 O B;have k:∀q,(yI ta acc.length tc).ownBlock=some q->(w:Nat)<=q:=λq Q=>(HO6.o.lt q Q).1
       have M:xj p w w8:=(t.below ((z8 _ _).alloc (X _) _)).grown B k;have I:=(HM6.o.below ((z8 _ _).alloc (X _) _)).grown B (λq Q=>by have:=k q Q;omega);have G:=Z I;have HO8:=Z (show w8.ownsRow (w:Nat) 21 1 v8 (acc++[c]).length ((acc++[c]).map (yF .i32))by simpa using O);clear O B I;go_wp2;go_roundw
       case rel=>exact⟨j+1,c,acc++[c],J,rfl,G.o,M,HO8.o,zV,by rw[<-U.o,E.o,HC.o];simp,by rw[<-V.o,E.o];omega⟩
       case measure=>rw[qc G.o,qc HS.o];omega
     .have HX:=Z (eJ (rs:=rs) (j:=j) J);have HNE:=Z (jD (rs:=rs) (i:=j) J);have hcv:=Bb MP.o;rw[HNE.o];go_wp2;go_ret;have he:=HE.o;rw[HE1.o,HE2.o]at he;have e1:=U.o;have e2:=V.o;rw[HX.o]at e1 e2;cases he;exact⟨by rw[<-e1];first|(simp;done)|(simp;rfl),by rw[<-e2];exact Vg.o,oQ⟩
 .have QW:(q !=39)=true:=by simpa using z
  have m:=HT.o;unfold uU at m;rw[zl (by rw[HQ.o];exact z)]at m;have H:=Z m;clear m;go_wp2;go_ret;have h:=H.o;rw[HQ.o]at h;cases h;exact⟨rfl,by rw[HW.o];exact HM.o,by rw[HW.o];exact s⟩
end Go.Proofs.YtfcemhlpdcnckaaGreatDoor
