import Derived.Test.YtfcemhlpdcnckaaGreatDoorJG5
import Derived.Maps.OwnSet
import Derived.Maps.Views
import Derived.Deep.DeepCutAuto
import Derived.Laws.OwnMore
import Derived.Defers
import Derived.Laws.IdiomStrings
import Derived.Recover
import Derived.WalkSmall
set_option linter.defProp false
set_option maxHeartbeats 64000000
open Go.Act renaming put->ZP
open Go renaming Addr->yi,Calls->zE,Ending->gG,Leaves->WG,Oper->fG,Program->Me,TypeId->uP,Value->zx,World->z7,bodyPost_ret->zU,callsD_of_wpS->ypx,iterPos_of->QN,leaves_cons->jJ,plainElem_int->Zh,results->yk,settle->C4
open Go.Addr renaming block->uh
open Array renaming getElem?_eq_some_iff->vN,getElem?_toList->jL,replicate->uJ
open Go.RowKit renaming Below->yX,wrap64->yk9
open Go.RowKit.Below renaming heap_alloc->xA,heap_setCell->zh,refl->z8
open Bool renaming and_eq_true->zQ
open ByteArray renaming ext->Gg
open Classical renaming byContradiction->zi
open Go.Conv renaming runesFrom->C0
open Go.DataW.lit renaming injEq->Hs
open Go.DataW renaming map->zev
open Go.Exit renaming thenS->zex
open Go.Instr renaming lookup->C6,makeFunc->gP,typeAssert->zA
open Go.IntKind renaming i64->yU
open Go.Lib renaming Utf8Tabs->XL,decFrom->zey,decodeGo->zu9,hid->Z
open List renaming all_cons->kP,append_nil->vu,cons_append->yw,drop_drop->Vt,drop_of_length_le->yq,drop_zero->qH,eq_nil_of_length_eq_zero->zF,flatMap_cons->zn,foldl_cons->QA,getElem?_append_left->qM,getElem?_eq_getElem->zw,getElem?_eq_some_iff->vq,length->qj,length_append->zI,length_cons->zm,length_drop->xz,length_nil->ur,length_pos_iff->xI,length_take->xr,map_cons->ve,map_nil->YW,map_toArray->Ml,mem_cons->yp,nil_append->kr,range->Um,replicate->yu,setIfInBounds_toArray->yb,set_cons_succ->xq,set_cons_zero->xu,take_succ_cons->qO,take_take->ypq
open Go.Lit.int renaming injEq->zk5
open Go.Maps renaming atKey_put_other->fF,atKey_put_same->dC,has->znq,has_put_other->Xc,has_put_same->Vr,string_keyed->vE
open Nat renaming add_assoc->jo,add_mul->ze9,add_sub_cancel_left->dD,le_add_right->WD,le_refl->X,le_trans->zZ,lt_of_lt_of_le->ze,lt_succ_self->xf,min_eq_left->zeu,mul_le_mul->Gf,mul_le_mul_right->MI,zero_add->V9,zero_le->zG
open Go.Oper renaming wp->XM
open Option renaming getD_some->zuv
open Prod.mk renaming injEq->Yg
open Go.Result renaming andThen->xO,andThen_ok->F8
open Go.Sem renaming run_bind->gF,run_pure->yk7
open Go.Value renaming ownBlock->qb,string->bJ
open Go.WideAt renaming IsKeyLit->ku
open Go.WideMaps renaming keyOf_string_mk->xy
open Go.World renaming block_lt_of_cell?->Y,cell?->ze7,cell?_alloc_lt->za,cell?_of_block->yZ,frozen?_of_block->zb,frozen?_setCell->zO,ownsMap_made->C5,ownsRow_nil->yr,setCell->xW
open Go.Proofs.Tryz
namespace Go.Proofs.YtfcemhlpdcnckaaGreatDoor
open Go Go.RowKit
set_option maxRecDepth 10000
variable{w:z7}
def CW:Wd:=[115,101,108,101,99,116]
def CA:Wd:=[112,108,117,114,97,108]
def Ca:Wd:=[115,101,108,101,99,116,111,114,100,105,110,97,108]
def Xa(m:Wd):Option Nat:=if m=CW then some 0 else if m=CA then some 1 else if m=Ca then some 2 else none
def Lh(w:z7)(b:Nat):Prop :=
 ∃D:DataW Unit,w.ownsMap prog 9 (plainElem prog 175) b 3 D/\∀m:Wd,znq D (.string m)=(Xa m).isSome/\D.atKey (.string m) (.lit (.int .i64 0)) = .lit (.int .i64 (((Xa m).getD 0:Nat):Int))
def Lh.look{b:Nat}(h:Lh w b)(m:Wd)(hm:m.length<=5000000) :
  (C6 257 (.map (some b)) (zv m) true).run prog w = .ok (.tuple #[(((Xa m).getD 0:Nat):Int),.bool (Xa m).isSome]) w:=by
 obtain⟨D,h1,d⟩:=h;obtain⟨v,ps,a,hv⟩:=h1.look_ok (vE underlying9) underlying257 (z := .int .i64 0) Io (Zh underlying175 zj)
  (key:=zv m) (xy (s:=⟨m.toArray⟩) underlying9 GV)
 rw[toList_mk]at a hv;rw[(d m).1]at a;rw[(d m).2]at hv;obtain⟨c,rfl,hc,_⟩:=plainElem_int_inv underlying175 hv;simp only[Yg,Hs,zk5]at hc;rw[a,<-hc.1.2]
def eD(w:z7):zE prog 132 #[] w λe w'=>(∃b,e = .returned (.map (some b))/\Lh w' b)/\zJ w w':=by
 have p:=@run_makeMap prog;go_enter func132,ntmps132;go_wp2;obtain⟨w1,c,i,g⟩:=(C5 (H:=Unit) w prog 9 (plainElem prog 175)).update (vE underlying9) underlying257 Z7 (xy (s:=⟨#[115,101,108,101,99,116]⟩) underlying9 zj) (Zh underlying175 (q := .i64) (a:=0) zj);rw[c];simp only[xO];clear c;go_wp2;obtain⟨w2,d,j,l⟩:=(i).update (vE underlying9) underlying257 (by unfold maxLen;omega) (xy (s:=⟨#[112,108,117,114,97,108]⟩) underlying9 (by decide)) (Zh underlying175 (q := .i64) (a:=1) (by decide));rw[d];simp only[xO];clear d;go_wp2;obtain⟨w3,f,k,o⟩:=(j).update (vE underlying9) underlying257 (by unfold maxLen;omega) (xy (s:=⟨#[115,101,108,101,99,116,111,114,100,105,110,97,108]⟩) underlying9 (by decide)) (Zh underlying175 (q := .i64) (a:=2) (by decide));rw[f];simp only[xO];clear f;go_wp2;go_ret;have hb:zJ w w3:=((((z8 _ _).alloc (X _) _).grown g zY (λq n=>by cases n;exact X _)).grown l (zZ zY g.size) (λq n=>by cases n;exact X _)).grown o (zZ (zZ zY g.size) l.size) (λq n=>by cases n;exact X _);refine⟨⟨_,rfl,_,k,λm=>?_⟩,hb⟩;have hm:Maps.IsMap (zev []:DataW Unit):=⟨_,rfl⟩;have k1:ku (.string CW):=trivial;have k2:ku (.string CA):=trivial;have k3:ku (.string Ca):=trivial;show znq ((((zev []:DataW Unit).put (.string CW) (.lit (.int .i64 0))).put (.string CA) (.lit (.int .i64 1))).put (.string Ca) (.lit (.int .i64 2))) (.string m)=_/\((((zev []:DataW Unit).put (.string CW) (.lit (.int .i64 0))).put (.string CA) (.lit (.int .i64 1))).put (.string Ca) (.lit (.int .i64 2))).atKey (.string m) (.lit (.int .i64 0))=_;have h1:=hm.put (.string CW) (.lit (.int .i64 0));have h2:=h1.put (.string CA) (.lit (.int .i64 1));have ne:∀{a b:Wd},a≠b->(Lit.string a) ≠ .string b:=λh e=>h (by cases e;rfl)
 unfold Xa;by_cases e3:m=Ca
 .subst e3;rw[Vr h2 k3,dC h2 k3,zL zj,zL zj,zl rfl];exact⟨rfl,rfl⟩
 .rw[Xc (ne e3),fF (ne e3)];by_cases e2:m=CA
  .subst e2;rw[Vr h1 k2,dC h1 k2,zL zj,zl rfl];exact⟨rfl,rfl⟩
  .rw[Xc (ne e2),fF (ne e2)];by_cases e1:m=CW
   .subst e1;rw[Vr hm k1,dC hm k1,zl rfl];exact⟨rfl,rfl⟩
   .rw[Xc (ne e1),fF (ne e1),zL e1,zL e2,zL e3];exact⟨rfl,rfl⟩
variable{vs:List zx}{hi hi' lo lo':Nat}{w':z7}
inductive Fo where
 |nil:Fo
 |text (t:Wd) (r:Fo):Fo
 |hash (r:Fo):Fo
 |put (name:Wd) (pl:Nat) (r:Fo):Fo
 |num (name:Wd) (pl:Nat) (r:Fo):Fo
 |br (name:Wd) (pl form:Nat) (off:Wd) (close:Nat) (bs r:Fo):Fo
 |uB (key:Wd) (pl:Nat) (msg r:Fo):Fo
namespace Fo
def len:Fo->Nat
 |nil=>0
 |text _ r=>r.len+1
 |hash r=>r.len+1
 |put _ _ r=>r.len+1
 |num _ _ r=>r.len+1
 |br _ _ _ _ _ _ r=>r.len+1
 |uB _ _ _ r=>r.len+1
def app:Fo->Fo->Fo
 |nil,g=>g
 |text t r,g=>text t (r.app g)
 |hash r,g=>hash (r.app g)
 |put n a r,g=>put n a (r.app g)
 |num n a r,g=>num n a (r.app g)
 |br n a f o c b r,g=>br n a f o c b (r.app g)
 |uB k a m r,g=>uB k a m (r.app g)
def jZ:∀f g:Fo,(f.app g).len=f.len+g.len
 |nil,g=>by simp[app,len]
 |text t r,g=>Jg
 |hash r,g=>Jg
 |put n a r,g=>Jg
 |num n a r,g=>Jg
 |br n a f o c b r,g=>Jg
 |uB k a m r,g=>Jg
def xV:Fo->Wd->Fo
 |nil,t=>text t nil
 |text s nil,t=>text (s++t) nil
 |text s r,t=>text s (r.xV t)
 |hash r,t=>hash (r.xV t)
 |put n a r,t=>put n a (r.xV t)
 |num n a r,t=>num n a (r.xV t)
 |br n a f o c b r,t=>br n a f o c b (r.xV t)
 |uB k a m r,t=>uB k a m (r.xV t)
def xX:Fo->Option Wd
 |nil=>none
 |text s nil=>some s
 |text _ r=>r.xX
 |hash r=>r.xX
 |put _ _ r=>r.xX
 |num _ _ r=>r.xX
 |br _ _ _ _ _ _ r=>r.xX
 |uB _ _ _ r=>r.xX
def vS:Fo->Bool
 |nil=>true
 |text _ r=>r.vS
 |hash r=>r.vS
 |put _ _ r=>r.vS
 |num _ _ r=>r.vS
 |br _ _ _ _ _ _ r=>r.vS
 |uB _ _ _ _=>false
end Fo
def ZH(o:Wd):Nat:=o.foldl (λv c=>10*v+(c.toNat - 48)) 0
def QJ(lo hi:Nat)(w:z7)(a:Option yi)(vs:List zx):Prop:=∀j (h:j<vs.length),∃g o,a=some ⟨g,o,none⟩/\lo<=g/\g<hi/\w.cell? ⟨g,o+j,none⟩=some vs[j]
def zt(lo hi:Nat)(w:z7):List zx->Fo->Prop
 |vs,.nil=>vs=[]
 |vs,.text t r=>∃vt,vs = .iface 166 (zv t)::vt/\zt lo hi w vt r
 |vs,.hash r=>∃vt,vs = .iface 169 (.agg #[])::vt/\zt lo hi w vt r
 |vs,.put n a r=>∃vt b,vs = .iface 170 (.pointer (some ⟨b,0,none⟩))::vt/\lo<=b/\b<hi/\zy w b 0 (zv n)/\zy w b 1 a/\zt lo hi w vt r
 |vs,.num n a r=>∃vt b,vs = .iface 173 (.pointer (some ⟨b,0,none⟩))::vt/\lo<=b/\b<hi/\zy w b 0 (zv n)/\zy w b 1 a/\zt lo hi w vt r
 |vs,.br n a f o c bs r=>∃vt b ba bc ws,vs = .iface 159 (.pointer (some ⟨b,0,none⟩))::vt/\lo<=b/\b<hi/\zy w b 0 (zv n)/\w.cell? ⟨b,1,none⟩=some (.int .i64 a) /\
   w.cell? (b,2)=some (.int .i64 f)/\zy w b 3 (.int .i64 (ZH o))/\zy w b 4 (.slice ba bs.len bc)/\w.cell? (b,5)=some (.int .i64 c) /\
   QJ lo hi w ba ws/\zt lo hi w ws bs/\zt lo hi w vt r
 |vs,.uB k a m r=>∃vt ma mc ws,vs=zv k :: .int .i64 a :: .slice ma m.len mc::vt/\QJ lo hi w ma ws/\zt lo hi w ws m/\zt lo hi w vt r
def QJ.keep{a:Option yi}(h:QJ lo hi w a vs)(c:xS lo hi w w')(h1:lo'<=lo)(h2:hi<=hi'):QJ lo' hi' w' a vs:=λj b=>by
 obtain⟨g,o,e1,e2,e3,e4⟩:=h j b;exact⟨g,o,e1,J,J,(c.cell (p:=(g,o+j)) e2 e3).trans e4⟩
def zt.keep(hk:xS lo hi w w')(h1:lo'<=lo)(h2:hi<=hi'):∀(f:Fo) (vs:List zx),zt lo hi w vs f->zt lo' hi' w' vs f
 |.nil,vs,h=>h
 |.text t r,vs,h=>oS
 |.hash r,vs,h=>oS
 |.put n a r,vs,h=>rp
 |.num n a r,vs,h=>rp
 |.br n a f o c l r,vs,h=>by
  obtain⟨vt,b,i,j,ws,e,l1,l2,c0,c1,c2,c3,c4,c5,d,g,hr⟩:=h;exact⟨vt,b,i,j,ws,e,J,J,(hk.cell (p:=(b,0)) l1 l2).trans c0,(hk.cell (p:=(b,1)) l1 l2).trans c1,(hk.cell (p:=(b,2)) l1 l2).trans c2,(hk.cell (p:=(b,3)) l1 l2).trans c3,
   (hk.cell (p:=(b,4)) l1 l2).trans c4,(hk.cell (p:=(b,5)) l1 l2).trans c5,d.keep hk h1 h2,zt.keep hk h1 h2 l ws g,zt.keep hk h1 h2 r vt hr⟩
 |.uB k a m r,vs,h=>by
  obtain⟨vt,ma,mc,ws,e,d,hm,hr⟩:=h;exact⟨vt,ma,mc,ws,e,d.keep hk h1 h2,zt.keep hk h1 h2 m ws hm,zt.keep hk h1 h2 r vt hr⟩
def zt.app{us:List zx}{g:Fo}(hg:zt lo hi w us g):∀(f:Fo) (vs:List zx),zt lo hi w vs f->zt lo hi w (vs++us) (f.app g)
 |.nil,vs,h=>by
  have e:vs=[]:=h;subst e;exact hg
 |.text t r,vs,h=>om
 |.hash r,vs,h=>om
 |.put n a r,vs,h=>o0
 |.num n a r,vs,h=>o0
 |.br n a f o c p r,vs,h=>by
  obtain⟨vt,b,j,l,ws,rfl,l1,l2,c0,c1,c2,c3,c4,c5,d,i,hr⟩:=h;exact⟨_,b,j,l,ws,rfl,l1,l2,c0,c1,c2,c3,c4,c5,d,i,zt.app hg r vt hr⟩
 |.uB k a m r,vs,h=>by
  obtain⟨vt,ma,mc,ws,rfl,d,hm,hr⟩:=h;exact⟨_,ma,mc,ws,rfl,d,hm,zt.app hg r vt hr⟩
def Fo.ug:Fo->Bool
 |.nil=>true
 |.uB _ _ _ r=>r.ug
 |_=>false
def zt.count:∀(f:Fo) (vs:List zx),zt lo hi w vs f->f.vS=true->vs.length=f.len
 |.nil,vs,h,_=>by
  have e:vs=[]:=h;subst e;rfl
 |.text t r,vs,h,hm=>by
  obtain⟨vt,rfl,hr⟩:=h;exact D7
 |.hash r,vs,h,hm=>by
  obtain⟨vt,rfl,hr⟩:=h;exact D7
 |.put n a r,vs,h,hm=>by
  obtain⟨vt,b,rfl,g,i,c0,c1,hr⟩:=h;exact D7
 |.num n a r,vs,h,hm=>by
  obtain⟨vt,b,rfl,g,i,c0,c1,hr⟩:=h;exact D7
 |.br n a f o c q r,vs,h,hm=>by
  obtain⟨vt,b,l,p,ws,rfl,g,i,c0,c1,c2,c3,c4,c5,d,j,hr⟩:=h;exact D7
 |.uB k a m r,vs,h,hm=>JV
variable{α β:Type}
abbrev qL(α:Type):=Except (Nat×Nat) (α×Nat)
def qL.then{α β:Type}(x:qL α)(k:α->Nat->qL β):qL β:=match x with |.error e => .error e |.ok (a,i)=>k a i
def then_ok(a:α)(i:Nat)(k:α->Nat->qL β):qL.then (.ok (a,i)) k=k a i:=rfl
def qq(e:Nat×Nat)(k:α->Nat->qL β):qL.then (.error e:qL α) k = .error e:=rfl
def vR(rs:List Int)(r:Int)(i:Nat):qL Unit:=if zC rs i=r then .ok ((),i+1)else .error (3,i)
def jC(rs:List Int)(i:Nat):qL Wd:=if vg rs i=0 then .error (3,i)else .ok (uy rs i (vg rs i),i+vg rs i)
def kF(rs:List Int)(i:Nat):qL Wd:=if vL rs i=0 then .error (3,i)else .ok (uy rs i (vL rs i),i+vL rs i)
abbrev jK:=Bool->Nat->qL Fo
def UC(rs:List Int)(num:Bool)(i:Nat):qL Wd :=
 if num=true/\zC rs i=61 then (kF rs (i+1)).then λk j => .ok (61::k,j)
 else (jC rs i).then λk j=>if num=true/\k ∉ fg then .error (3,i)else .ok (k,j)
def GK(rs:List Int):Option jK->Bool->Wd->Nat->Nat->Nat->qL Fo
 |none,_,_,_,o,_ => .error (4,o)
 |some m,num,k,i,_,l=>(m num l).then λf q=>(vR rs 125 q).then λ_ z => .ok (.uB k i f .nil,yK rs z)
def Xu(rs:List Int)(msg:Option jK)(num:Bool)(i:Nat):qL Fo :=
 (UC rs num i).then λk j=>(vR rs 123 (yK rs j)).then λ_ l=>GK rs msg num k i (yK rs j) l
def jX(rs:List Int)(msg:Option jK)(num:Bool):Nat->Fo->Nat->qL Fo
 | 0,_,i => .error (3,i)
 |n+1,acc,i=>if zC rs i=125/\acc.len≠0 then .ok (acc,i)else (Xu rs msg num i).then λf j=>jX rs msg num n (acc.app f) j
def UE:Wd:=[110,117,109,98,101,114]
def FY(rs:List Int)(form:Nat)(i:Nat):qL Wd :=
 if form≠0/\KG rs i=true then (kF rs (yK rs (i+7))).then λo j => .ok (o,yK rs j)else .ok ([48],i)
def Yv(rs:List Int)(msg:Option jK)(i:Nat):qL Fo :=
 (vR rs 123 i).then λ_ a =>
 (jC rs (yK rs a)).then λname b =>
 if zC rs (yK rs b)≠44 then (vR rs 125 (yK rs b)).then λ_ z => .ok (.put name i .nil,z)
 else (jC rs (yK rs (yK rs b+1))).then λw c =>
  if w=UE then (vR rs 125 (yK rs c)).then λ_ z => .ok (.num name i .nil,z)
  else match Xa w with
   |none => .error (3,yK rs (yK rs b+1))
   |some form=>(vR rs 44 (yK rs c)).then λ_ d=>(FY rs form (yK rs d)).then λo l =>
    (jX rs msg (decide (form≠0)) (rs.length+1) .nil l).then λbs q=>(vR rs 125 q).then λ_ z => .ok (.br name i form o q bs .nil,z)
def qC(rs:List Int)(msg:Option jK)(num:Bool):Nat->Fo->Nat->qL Fo
 | 0,_,i => .error (3,i)
 |n+1,acc,i =>
  if zC rs i = -1\/zC rs i=125 then .ok (acc,i)
  else if zC rs i=123 then (Yv rs msg i).then λf j=>qC rs msg num n (acc.app f) j
  else if zC rs i=35/\num=true then qC rs msg num n (acc.app (.hash .nil)) (i+1)
  else qC rs msg num n (acc.xV (uU rs num i).1) (uU rs num i).2
def Yu(rs:List Int):Nat->jK
 | 0=>λnum i=>qC rs none num (rs.length+1) .nil i
 |n+1=>λnum i=>qC rs (some (Yu rs n)) num (rs.length+1) .nil i
def bV(rs:List Int):qL Fo:=(Yu rs 5 false 0).then λf i=>if zC rs i = -1 then .ok (f,i)else .error (3,i)
variable{rs:List Int}{B d p:Nat}{u v0 v1 v2:zx}{W W':z7}
structure GN(p:Nat)(w:z7):Prop where
 names:kb w
 ne:1≠p
def GN.but(h:GN p w)(hb:xj p w w'):GN p w':=⟨λj a=>hb.cell (h.names j a) h.ne,h.ne⟩
def ye0(p:Nat)(rs:List Int)(d:Nat)(r:qL Fo)(w:z7)(e:gG)(w':z7):Prop :=
 (match r with
  |.error (n,a)=>Jr p n a e w'
  |.ok (f,j)=>(∃a c,e = .returned (.slice a f.len c)/\∃vs,QJ (w:Nat) (w':Nat) w' a vs/\zt (w:Nat) (w':Nat) w' vs f)/\f.vS=true/\xD p rs j d w')/\xj p w w'
def ZV(rs:List Int)(i n:Nat):(uy rs i n).length<=4*rs.length:=by
 have b:∀l:List Int,(l.flatMap enc).length<=4*l.length:=by
  intro l;exact mG
 have h1:=b ((rs.drop i).take n);have h2:((rs.drop i).take n).length<=rs.length:=zV;unfold uy;omega
def zd4(p:Nat)(rs:List Int)(d:Nat)(m:jK):Prop:=∀(num:Bool) (i:Nat) (w:z7),xD p rs i d w->GN p w ->
 zE prog 57 #[(p,0),.bool num] w (ye0 p rs d (m num i) w)
def yb2(p:Nat)(rs:List Int)(d:Nat)(r:qL Fo)(w:z7)(e:gG)(w':z7):Prop :=
 (match r with
  |.error (n,a)=>Jr p n a e w'
  |.ok (f,j)=>(∃k pl m ma mc,f = .uB k pl m .nil/\e = .returned (.agg #[zv k,.int .i64 pl,.slice ma m.len mc])/\m.vS=true/\∃vs,QJ (w:Nat) (w':Nat) w' ma vs/\zt (w:Nat) (w':Nat) w' vs m)/\xD p rs j d w')/\xj p w w'
structure BZ(B:Nat)(v0 v1 v2:zx)(w:z7):Prop where
 c0:zy w B 0 v0
 c1:zy w B 1 v1
 c2:zy w B 2 v2
 z:∀j,w.frozen? ⟨B,j,none⟩=false
def BZ.but(h:BZ B v0 v1 v2 w)(hb:xj p w w')(b:B≠p):BZ B v0 v1 v2 w' :=
 ⟨hb.cell h.c0 b,hb.cell h.c1 b,hb.cell h.c2 b,λj=>(zb (a:=⟨B,j,none⟩) (hb.block B (Y w _ h.c0) b)).trans (h.z j)⟩
def BZ.V4(h:BZ B v0 v1 v2 w):BZ B u v1 v2 (w.setCell (B,0) u) :=
 ⟨Sz,Lv,by rw[zN,zL zY];exact h.c2,λj=>by rw[zO];exact h.z j⟩
def BZ.pQ(h:BZ B v0 v1 v2 w):BZ B v0 v1 u (w.setCell (B,2) u) :=
 ⟨by rw[zN,zL zY];exact h.c0,Lv,by rw[zN,zl rfl,h.c2];rfl,λj=>by rw[zO];exact h.z j⟩
def xj.own(h:xj p w w')(hB:(w:Nat)<=B)(j:Nat)(u:zx):xj p w (w'.setCell (B,j) u) :=
 ⟨h.os,h.tape,h.output,zZ h.size ZA,λk a hp=>(zh _ _ _ _ (by show k≠B;omega)).trans (h.block k a hp)⟩
def xS.put(h:xS lo hi w W)(hB:B<lo)(j:Nat)(u:zx):xS lo hi w (W.setCell (B,j) u) :=
 ⟨zZ h.1 ZA,λk h1 h2=>(zh _ _ _ _ (by show k≠B;omega)).trans (h.2 k h1 h2)⟩
def xS.but(h:xS lo hi w W)(hb:xj p W W')(hp:p<lo):xS lo hi w W' :=
 ⟨zZ h.1 hb.size,λk h1 h2=>(hb.block k (ze h2 h.1) J).trans (h.2 k h1 h2)⟩
def xD.own{i:Nat}(h:xD p rs i d w)(hB:p<B)(j:Nat)(u:zx):xD p rs i d (w.setCell (B,j) u) :=
 h.grown (row:=some B) ⟨rfl,rfl,rfl,ZA,λk _ a=>zh _ _ _ _ (λe=>a (by rw[e]))⟩ (λq b=>by cases b;exact hB)
def T6(p:Nat)(rs:List Int)(i d:Nat)(num:Bool)(msg:Option jK)(w:z7)(h:xD p rs i d w)(he:GN p w)(hd:msg=none ↔ d=6)(hm:∀m,msg=some m->zd4 p rs d m) :
  zE prog 135 #[(p,0),.bool num] w (yb2 p rs d (Xu rs msg num i) w):=by
 obtain⟨M,aI,HD,HMC⟩:=hdd h he hd hm;have P:=h.lt;have N:=h.at_;obtain⟨R,hR⟩:=zo (Xu rs msg num i);rw[hR];have L:=Z hR;clear h he hd hm hR;cases num
 .go_enter func135,ntmps135;go_wp2_with fail;refine yh ?_;intro W hW;have C:zJ w W:=by rw[hW];exact(z8 _ _).alloc (X _) _
  have t:BZ (w:Nat) (.string ⟨#[]⟩) i (.slice none 0 0) W:=rZ;clear hW N;obtain⟨B,hB⟩:=zo (w:Nat);rw[hB]at t|-;have HB:=Z hB;have hpB:p<B:=J;have F:=Z t;clear hB t;obtain⟨RH,Ng⟩:∃b,b=false:=⟨_,rfl⟩;refine(KJ p rs i d W (M.o.below C)).mono ?_;rintro e x0 ⟨hq,g⟩;have x:=(xj.of (p:=p) C).trans g;have n:=Z (F.o.but g J);by_cases gC:vg rs i=0
  .rw[zl gC]at hq;have Cd:=Z (show R = .error (3,i)by rw[<-L.o];unfold Xu UC jC;rw[zL zY,zl gC];rfl);have HQ:=Z hq;obtain⟨bf,rfl,_,_⟩:=hq;clear gC;go_wp2;exact⟨rfl,by rw[Cd.o];exact HQ.o,x⟩
  .rw[zL gC]at hq;obtain⟨rfl,a⟩:=hq;obtain⟨K,hK⟩:=zo (uy rs i (vg rs i));obtain⟨j,D⟩:=zo (i+vg rs i);rw[D]at a;rw[hK];have HT:=Z (show R=(vR rs 123 (yK rs j)).then λ_ l=>GK rs msg RH K i (yK rs j) l by
    rw[<-L.o,Ng];unfold Xu UC jC;rw[zL zY,zL gC,hK,D];first|rfl|(simp[then_ok];done))
   have A:=Z a;have Q:=n.o.z 0;have z0:=n.o.c0;have z1:=n.o.c1;have WH:=Z (A.o.own hpB 0 (zv K));have pU:=Z (n.o.V4 (u:=zv K));have lb:xj p w (x0.setCell (zX B 0) (zv K)):=x.own Lf 0 _;obtain⟨Xk,y⟩:=zo (x0.setCell (zX B 0) (zv K));rw[y]at WH pU lb;have H:=Z y;clear a gC hK D y g x;go_wp2_with fail;rw[H.o];exact RE
 .go_enter func135,ntmps135;go_wp2_with fail;refine yh ?_;intro W hW;have C:zJ w W:=by rw[hW];exact(z8 _ _).alloc (X _) _
  have t:BZ (w:Nat) (.string ⟨#[]⟩) i (.slice none 0 0) W:=rZ;clear hW N;obtain⟨B,hB⟩:=zo (w:Nat);rw[hB]at t|-;have HB:=Z hB;have hpB:p<B:=J;have F:=Z t;clear hB t;obtain⟨RH,Ng⟩:∃b,b=true:=⟨_,rfl⟩;refine(VM p rs i d 61 W (M.o.below C) zj).mono ?_;rintro e x0 ⟨rfl,a,g⟩;have x:=(xj.of (p:=p) C).trans g;have n:=Z (F.o.but g J);by_cases c:zC rs i=61
  .rw[zl c]at a;rw[show(zC rs i==61)=true by rw[c];rfl];have A:=Z a;have s:=Z (show R=((kF rs (i+1)).then λk j=>(.ok (61::k,j):qL Wd)).then λk j=>(vR rs 123 (yK rs j)).then λ_ l=>GK rs msg true k i (yK rs j) l by
    rw[<-L.o];unfold Xu UC;rw[zl ⟨rfl,c⟩])
   clear a c g;go_wp2_with fail;refine(Em p rs (i+1) d x0 A.o).mono ?_;rintro e x1 ⟨hq,Fh⟩;have qV:=x.trans Fh;have IL:=Z (n.o.but Fh J);by_cases gC:vL rs (i+1)=0
   .rw[zl gC]at hq;have Cd:=Z (show R = .error (3,i+1)by rw[s.o];unfold kF;rw[zl gC];rfl);exact nS
   .rw[zL gC]at hq;obtain⟨rfl,ZE⟩:=hq;obtain⟨G,hK⟩:=zo (uy rs (i+1) (vL rs (i+1)));obtain⟨K,I⟩:=zo (61::G);obtain⟨j,D⟩:=zo (i+1+vL rs (i+1));rw[D]at ZE;rw[hK];have HT:=Z (show R=(vR rs 123 (yK rs j)).then λ_ l=>GK rs msg RH K i (yK rs j) l by
     rw[s.o,Ng];unfold kF;rw[zL gC,hK,D,<-I];rfl)
    have UR:=Z ZE;have Q:=IL.o.z 0;have z0:=IL.o.c0;have z1:=IL.o.c1;have WH:=Z (UR.o.own hpB 0 (zv K));have pU:=Z (IL.o.V4 (u:=zv K));have lb:xj p w (x1.setCell (zX B 0) (zv K)):=qV.own Lf 0 _;obtain⟨Xk,y⟩:=zo (x1.setCell (zX B 0) (zv K));rw[y]at WH pU lb;rw[<-I]at y;have H:=Z y;have O:¬9223372036854775807<1+G.length:=by
     have:=ZV rs (i+1) (vL rs (i+1));have:=M.o.len;rw[hK]at *;omega
    clear ZE gC hK D y Fh qV s;go_wp2_with fail;rw[show(⟨#[61]⟩:ByteArray)++⟨G.toArray⟩=⟨(61::G).toArray⟩from Gg zY];rw[show bJ ⟨(61::G).toArray⟩=zv (61::G)from rfl,H.o];exact RE
  .rw[zL c]at a;rw[show(zC rs i==61)=false by simp[c]];have A:=Z a;have s:=Z (show R=((jC rs i).then λk j=>if k ∉ fg then (.error (3,i):qL Wd)else .ok (k,j)).then λk j=>(vR rs 123 (yK rs j)).then λ_ l=>GK rs msg true k i (yK rs j) l by
    rw[<-L.o];unfold Xu UC;rw[zL (λe=>c e.2)];simp)
   clear a c g;go_wp2_with fail;refine(KJ p rs i d x0 A.o).mono ?_;rintro e x1 ⟨hq,Fh⟩;have qV:=x.trans Fh;have IL:=Z (n.o.but Fh J);by_cases gC:vg rs i=0
   .rw[zl gC]at hq;have Cd:=Z (show R = .error (3,i)by rw[s.o];unfold jC;rw[zl gC];rfl);exact nS
   .rw[zL gC]at hq;obtain⟨rfl,ZE⟩:=hq;obtain⟨K,hK⟩:=zo (uy rs i (vg rs i));obtain⟨j,D⟩:=zo (i+vg rs i);rw[D]at ZE;rw[hK];have E:=Z (show R=((if K ∉ fg then .error (3,i)else .ok (K,j)):qL Wd).then λk j=>(vR rs 123 (yK rs j)).then λ_ l=>GK rs msg true k i (yK rs j) l by
     rw[s.o];unfold jC;rw[zL gC,hK,D];rfl)
    have UR:=Z ZE;have Q:=IL.o.z 0;have z0:=IL.o.c0;have z1:=IL.o.c1;have WH:=Z (UR.o.own hpB 0 (zv K));have pU:=Z (IL.o.V4 (u:=zv K));have lb:xj p w (x1.setCell (zX B 0) (zv K)):=qV.own Lf 0 _;obtain⟨Xk,y⟩:=zo (x1.setCell (zX B 0) (zv K));rw[y]at WH pU lb;have H:=Z y;clear ZE gC hK D y Fh qV s;go_wp2_with fail;rw[H.o];refine(Lt K Xk (aI.o.but lb).names).mono ?_;rintro e x2 ⟨rfl,rfl⟩;have u1:=pU.o.c1;by_cases hc:K∈fg
    .rw[show decide (K∈fg)=true by simp[hc]];have HT:=Z (show R=(vR rs 123 (yK rs j)).then λ_ l=>GK rs msg RH K i (yK rs j) l by
      rw[E.o,Ng,zL (by simp[hc])];rfl)
     clear hc E;go_wp2_with fail;exact RE
    .rw[show decide (K∈fg)=false by simp[hc]];have Cd:=Z (show R = .error (3,i)by rw[E.o,zl hc];rfl);clear hc E;go_wp2_with fail;refine(YV p 3 i Xk WH.o.Ev).mono ?_;rintro e x3 ⟨hf,hx3⟩;have HF:=Z hf;obtain⟨bf,rfl,_,_⟩:=hf;go_wp2;exact⟨rfl,by rw[Cd.o];exact HF.o,lb.below hx3⟩
variable{l:List UInt8}{j k:Nat}
def OK:∀(l:List UInt8) (acc:Nat),l.all yn=true->zey acc l=some (l.foldl (λv c=>10*v+(c.toNat - 48)) acc)
 |[],_,_=>rfl
 |c::t,acc,h=>by
  simp only[kP,zQ]at h;have hc:=(xe c).1 h.1;rw[zey,Lib.digitVal,zl J];dsimp only;rw[OK t _ h.2,QA,Nat.mul_comm acc 10]
def zd5(h:l.all yn=true)(hn:l≠[]):Lib.atoi l=some (ZH l:Int):=by
 cases l with
 |nil=>exact absurd rfl hn
 |cons c t =>
  have hd:=h;simp only[kP,zQ]at hd;have hc:=(xe c).1 hd.1;have b:(c==45)=false:=Im;have a:(c==43)=false:=Im;rw[Lib.atoi,b,a];simp only[Bool.false_eq_true,if_false,Lib.decNat];rw[zL zY,OK _ 0 h];rfl
def AK(x:Wd)(w:z7)(hs:x.length<=9)(hd:x.all yn=true)(hn:x≠[]) :
  zE prog 100 #[zv x] w λe w'=>e = .returned (.tuple #[.int .i64 (ZH x),.nilIface])/\zJ w w':=by
 refine(Tryz.strconv_Atoi ⟨x.toArray⟩ (ZH x) (by simp[ByteArray.size];omega) (zd5 hd hn) w).mono ?_;rintro e w' ⟨rfl,t,rfl⟩;exact⟨rfl,Lib.bytesWorld_below _ _ _⟩
def eB(r:Int)(h:qg r=true):∃c,enc r=[c]/\yn c=true:=by
 simp only[qg,zQ,qP]at h;have:r=48\/r=49\/r=50\/r=51\/r=52\/r=53\/r=54\/r=55\/r=56\/r=57:=J;rcases this with rfl|rfl|rfl|rfl|rfl|rfl|rfl|rfl|rfl|rfl<;>exact⟨_,rfl,zj⟩
def BX(F:Int->Nat->Bool)(rs:List Int)(i:Nat):∀f n R,fM F rs i f n=R->∀k,n<=k->k<R->F (zC rs (i+k)) k=true
 | 0,n,R,h,k,h1,h2=>by
  rw[fM]at h;omega
 |f+1,n,R,h,k,h1,h2=>by
  rw[fM]at h;by_cases q:F (zC rs (i+n)) n=true
  .rw[zl q]at h;by_cases a:k=n
   .rw[a];exact q
   .exact BX F rs i f (n+1) R h k J h2
  .rw[zL q]at h;omega
def Js{F:Int->Nat->Bool}{i:Nat}(h:k<runN F rs i):F (zC rs (i+k)) k=true:=BX F rs i _ _ _ rfl k (zG _) h
def A8(h:j<rs.length):zC rs j=rs[j]:=by
 unfold zC;simp[h]
def KD:∀(l:List Int),(∀r∈l,qg r=true)->(l.flatMap enc).length=l.length/\(l.flatMap enc).all yn=true
 |[],_=>⟨rfl,rfl⟩
 |r::t,h=>by
  obtain⟨c,hc,hd⟩:=eB r (h r zY);obtain⟨h1,h2⟩:=KD t (λq a=>h q (by simp[a]));refine⟨by simp[zn,hc,h1],?_⟩;rw[zn,hc];simp[hd];simpa using h2
def GO(rs:List Int)(i:Nat)(hn:vL rs i≠0):(uy rs i (vL rs i)).length<=9/\(uy rs i (vL rs i)).all yn=true/\uy rs i (vL rs i)≠[]:=by
 obtain⟨n,c⟩:=zo (vL rs i);have hf:∀k,k<n->k<9/\qg (zC rs (i+k))=true:=λk hk=>by
  have:=Js (F:=ky (zC rs i)) (rs:=rs) (i:=i) (k:=k) (by rw[show runN (ky (zC rs i)) rs i=vL rs i from rfl,c];exact hk);simp only[ky,zQ,qP]at this;exact this.1
 rw[c]at hn|-;have f:n<=9:=by
  have:=(hf (n - 1) J).1;omega
 have hd:qg (-1)=false:=zj;have EJ:∀k,k<n->i+k<rs.length:=λk hk=>by
  refine Nat.lt_of_not_le (λb=>?_);have:=(hf k hk).2;rw[jD b,hd]at this;cases this
 have a:∀r∈(rs.drop i).take n,qg r=true:=λr hr=>ri
 have d:((rs.drop i).take n).length=n:=by
  have:=EJ (n - 1) J;simp;omega
 obtain⟨h1,h2⟩:=KD _ a;unfold uy;refine⟨J,h2,λe=>?_⟩;rw[e]at h1;simp only[ur]at h1;omega
variable{acc:Fo}{e:uP}{v:zx}
def xj8(base:Nat)(v:zx)(w W:z7):Prop:=(w:Nat)<=(W:Nat)/\∀k,base<=k->k<(w:Nat)->some k≠v.ownBlock->W.heap[k]? = w.heap[k]?
def kD(base:Nat)(e:uP)(size:Nat)(v:zx)(acc:Fo)(ws:List zx)(w:z7):Prop :=
 w.ownsRow base e size v acc.len ws/\∀W,xj8 base v w W->zt base W.heap.size W ws acc
def kD.start(base:Nat)(e:uP)(size:Nat)(w:z7):kD base e size (.slice none 0 0) .nil [] w :=
 ⟨⟨by simp[Fo.len],.inl ⟨rfl,rfl⟩⟩,λ_ _=>rfl⟩
def kD.but{base:Nat}{size:Nat}{ws:List zx}(h:kD base e size v acc ws w)(hb:xj p w w')(hp:p<base):kD base e size v acc ws w':=by
 obtain⟨⟨h1,h2⟩,c⟩:=h;refine⟨⟨h1,?_⟩,λW b=>c W ⟨zZ hb.size b.1,λk k1 k2 k3=>(b.2 k k1 (ze k2 hb.size) k3).trans (hb.block k k2 J)⟩⟩;rcases h2 with hn|⟨g,cap,cur,hv,d,hc,rest⟩
 .exact .inl hn
 .refine .inr ⟨g,cap,cur,hv,d,?_,rest⟩;have a:g<(w:Nat):=(vN.1 hc).1;rw[hb.block g a J];exact hc
def kD.nodes{base:Nat}{size:Nat}{ws:List zx}(h:kD base e size v acc ws w):zt base (w:Nat) w ws acc :=
 h.2 w ⟨X _,λ_ _ _ _=>rfl⟩
def kD.row{base:Nat}{size:Nat}{ws:List zx}(h:kD base e size v acc ws w):∃a c,v = .slice a acc.len c/\QJ base (w:Nat) w a ws:=by
 obtain⟨⟨h1,h2⟩,_⟩:=h;rcases h2 with⟨hv,hn⟩|⟨g,cap,cur,hv,i,hc,d,m,n,f⟩
 .refine⟨none,0,by rw[hv,hn],λj b=>?_⟩;rw[hn]at h1;omega
 .refine⟨some ⟨g,0,none⟩,cap,hv,λj b=>⟨g,0,rfl,i,(vN.1 hc).1,?_⟩⟩;have l:acc.len*size<=cap*size:=MI _ d;have k:j<cur.size:=by omega
  rw[V9];have e1:ws[j]? = cur[j]? := by
   rw[<-f,List.getElem?_take,zl J,jL]
  have e2:ws[j]? = some ws[j]:=zw b;show w.cell? (zX g j)=some ws[j];rw[<-e2,e1];unfold ze7;rw[hc];rfl
variable{Q:Exit->Act->z7->Prop}{f:Fo}{P:Me}{v':zx}
def KB(w:z7)(base:Nat)(t ty e:uP)(i:TypeInfo)(z:zx)(A:P.underlying t=some (.slice e))(hi:P.info? e=some i)(F:i.zero=some z)
  (y:z.cells.size=i.size) (x:0<i.size)
  (v:zx) (n:Nat) (xs:List zx) (d:w.ownsRow base e i.size v n xs)
  (a:yi) (m c:Nat) (b:List zx) (s:b.length=m*i.size) (h:∀j u,b[j]? = some u->w.cell? (a.add j)=some u) (h1:∀u∈b,u.oneCell'=true)
  (p:n+m<=maxLen) (f:(n+m)*i.bytes<=140737488355328) (q:base<=(w:Nat)) :
  ∃v' w',(Builtin.append_ #[t,t] ty #[v,.slice (some a) m c]).run P w = .ok v' w'/\w'.ownsRow base e i.size v' (n+m) (xs++b)/\w.grownBy w' v.ownBlock /\
   (v'.ownBlock=v.ownBlock\/∀k,v'.ownBlock=some k->(w:Nat)<=k):=by
 obtain⟨v',w',hr,h2,G,M⟩:=run_append_own (P:=P) w base t ty e i z i.size i.bytes A hi F rfl rfl y x v n xs d a m c b s h h1 p f q;refine⟨v',w',hr,h2,G,?_⟩;have D:=d;rcases d.2 with⟨rfl,rfl⟩|⟨g,cap,cur,rfl,H,K,L,I,B,E⟩
 .have hx:xs=[]:=zF (by simpa using d.1);subst hx;obtain⟨v2,w2,l,k2,_,_⟩:=run_append_own (P:=P) w (w:Nat) t ty e i z i.size i.bytes A hi F rfl rfl y x (.slice none 0 0) 0 [] (yr w (w:Nat) e i.size) a m c b s h h1 p f (X _);rw[hr]at l;cases l;exact .inr λk C=>(k2.lt k C).1
 .by_cases o:n+m<=cap
  .have r:n*i.size+b.length<=cur.size:=(by rw[s,B,<-ze9];exact MI _ o);have l:=run_append_room (P:=P) w t ty e i A hi g n cap cur K a m c b s h h1 o r;rw[hr]at l;cases l;exact .inl rfl
  .have holds:∀j u,xs[j]? = some u->w.cell? ((⟨g,0,none⟩:yi).add j)=some u:=d.cells (g:=g) rfl;have l:=run_append_grow (P:=P) w t ty e i z A hi F ⟨g,0,none⟩ n cap xs d.1 holds a m c b s h J (by simp only[maxLen]at p;omega) (growslice_fits (by simp only[maxLen]at p;omega) f);rw[hr]at l;cases l;refine .inr λk C=>?_
   simp[qb]at C;omega
def kD.grow{base m:Nat}{size:Nat}{ws a:List zx}(h:kD base e size v acc ws w)
  (hn:zt lo (w:Nat) w a f) (d:base<=lo) (hv:∀k,v.ownBlock=some k->k<lo) (hm:f.len=m)
  (h2:w'.ownsRow base e size v' (acc.len+m) (ws++a)) (c:w.grownBy w' v.ownBlock) (j:v'.ownBlock=v.ownBlock\/∀k,v'.ownBlock=some k->(w:Nat)<=k) :
  kD base e size v' (acc.app f) (ws++a) w':=by
 refine⟨by rw[Fo.jZ,hm];exact h2,λW i=>?_⟩;have key:∀k,base<=k->k<(w:Nat)->some k≠v.ownBlock->W.heap[k]? = w.heap[k]? := λk k1 k2 k3=>by
  have g:some k≠v'.ownBlock:=by
   rcases j with q|q
   .rw[q];exact k3
   .intro e;have:=q k e.symm;omega
  exact(i.2 k k1 (ze k2 c.size) g).trans (c.block k k2 k3)
 have b:(w:Nat)<=(W:Nat):=zZ c.size i.1;exact zt.app (zt.keep (lo:=lo) (hi:=(w:Nat)) ⟨b,λk k1 k2=>key k J k2 (λe=>by have:=hv k e.symm;omega)⟩ d b f a hn) acc ws (h.2 W ⟨b,key⟩)
def YL{t:uP}{z:zx}{size bytes:Nat}(E:bH P t e z size bytes){ops:Array fG}{rest:List fG}{o:fG}{a:Act}
  (n:o.guard=none) (s x:Operand) (C:o.op = .call { callee := .builtin .append,args:=#[s,x],argTypes:=#[t,t] })
  (base lo:Nat) (v:zx) (acc f:Fo) (ws:List zx) (hs:a.eval s=v) (y:kD base e size v acc ws w)
  (ad:yi) (m c:Nat) (b:List zx) (hx:a.eval x = .slice (some ad) m c) (B:b.length=m*size) (g:∀j u,b[j]? = some u->w.cell? (ad.add j)=some u) (h1:∀u∈b,u.oneCell'=true)
  (hn:zt lo (w:Nat) w b f) (p:base<=lo) (hv:∀k,v.ownBlock=some k->k<lo) (hm:f.len=m)
  (l:acc.len+m<=2147483648) (d:base<=(w:Nat))
  (h:∀v' w',kD base e size v' (acc.app f) (ws++b) w'->w.grownBy w' v.ownBlock->wpList P ops Q rest (a.put o.dst v') w'):wpList P ops Q (o::rest) a w:=by
 obtain⟨i,hi,D,rfl,rfl⟩:=E.info;have q:=E.small;obtain⟨v',w',hr,h2,r,A⟩:=KB (P:=P) w base t o.type e i z E.under hi D E.UL E.pos v acc.len ws y.1 ad m c b B g h1 Z7 (zZ (Gf l q) zj) d;refine wpList_plain n λK hK=>?_
 unfold XM execOp;simp only[C,resolve,invoke,builtin,gF,yk7,F8,Ml,ve,YW,hs,hx,hr];exact hK _ _ (h v' w' (y.grow hn p hv hm h2 r A) r)
def NY:bH prog 176 219 (.agg #[.string ⟨#[]⟩,.int .i64 0,.slice none 0 0]) 3 48 :=
 ⟨underlying176,info_parts yy,rfl,zj,zj⟩
def bh:bH prog 61 153 .nilIface 1 16 :=
 ⟨underlying61,info_parts yy,rfl,zj,zj⟩
def zjj{t:uP}{z:zx}{size bytes:Nat}(E:bH P t e z size bytes){o:fG}{a:Act}{K:Act->z7->Prop}
  (s x:Operand) (B:o.op = .call { callee := .builtin .append,args:=#[s,x],argTypes:=#[t,t] })
  (base lo:Nat) (v:zx) (acc f:Fo) (ws:List zx) (hs:a.eval s=v) (r:kD base e size v acc ws w)
  (ad:yi) (m c:Nat) (b:List zx) (hx:a.eval x = .slice (some ad) m c) (A:b.length=m*size) (g:∀j u,b[j]? = some u->w.cell? (ad.add j)=some u) (h1:∀u∈b,u.oneCell'=true)
  (hn:zt lo (w:Nat) w b f) (n:base<=lo) (hv:∀k,v.ownBlock=some k->k<lo) (hm:f.len=m)
  (l:acc.len+m<=2147483648) (d:base<=(w:Nat))
  (h:∀v' w',kD base e size v' (acc.app f) (ws++b) w'->w.grownBy w' v.ownBlock->K (a.put o.dst v') w'):XM P o a w K Q:=by
 obtain⟨i,hi,C,rfl,rfl⟩:=E.info;have p:=E.small;obtain⟨v',w',hr,h2,q,y⟩:=KB (P:=P) w base t o.type e i z E.under hi C E.UL E.pos v acc.len ws r.1 ad m c b A g h1 Z7 (zZ (Gf l p) zj) d;unfold XM execOp;simp only[B,resolve,invoke,builtin,gF,yk7,F8,Ml,ve,YW,hs,hx,hr];exact h v' w' (r.grow hn n hv hm h2 q y) q
def kD.lt{base:Nat}{size:Nat}{ws:List zx}(h:kD base e size v acc ws w):∀k,v.ownBlock=some k->base<=k/\k<(w:Nat):=h.1.lt
def Fo.Zx:∀f g:Fo,f.ug=true->g.ug=true->(f.app g).ug=true
 |.nil,g,_,h=>h
 |.uB k a m r,g,h,h2=>Fo.Zx r g h h2
 |.text t r,g,h,_=>xp
 |.hash r,g,h,_=>xp
 |.put n a r,g,h,_=>xp
 |.num n a r,g,h,_=>xp
 |.br n a f o c b r,g,h,_=>xp
def Fo.kX:∀f g:Fo,f.vS=true->g.vS=true->(f.app g).vS=true
 |.nil,g,_,h=>h
 |.uB k a m r,g,h,h2=>xp
 |.text t r,g,h,h2=>Fo.kX r g h h2
 |.hash r,g,h,h2=>Fo.kX r g h h2
 |.put n a r,g,h,h2=>Fo.kX r g h h2
 |.num n a r,g,h,h2=>Fo.kX r g h h2
 |.br n a f o c b r,g,h,h2=>Fo.kX r g h h2
variable{r:Int}
def yl(rs:List Int)(i:Nat):i<=yK rs i:=WD _ _
def BV(m:jK):Prop:=∀num i f j,m num i = .ok (f,j)->i<=j
def zS{x:qL α}{k:α->Nat->qL β}{b:β}(h:x.then k = .ok (b,j)):∃a q,x = .ok (a,q)/\k a q = .ok (b,j):=by
 cases x with
 |error e=>cases h
 |ok a=>exact⟨a.1,a.2,rfl,h⟩
def xg{i:Nat}{u:Unit}(h:vR rs r i = .ok (u,j)):zC rs i=r/\j=i+1:=by
 unfold vR at h;split at h
 .cases h;exact⟨by assumption,rfl⟩
 .cases h
def dU{i:Nat}{x:Wd}(h:jC rs i = .ok (x,j)):i<j:=by
 unfold jC at h;split at h
 .cases h
 .cases h;omega
def XV{i:Nat}{x:Wd}(h:kF rs i = .ok (x,j)):i<j:=by
 unfold kF at h;split at h
 .cases h
 .cases h;omega
def wP{num:Bool}{i:Nat}{x:Wd}(h:UC rs num i = .ok (x,j)):i<j:=by
 unfold UC at h;split at h
 .obtain⟨a,q,h1,h2⟩:=zS h;cases h2;have:=XV h1;omega
 .obtain⟨a,q,h1,h2⟩:=zS h;split at h2
  .cases h2
  .cases h2;exact dU h1
def Wh{msg:Option jK}{num:Bool}{i:Nat}(hm:∀m,msg=some m->BV m)(h:Xu rs msg num i = .ok (f,j)):i<j:=by
 unfold Xu at h;obtain⟨k,a,h1,h2⟩:=zS h;obtain⟨u,b,e,d⟩:=zS h2;have e1:=wP h1;have e2:=(xg e).2;have e3:=yl rs a;cases msg with
 |none=>cases d
 |some m =>
  obtain⟨g,c,l,n⟩:=zS (show(m num b).then _=_ from d);obtain⟨u2,z,o,p⟩:=zS n;have e4:=hm m rfl _ _ _ _ l;have q:=(xg o).2;have r:=yl rs z;cases p;omega
def OJ{msg:Option jK}{num:Bool}(hm:∀m,msg=some m->BV m):∀(n:Nat) (acc:Fo) (i j:Nat) (f:Fo),jX rs msg num n acc i = .ok (f,j)->i<=j
 | 0,acc,i,j,f,h=>xp
 |n+1,acc,i,j,f,h=>by
  rw[jX]at h;split at h
  .cases h;exact VX
  .obtain⟨g,q,h1,h2⟩:=zS h;have:=Wh hm h1;have:=OJ hm n _ _ _ _ h2;omega
def M0{form i:Nat}{o:Wd}(h:FY rs form i = .ok (o,j)):i<=j:=by
 unfold FY at h;split at h
 .obtain⟨a,q,h1,h2⟩:=zS h;cases h2;have:=XV h1;have:=yl rs (i+7);have:=yl rs q;omega
 .cases h;exact VX
def AJ{msg:Option jK}{i:Nat}(hm:∀m,msg=some m->BV m)(h:Yv rs msg i = .ok (f,j)):i<j:=by
 unfold Yv at h;obtain⟨u,a,h1,h2⟩:=zS h;obtain⟨nm,b,x,g⟩:=zS h2;have e1:=(xg h1).2;have e2:=yl rs a;have e3:=dU x;have e4:=yl rs b;clear h h1 h2 x;split at g
 .obtain⟨u,z,k,e⟩:=zS g;have:=(xg k).2;cases e;omega
 .obtain⟨E,c,k,e⟩:=zS g;have B:=dU k;have C:=yl rs (yK rs b+1);have D:=yl rs c;clear g k;split at e
  .obtain⟨u,z,v,w⟩:=zS e;have:=(xg v).2;cases w;omega
  .split at e
   .cases e
   .obtain⟨u,d,v,w⟩:=zS e;obtain⟨o,l,y,n⟩:=zS w;obtain⟨A,q,p,r⟩:=zS n;obtain⟨u,z,s,t⟩:=zS r;have:=(xg v).2;have:=yl rs d;have:=M0 y;have:=OJ hm _ _ _ _ _ p;have:=(xg s).2;cases t;omega
def VO(rs:List Int)(num:Bool)(i:Nat):i<(uU rs num i).2:=by
 unfold uU;split
 .exact xf _
 split
 .exact Nat.lt_add_of_pos_right zj
 split
 .exact xf _
 .show i<i+1+_;omega
def VP{msg:Option jK}{num:Bool}(hm:∀m,msg=some m->BV m):∀(n:Nat) (acc:Fo) (i j:Nat) (f:Fo),qC rs msg num n acc i = .ok (f,j)->i<=j
 | 0,acc,i,j,f,h=>xp
 |n+1,acc,i,j,f,h=>by
  rw[qC]at h;split at h
  .cases h;exact VX
  split at h
  .obtain⟨g,q,h1,h2⟩:=zS h;have:=AJ hm h1;have:=VP hm n _ _ _ _ h2;omega
  split at h
  .have:=VP hm n _ _ _ _ h;omega
  .have:=VP hm n _ _ _ _ h;have:=VO rs num i;omega
def M1(rs:List Int):∀n,BV (Yu rs n)
 | 0,num,i,f,j,h=>by
  rw[Yu]at h;exact VP (λm e=>gU) _ _ _ _ _ h
 |n+1,num,i,f,j,h=>by
  rw[Yu]at h;exact VP (λm e=>by cases e;exact M1 rs n) _ _ _ _ _ h
variable{n:Nat}{v3 v4 v5:zx}
def KC{i:Nat}{F:Unit->Nat->qL β}(h:zC rs i=r):(vR rs r i).then F=F () (i+1):=by unfold vR;rw[zl h];rfl
def FT{i:Nat}{F:Unit->Nat->qL β}(h:¬zC rs i=r):(vR rs r i).then F = .error (3,i):=by unfold vR;rw[zL h];rfl
def wR{i:Nat}{F:Wd->Nat->qL β}(h:¬vL rs i=0):(kF rs i).then F=F (uy rs i (vL rs i)) (i+vL rs i):=by unfold kF;rw[zL h];rfl
def wW{i:Nat}{F:Wd->Nat->qL β}(h:vL rs i=0):(kF rs i).then F = .error (3,i):=by unfold kF;rw[zl h];rfl
def AG{i:Nat}{F:Wd->Nat->qL β}(h:¬vg rs i=0):(jC rs i).then F=F (uy rs i (vg rs i)) (i+vg rs i):=by unfold jC;rw[zL h];rfl
def AF{i:Nat}{F:Wd->Nat->qL β}(h:vg rs i=0):(jC rs i).then F = .error (3,i):=by unfold jC;rw[zl h];rfl
def OG{f i:Nat}(h:¬(f≠0/\KG rs i=true)):FY rs f i = .ok ([48],i):=by unfold FY;rw[zL h]
def wa{f i:Nat}(h:f≠0/\KG rs i=true):FY rs f i=(kF rs (yK rs (i+7))).then λo j => .ok (o,yK rs j):=by unfold FY;rw[zl h]
def then_assoc{γ:Type}(x:qL α)(f:α->Nat->qL β)(g:β->Nat->qL γ):(x.then f).then g=x.then λa i=>(f a i).then g:=by
 cases x with
 |error e=>rfl
 |ok a=>rfl
def ye1(p:Nat)(rs:List Int)(d:Nat)(r:qL Fo)(w:z7)(e:gG)(w':z7):Prop :=
 (match r with
  |.error (n,a)=>Jr p n a e w'
  |.ok (f,j)=>(∃v,e = .returned v/\zt (w:Nat) (w':Nat) w' [v] f)/\f.len=1/\f.vS=true/\xD p rs j d w')/\xj p w w'
def BU{m:Wd}(h:Xa m=some n):n<3:=by
 unfold Xa at h;split at h
 .cases h;decide
 split at h
 .cases h;decide
 split at h
 .cases h;decide
 .cases h
structure Cc(B:Nat)(v0 v1 v2 v3 v4 v5:zx)(w:z7):Prop where
 c0:zy w B 0 v0
 c1:zy w B 1 v1
 c2:zy w B 2 v2
 c3:zy w B 3 v3
 c4:zy w B 4 v4
 c5:zy w B 5 v5
 z:∀j,w.frozen? ⟨B,j,none⟩=false
def Cc.but(h:Cc B v0 v1 v2 v3 v4 v5 w)(hb:xj p w w')(b:B≠p):Cc B v0 v1 v2 v3 v4 v5 w' :=
 ⟨hb.cell h.c0 b,hb.cell h.c1 b,hb.cell h.c2 b,hb.cell h.c3 b,hb.cell h.c4 b,hb.cell h.c5 b,λj=>(zb (a:=⟨B,j,none⟩) (hb.block B (Y w _ h.c0) b)).trans (h.z j)⟩
def Cc.wj(h:Cc B v0 v1 v2 v3 v4 v5 w):Cc B v0 v1 v2 u v4 v5 (w.setCell (B,3) u):=by
 refine⟨?_,?_,?_,?_,?_,?_,λj=>DX⟩<;>rw[zN];all_goals first|(rw[zL zY];first|exact h.c0|exact h.c1|exact h.c2|exact h.c4|exact h.c5)|(rw[zl rfl,h.c3];rfl)
def Cc.zjg(h:Cc B v0 v1 v2 v3 v4 v5 w):Cc B v0 v1 v2 v3 u v5 (w.setCell (B,4) u):=by
 refine⟨?_,?_,?_,?_,?_,?_,λj=>DX⟩<;>rw[zN];all_goals first|(rw[zL zY];first|exact h.c0|exact h.c1|exact h.c2|exact h.c3|exact h.c5)|(rw[zl rfl,h.c4];rfl)
def Cc.zd1(h:Cc B v0 v1 v2 v3 v4 v5 w):Cc B v0 v1 v2 v3 v4 u (w.setCell (B,5) u):=by
 refine⟨?_,?_,?_,?_,?_,?_,λj=>DX⟩<;>rw[zN];all_goals first|(rw[zL zY];first|exact h.c0|exact h.c1|exact h.c2|exact h.c3|exact h.c4)|(rw[zl rfl,h.c5];rfl)
def Cc.lt(h:Cc B v0 v1 v2 v3 v4 v5 w):B<(w:Nat):=Y w _ h.c0
def Cc.grown{row:Option Nat}(h:Cc B v0 v1 v2 v3 v4 v5 w)(c:w.grownBy w' row)(b:some B≠row):Cc B v0 v1 v2 v3 v4 v5 w' :=
 ⟨c.cell h.c0 b,c.cell h.c1 b,c.cell h.c2 b,c.cell h.c3 b,c.cell h.c4 b,c.cell h.c5 b,λj=>(zb (a:=⟨B,j,none⟩) (c.block B h.lt b)).trans (h.z j)⟩
structure BQ(B:Nat)(v0 v1:zx)(w:z7):Prop where
 c0:zy w B 0 v0
 c1:zy w B 1 v1
 z:∀j,w.frozen? ⟨B,j,none⟩=false
def BQ.but(h:BQ B v0 v1 w)(hb:xj p w w')(b:B≠p):BQ B v0 v1 w' :=
 ⟨hb.cell h.c0 b,hb.cell h.c1 b,λj=>(zb (a:=⟨B,j,none⟩) (hb.block B (Y w _ h.c0) b)).trans (h.z j)⟩
def BQ.V4(h:BQ B v0 v1 w):BQ B u v1 (w.setCell (B,0) u) :=
 ⟨Sz,Lv,λj=>DX⟩
def KE(p:Nat)(rs:List Int)(i d:Nat)(msg:Option jK)(w:z7)(h:xD p rs i d w)(he:GN p w)(hd:msg=none ↔ d=6)(hm:∀m,msg=some m->zd4 p rs d m)(we:∀m,msg=some m->BV m) :
  zE prog 93 #[(p,0)] w (ye1 p rs d (Yv rs msg i) w):=by
 obtain⟨HH,aI,hu,HBR⟩:=hdd h he we (λnum j W hs hE=>T6 p rs j d num msg W hs hE hd hm);have M3:=h.lt;have h5:=h.at_;obtain⟨R,hR⟩:=zo (Yv rs msg i);rw[hR];unfold Yv at hR;have HTW:=Z hR.symm;clear h he hd hm hR we;go_enter func93,ntmps93;go_wp2_with fail;refine yh ?_;intro W hW;have UP:zJ w W:=UM;have U:BQ (w:Nat) (.string ⟨#[]⟩) i W:=by
  rw[hW];exact⟨zg _ _ _ _ _,zg _ _ _ _ _,λj=>qk⟩
 clear hW h5;obtain⟨B,hB⟩:=zo (w:Nat);rw[hB]at U|-;have HB:=Z hB;have hpB:p<B:=J;have HLW:=Z U;have HSW:=Z (HH.o.below UP);have UP:=xj.of (p:=p) UP;clear hB U;refine(Zy p rs i d 123 W HSW.o zj).mono ?_;rintro e x1 ⟨hq,yzz⟩;have ye2:=UP.trans yzz;have xj9:=Z (HLW.o.but yzz J);by_cases hw:zC rs i=123
 .rw[zl hw]at hq;obtain⟨rfl,hs⟩:=hq;have ht:=HTW.o;rw[KC hw]at ht;have zd6:=Z ht;have ye3:=Z hs;clear ht hs hw yzz HTW HSW;go_wp2_with fail;refine(jP p rs (i+1) d x1 ye3.o).mono ?_;rintro e x2 ⟨rfl,hs,yzy⟩;have xjz:=ye2.trans yzy;have xjy:=Z (xj9.o.but yzy J);obtain⟨J1,hJ⟩:∃H,yK rs (i+1)=H:=⟨_,rfl⟩;have vkk:i+1<=J1:=by rw[<-hJ];exact yl rs _
  have ht:=zd6.o;rw[hJ]at ht hs;have yzx:=Z ht;have ye4:=Z hs;clear ht hs hJ yzy zd6 ye3;go_wp2_with fail;refine(KJ p rs J1 d x2 ye4.o).mono ?_;rintro e x3 ⟨hq,yzv⟩;have ye5:=xjz.trans yzv;have zd7:=Z (xjy.o.but yzv J);by_cases hn:vg rs J1=0
  .rw[zl hn]at hq;have ht:=yzx.o;rw[AF hn]at ht;have zd8:=Z ht;clear ht hn;have HQ:=Z hq;obtain⟨bf,rfl,_,_⟩:=hq;go_wp2;exact⟨rfl,by rw[zd8.o];exact HQ.o,ye5⟩
  .rw[zL hn]at hq;obtain⟨rfl,hs⟩:=hq;have ht:=yzx.o;rw[AG hn]at ht;obtain⟨K,hK⟩:=zo (uy rs J1 (vg rs J1));obtain⟨J2,hJ⟩:∃H,J1+vg rs J1=H:=⟨_,rfl⟩;rw[hJ,hK]at ht;rw[hJ]at hs;rw[hK];have hlK:K.length<=4000000:=by
    have:=ZV rs J1 (vg rs J1);have:=HH.o.len;rw[<-hK];omega
   have zd8:=Z ht;have xjx:=Z hs;clear ht hs hK hJ hn yzv yzx ye4;have zz:=zd7.o.z 0;have z0:=zd7.o.c0;have z1:=zd7.o.c1;have yzu:=Z (xjx.o.own hpB 0 (zv K));have ye6:=Z (zd7.o.V4 (u:=zv K));have ye7:xj p w (x3.setCell (zX B 0) (zv K)):=ye5.own Lf 0 _;have ye8:=zd8;obtain⟨x4,V⟩:∃Xk,x3.setCell (zX B 0) (zv K)=Xk:=⟨_,rfl⟩;rw[V]at yzu ye6 ye7;have HX:=Z V;clear V zd8;go_wp2_with fail;rw[HX.o];clear zz z0 z1;refine(jP p rs (J2) d x4 yzu.o).mono ?_;rintro e x5 ⟨rfl,hs,yzq⟩;have xjv:=ye7.trans yzq;have xju:=Z (ye6.o.but yzq J);obtain⟨J3,hJ⟩:∃H,yK rs (J2)=H:=⟨_,rfl⟩;have vkj:J2<=J3:=Ri;have ht:=ye8.out;rw[hJ]at ht hs;have zd9:=Z ht;have yzk:=Z hs;clear ht hs hJ yzq ye8 yzu;go_wp2_with fail;refine(VM p rs J3 d 44 x5 yzk.o zj).mono ?_;rintro e x6 ⟨rfl,hs,hx6⟩;have ye9:=xjv.trans hx6;have yez:=Z (xju.o.but hx6 J);by_cases P:zC rs J3=44
   .rw[zl P]at hs;rw[show(zC rs J3==44)=true by rw[P];rfl];have L:=Z hs;have ht:=zd9.o;rw[zL (λe=>e P)]at ht;have F:=Z ht;clear ht hs P hx6 zd9 yzk;go_wp2_with fail;refine(jP p rs (J3+1) d x6 L.o).mono ?_;rintro e x7 ⟨rfl,hs,D⟩;have Q:=ye9.trans D;have zdz:=Z (yez.o.but D J);obtain⟨J4,hJ⟩:∃H,yK rs (J3+1)=H:=⟨_,rfl⟩;have vkg:J3+1<=J4:=(by rw[<-hJ];exact yl rs _);have ht:=F.o;rw[hJ]at ht hs;have A:=Z ht;have M:=Z hs;clear ht hs hJ D F L;have g7:=M.o.at_;go_wp2_with fail;refine(KJ p rs J4 d x7 M.o).mono ?_;rintro e x8 ⟨hq,yzj⟩;have yey:=Q.trans yzj;have xjq:=Z (zdz.o.but yzj J);by_cases hn:vg rs J4=0
    .rw[zl hn]at hq;have ht:=A.o;rw[AF hn]at ht;have zdy:=Z ht;clear ht hn;have HQ:=Z hq;obtain⟨bf,rfl,_,_⟩:=hq;go_wp2;exact⟨rfl,by rw[zdy.o];exact HQ.o,yey⟩
    .rw[zL hn]at hq;obtain⟨rfl,hs⟩:=hq;have ht:=A.o;rw[AG hn]at ht;obtain⟨K2,hK⟩:∃K,uy rs J4 (vg rs J4)=K:=⟨_,rfl⟩;obtain⟨J5,hJ⟩:∃H,J4+vg rs J4=H:=⟨_,rfl⟩;rw[hJ,hK]at ht;rw[hJ]at hs;rw[hK];have vkf:K2.length<=4000000:=by
      have:=ZV rs J4 (vg rs J4);have:=HH.o.len;rw[<-hK];omega
     have zdy:=Z ht;have yex:=Z hs;clear ht hs hK hJ hn yzj A M;clear g7;go_wp2_with fail;refine(jP p rs (J5) d x8 yex.o).mono ?_;rintro e x9 ⟨rfl,hs,yzg⟩;have yev:=yey.trans yzg;have yeu:=Z (xjq.o.but yzg J);obtain⟨J6,hJ⟩:∃H,yK rs (J5)=H:=⟨_,rfl⟩;have vkd:J5<=J6:=Ri;have ht:=zdy.o;rw[hJ]at ht hs;have c:=Z ht;have zdx:=Z hs;clear ht hs hJ yzg zdy yex;by_cases hk:(K2==[110,117,109,98,101,114])=true
     .have ht:=c.o;rw[zl (show K2=UE from eq_of_beq hk)]at ht;have HT9:=c;clear c;have c:=Z ht;clear ht HT9;go_wp2_with fail;clear hk;refine(Zy p rs J6 d 125 x9 zdx.o zj).mono ?_;rintro e E ⟨hq,wo⟩;have a:=yev.trans wo;have t:=Z (yeu.o.but wo J);by_cases hw:zC rs J6=125
      .rw[zl hw]at hq;obtain⟨rfl,hs⟩:=hq;have ht:=c.o;rw[KC hw]at ht;have y:=Z ht;have x:=Z hs;clear ht hs hw wo c zdx;have k0:=t.o.c0;have k1:=t.o.c1;have V:=a.size;go_wp2;rw[y.o];have CT:=λo=>(z8 (E:Nat) E).alloc (X _) o
       refine zU (v := .iface 173 (E,0)) ?_ rfl ?_
       .exact RU
       exact⟨⟨⟨_,rfl,[],(E:Nat),rfl,V,zY,zg _ _ _ _ _,zg _ _ _ _ _,rfl⟩,rfl,rfl,x.o.below (CT _)⟩,a.below (CT _)⟩
      .rw[zL hw]at hq;have ht:=c.o;rw[FT hw]at ht;have y:=Z ht;clear ht hw;have HQ:=Z hq;obtain⟨bf,rfl,_,_⟩:=hq;go_wp2;exact⟨rfl,by rw[y.o];exact HQ.o,a⟩
     .have hk':(K2==[110,117,109,98,101,114])=false:=(by simpa using hk);have ht:=c.o;rw[zL (show ¬K2=UE from λe=>hk (beq_iff_eq.2 e))]at ht;have HTf:=Z ht;clear ht hk c;go_wp2_with fail;clear hk';refine(eD x9).mono ?_;rintro e E ⟨⟨bm,rfl,hF⟩,zdv⟩;have a:=yev.below zdv;have t:=Z (yeu.o.but (xj.of (p:=p) zdv) J);have x:=Z (zdx.o.below zdv);have HF:=Z hF;have I:=hF.look K2 J;clear zdv hF zdx;obtain⟨fo,hfo⟩:=zo (Xa K2);rw[hfo]at I;have ht:=HTf.o;rw[hfo]at ht;have HTg:=Z ht;clear ht HTf;have HFO:=Z hfo;clear hfo;cases fo with
      |none =>
       have y:=Z (show R = .error (3,J4)from HTg.o);clear HTg;simp only[Option.getD_none,Option.isSome_none]at I;go_wp2_with fail;refine(YV p 3 J4 E x.o.Ev).mono ?_;rintro e x11 ⟨hf,xjk⟩;have ZT:=Z hf;obtain⟨bf,rfl,_,_⟩:=hf;go_wp2;exact⟨rfl,by rw[y.o];exact ZT.o,a.below xjk⟩
      |some form =>
       simp only[zuv,Option.isSome_some]at I;have A0:form<3:=BU HFO.o;have ht:=HTg.o;have HTY:=Z ht;clear HTg ht;have k0:=t.o.c0;have k1:=t.o.c1;go_wp2_with fail;refine yh ?_;intro Yk hY;have hbY:zJ E Yk:=(by rw[hY];exact(z8 _ _).alloc (X _) _);have U:Cc (E:Nat) (zv K) i form (.int .i64 0) (.slice none 0 0) (.int .i64 0) Yk:=by
        rw[hY];exact⟨zg _ _ _ _ _,zg _ _ _ _ _,zg _ _ _ _ _,zg _ _ _ _ _,zg _ _ _ _ _,zg _ _ _ _ _,λj=>qk⟩
       have hwx:(w:Nat)<=(E:Nat):=a.size;have HSY:=Z (x.o.below hbY);have hbY:=a.below hbY;obtain⟨C,hC⟩:=zo (E:Nat);rw[hC]at U hwx|-;have hwC:=hwx;clear hY k0 k1 I x hC t HF hwx;have HLY:=Z U;have hpC:p<C:=J;clear U;refine(Zy p rs J6 d 44 Yk HSY.o zj).mono ?_;rintro e y1 ⟨hq,yzf⟩;have yeq:=hbY.trans yzf;have xjg:=Z (HLY.o.but yzf J);by_cases hw:zC rs J6=44
       .rw[zl hw]at hq;obtain⟨rfl,hs⟩:=hq;have ht:=HTY.o;rw[KC hw]at ht;have zdq:=Z ht;have yek:=Z hs;clear ht hs hw yzf HTY HSY;go_wp2_with fail;refine(jP p rs (J6+1) d y1 yek.o).mono ?_;rintro e y2 ⟨rfl,hs,yzd⟩;have yzb:=yeq.trans yzd;have yy0:=Z (xjg.o.but yzd J);obtain⟨J7,hJ⟩:∃H,yK rs (J6+1)=H:=⟨_,rfl⟩;have vj2:J6+1<=J7:=(by rw[<-hJ];exact yl rs _);have ht:=zdq.o;rw[hJ]at ht hs;have yej:=Z ht;have N:=Z hs;clear ht hs hJ yzd zdq yek;obtain⟨FF,hFF⟩:∃FF:Wd->Nat->qL Fo,FF=λo l=>(jX rs msg (decide (form≠0)) (rs.length+1) .nil l).then λbs q=>(vR rs 125 q).then λ_ z => .ok (.br K i form o q bs .nil,z):=⟨_,rfl⟩
        have HFF:=Z hFF;have T:=Z (show R=(FY rs form J7).then FF by rw[hFF];exact yej.o);clear hFF yej;go_upto_region 23 with fail
        go_cut [76] (λs wc=>∃b l,s = .bool b/\xD p rs l d wc/\xj p w wc/\Cc C (zv K) i form (.int .i64 0) (.slice none 0 0) (.int .i64 0) wc/\J7<=l/\(b=true->R=((kF rs (yK rs l)).then λo j=>(.ok (o,yK rs j):qL Wd)).then FF)/\(b=false->R=FF [48] l))
        case first =>
         by_cases h0:form=0
         .subst h0;have ht:=T.o;rw[OG (λe=>e.1 rfl),then_ok]at ht;have HTX:=Z ht;clear ht T;go_wp2_with fail;go_meet
          case rel=>exact⟨false,J7,rfl,N.o,yzb,yy0.o,X _,(λe=>gU),λ_=>HTX.o⟩
         .have hf0:((form:Int)==0)=false:=(by simp;omega);have Kp:((form:Int) !=0)=true:=zV;have HF0:=Z h0;clear h0;go_wp2_with fail;refine(OU p rs J7 d y2 N.o).mono ?_;rintro e y3 ⟨rfl,hs,hx⟩;have yeg:=yzb.trans hx;have yef:=Z (yy0.o.but hx J);by_cases ho:KG rs J7=true
          .rw[zl ho]at hs;rw[ho];have ht:=T.o;rw[wa ⟨HF0.o,ho⟩]at ht;have yy1:=Z ht;have yy2:=Z hs;clear ht hs hx ho T N;go_wp2_with fail;go_meet
           case rel=>exact⟨true,J7+7,rfl,yy2.o,yeg,yef.o,WD _ _,(λ_=>yy1.o),(λe=>gU)⟩
          .rw[zL ho]at hs;rw[show KG rs J7=false from IQ];have ht:=T.o;rw[OG (λe=>ho e.2),then_ok]at ht;have yy1:=Z ht;have yy2:=Z hs;clear ht hs hx ho T N;go_wp2_with fail;go_meet
           case rel=>exact⟨false,J7,rfl,yy2.o,yeg,yef.o,X _,(λe=>gU),λ_=>yy1.o⟩
        case rest =>
         obtain⟨b,l,rfl,hs,MW,hl,hJl,ht1,ht0⟩:=hcut;obtain⟨HSc,HLc,Eb,HT0⟩:=hdd hs hl ht1 ht0;clear hs hl ht1 ht0 N yy0 T yzb;go_upto_if 76 with fail
         go_cut [] (λwc=>∃l ov O,ZH O=ov/\xD p rs l d wc/\xj p w wc/\Cc C (zv K) i form (.int .i64 ov) (.slice none 0 0) (.int .i64 0) wc/\J7<=l/\R=FF O l)
         case first =>
          cases b with
          |false =>
           have HTc:=Z (HT0.o rfl);clear HT0 Eb;go_wp2_with fail;go_meet
           case rel=>exact⟨l,0,[48],rfl,HSc.o,MW,HLc.o,hJl,HTc.o⟩
          |true =>
           have HTc:=Z (Eb.o rfl);have xjd:=MW;have yed:=HSc;have xjb:=HLc;have yeb:=HTc;clear MW HSc HLc HTc Eb HT0;go_wp2_with fail;refine(jP p rs (l) d wc yed.out).mono ?_;rintro e y4 ⟨rfl,hs,yy3⟩;have xg0:=xjd.trans yy3;have xg1:=Z (xjb.out.but yy3 J);obtain⟨J8,hJ⟩:∃H,yK rs (l)=H:=⟨_,rfl⟩;have vj5:l<=J8:=Ri;have ht:=yeb.out;rw[hJ]at ht hs;have yy4:=Z ht;have yi0:=Z hs;clear ht hs hJ yy3 yeb yed;go_wp2_with fail;refine(Em p rs J8 d y4 yi0.o).mono ?_;rintro e y5 ⟨hq,hx⟩;have yi1:=xg0.trans hx;have xg2:=Z (xg1.o.but hx J);by_cases hn:vL rs J8=0
           .rw[zl hn]at hq;have ht:=yy4.o;rw[then_assoc,wW hn]at ht;have zdk:=Z ht;clear ht hn;have HQ:=Z hq;obtain⟨bf,rfl,_,_⟩:=hq;go_wp2;exact⟨rfl,by rw[zdk.o];exact HQ.o,yi1⟩
           .rw[zL hn]at hq;obtain⟨rfl,hs⟩:=hq;have ht:=yy4.o;rw[then_assoc,wR hn]at ht;simp only[then_ok]at ht;obtain⟨w1,w2,w3⟩:=GO rs J8 hn;obtain⟨O,hO⟩:∃K,uy rs J8 (vL rs J8)=K:=⟨_,rfl⟩;obtain⟨J9,hJ⟩:∃H,J8+vL rs J8=H:=⟨_,rfl⟩;have vj6:J8<=J9:=(by omega);rw[hJ,hO]at ht;rw[hJ]at hs;rw[hO]at w1 w2 w3|-;have zdk:=Z ht;have yi2:=Z hs;have HAT:=Z (λW=>AK O W w1 w2 w3);clear ht hs hO hJ hn hx yy4 yi0 w1 w2 w3;go_wp2_with fail;refine(HAT.o y5).mono ?_;rintro e y6 ⟨rfl,hx⟩;have xg3:=yi1.below hx;have yy6:=Z (xg2.o.but (xj.of (p:=p) hx) J);have xg4:=Z (yi2.o.below hx);obtain⟨ov,hov⟩:∃v,ZH O=v:=⟨_,rfl⟩;rw[hov];have HOV:=Z hov;have q3:=yy6.o.c3;have z3:=yy6.o.z 3;have yy7:=Z (xg4.o.own hpC 3 ov);have yi4:=Z (yy6.o.wj (u := .int .i64 ov));have yi5:xj p w (y6.setCell (zX C 3) ov):=xg3.own hwC 3 _;have yi6:=zdk;obtain⟨y7,V⟩:∃Xk,y6.setCell (zX C 3) ov=Xk:=⟨_,rfl⟩;rw[V]at yy7 yi4 yi5;have HX:=Z V;clear V zdk hov hx yi2;go_wp2_with fail;rw[HX.o];clear q3 z3;refine(jP p rs (J9) d y7 yy7.o).mono ?_;rintro e y8 ⟨rfl,hs,yy8⟩;have xg5:=yi5.trans yy8;have xg6:=Z (yi4.o.but yy8 J);obtain⟨J10,hJ⟩:∃H,yK rs (J9)=H:=⟨_,rfl⟩;have xoq:J9<=J10:=(by rw[<-hJ];exact yl rs _);have ht:=yi6.out;rw[hJ]at ht hs;have xg7:=Z ht;have xg8:=Z hs;clear ht hs hJ yy8 yi6 yy7;go_wp2_with fail;go_meet
            case rel=>exact⟨J10,ov,O,HOV.o,xg8.o,xg5,xg6.o,J,xg7.o⟩
         case rest =>
          obtain⟨l2,ov,O,hov,hs,UF,hl,vj7,ht⟩:=hcut;obtain⟨HOV,HSz,HLz,HTz⟩:=hdd hov hs hl (show R=(jX rs msg (decide (form≠0)) (rs.length+1) .nil l2).then λbs q=>(vR rs 125 q).then λ_ z => .ok (.br K i form O q bs .nil,z)by rw[ht,HFF.o]);obtain⟨NB,hNB⟩:∃b,decide (form≠0)=b:=⟨_,rfl⟩;have HNB:=Z hNB;have xuv:=Z (show((form:Int) !=0)=NB by rw[<-hNB];by_cases h:form=0<;>simp[h]);clear hov hs hl ht MW HSc HLc Eb HT0 HFF hNB;go_wp2_with fail;obtain⟨G,hG,hGe⟩:∃G:Fo->Nat->qL Fo,R=(jX rs msg NB (rs.length+1) .nil l2).then G/\∀bs q,zC rs q=125->G bs q = .ok (.br K i form O q bs .nil,q+1):=⟨_,(show decide (form≠0)=NB from HNB.o)▸HTz.o,λbs q h=>KC h⟩;have HGE:=Z hGe;clear hGe;have HG:=Z hG;have cM:1<=l2:=J;clear hG HTz;go_loopw [] (λwr=>∃acc j n v ws,xD p rs j d wr/\xj p w wr/\Cc C (zv K) i form ov v (.int .i64 0) wr/\kD (C+1) 219 3 v acc ws wr/\acc.ug=true/\R=(jX rs msg NB n acc j).then G/\rs.length+2<=n+j/\acc.len<=j) (λwr=>rs.length+2 - St p wr)
          case atStart=>exact⟨.nil,l2,rs.length+1,_,[],HSz.o,UF,HLz.o,kD.start _ _ _ _,rfl,HG.o,J,zG _⟩
          case round =>
           obtain⟨acc,j,n,v,ws,hs,tE,hbr,U2,zmq,hR,hfu,zmk⟩:=hrel;obtain⟨ga,gc,hv,_⟩:=U2.row;subst hv;obtain⟨HSR,xgy,lx,ZC,HLG,yb5⟩:=l6 hs hbr U2 hR zmq (show acc.len<=j/\j<=rs.length+1 from⟨zmk,hs.here⟩);have hCC:=hbr.lt;clear hs hbr U2 hR zmq zmk;go_wp2_with fail;refine(gq p rs j d wr HSR.o).mono ?_;rintro e w1 ⟨rfl,qV⟩;have lZ:=Z (xgy.o.but (xj.of (p:=p) qV) J);have q4:=lZ.o.c4;have UR:=Z (HSR.o.below qV);have IM:=tE.below qV;by_cases g:zC rs j=125
           .rw[g];by_cases ha0:acc.len=0
            .have xgx:((acc.len:Int)==0)=true:=(by simp[ha0]);have HA0:=Z ha0;clear ha0 g;obtain⟨n',pC⟩:∃n',n=n'+1:=⟨n - 1,Sk⟩;have ht:=ZC.o;rw[pC,jX,zL (λe=>e.2 HA0.o),then_assoc]at ht;exact pB
            .have xgx:((acc.len:Int)==0)=false:=(by simp[ha0]);have u1:=UR.o.at_;have q5:=lZ.o.c5;have z5:=lZ.o.z 5;obtain⟨n',pC⟩:∃n',n=n'+1:=⟨n - 1,Sk⟩;have ht:=ZC.o;rw[pC,jX,zl ⟨g,ha0⟩,then_ok]at ht;have Eb:=Z ht;have Jx:=Z (UR.o.own hpC 5 j);have CQ:=Z (lZ.o.zd1 (u := .int .i64 j));have qX:xj p w (w1.setCell (zX C 5) j):=IM.own hwC 5 _;have yi8:=Z ((lx.o.but (xj.of (p:=p) qV) J).but (xj.set C w1 5 j) J);obtain⟨y9,V⟩:∃Xk,w1.setCell (zX C 5) j=Xk:=⟨_,rfl⟩;rw[V]at Jx CQ qX yi8;have HX9:=Z V;clear V ht pC;go_wp2_with fail;rw[HX9.o];refine(Zy p rs j d 125 y9 Jx.o (by decide)).mono ?_;rintro e y10 ⟨hq,hx⟩;rw[zl g]at hq;obtain⟨rfl,hs⟩:=hq;have HTZ:=Z (Eb.o.trans (HGE.o _ _ g));have U5:=Z hs;have UF:=qX.trans hx;have S:=Z (CQ.o.but hx J);have yi9:=Z (yi8.o.but hx J);have hCZ:=S.o.lt;clear hs g;go_wp2;rw[HTZ.o];refine zU (v := .iface 159 (zX C 0)) ?_ rfl ?_
             .exact RU
             obtain⟨ga2,gc2,hv2,yiz⟩:=yi9.o.row;cases hv2;have NV:xS (C+1) (y10:Nat) y10 y10:=vX (X _);exact⟨⟨⟨_,rfl,[],C,_,_,ws,rfl,hwC,hCZ,S.o.c0,S.o.c1,S.o.c2,(HOV.o ▸  S.o.c3),S.o.c4,S.o.c5,yiz.keep NV J (X _),zt.keep NV J (X _) _ _ yi9.o.nodes,rfl⟩,rfl,rfl,U5.o⟩,UF⟩
           .have xog:(zC rs j==125)=false:=(by simp[g]);have xgv:=Z g;clear g;obtain⟨n',pC⟩:∃n',n=n'+1:=⟨n - 1,Sk⟩;have ht:=ZC.o;rw[pC,jX,zL (λe=>xgv.o e.1),then_assoc]at ht;exact pB
       .rw[zL hw]at hq;have ht:=HTY.o;rw[FT hw]at ht;have zdq:=Z ht;clear ht hw;have HQ:=Z hq;obtain⟨bf,rfl,_,_⟩:=hq;go_wp2;exact⟨rfl,by rw[zdq.o];exact HQ.o,yeq⟩
   .rw[zL P]at hs;rw[show(zC rs J3==44)=false by simp[P]];have L:=Z hs;have ht:=zd9.o;rw[zl P]at ht;have F:=Z ht;clear ht hs P hx6 zd9 yzk;go_wp2_with fail;refine(Zy p rs J3 d 125 x6 L.o zj).mono ?_;rintro e x7 ⟨hq,D⟩;have Q:=ye9.trans D;have zdz:=Z (yez.o.but D J);by_cases hw:zC rs J3=125
    .rw[zl hw]at hq;obtain⟨rfl,hs⟩:=hq;have ht:=F.o;rw[KC hw]at ht;have A:=Z ht;have M:=Z hs;clear ht hs hw D F L;have k0:=zdz.o.c0;have k1:=zdz.o.c1;have V:=Q.size;go_wp2;rw[A.o];have CT:=λo=>(z8 (x7:Nat) x7).alloc (X _) o
     refine zU (v := .iface 170 (x7,0)) ?_ rfl ?_
     .exact RU
     exact⟨⟨⟨_,rfl,[],(x7:Nat),rfl,V,zY,zg _ _ _ _ _,zg _ _ _ _ _,rfl⟩,rfl,rfl,M.o.below (CT _)⟩,Q.below (CT _)⟩
    .rw[zL hw]at hq;have ht:=F.o;rw[FT hw]at ht;have A:=Z ht;clear ht hw;have HQ:=Z hq;obtain⟨bf,rfl,_,_⟩:=hq;go_wp2;exact⟨rfl,by rw[A.o];exact HQ.o,Q⟩
 .rw[zL hw]at hq;have ht:=HTW.o;rw[FT hw]at ht;have zd6:=Z ht;clear ht hw;have HQ:=Z hq;obtain⟨bf,rfl,_,_⟩:=hq;go_wp2;exact⟨rfl,by rw[zd6.o];exact HQ.o,ye2⟩
variable{cap:Nat}
def uF:∀(f:Fo) (s:Wd),f.xX=some s->∃pre:Fo,f=pre.app (.text s .nil)/\(f.vS=true->pre.vS=true)/\∀t,f.xV t=pre.app (.text (s++t) .nil)
 |.nil,s,h=>xp
 |.text x .nil,s,h=>by
  have e:x=s:=gW;subst e;exact⟨.nil,rfl,λ_=>rfl,λt=>rfl⟩
 |.text x (.text y r),s,h=>by
  obtain⟨pre,h1,h2,h3⟩:=uF (.text y r) s gW;exact JG
 |.text x (.hash r),s,h=>by
  obtain⟨pre,h1,h2,h3⟩:=uF (.hash r) s gW;exact JG
 |.text x (.put a b r),s,h=>by
  obtain⟨pre,h1,h2,h3⟩:=uF (.put a b r) s gW;exact JG
 |.text x (.num a b r),s,h=>by
  obtain⟨pre,h1,h2,h3⟩:=uF (.num a b r) s gW;exact JG
 |.text x (.br a b c d e g r),s,h=>by
  obtain⟨pre,h1,h2,h3⟩:=uF (.br a b c d e g r) s gW;exact JG
 |.text x (.uB a b c r),s,h=>by
  obtain⟨pre,h1,h2,h3⟩:=uF (.uB a b c r) s gW;exact JG
 |.hash r,s,h=>by
  obtain⟨pre,h1,h2,h3⟩:=uF r s gW;exact⟨.hash pre,Y2,λm=>h2 m,λt=>DD⟩
 |.put a b r,s,h=>by
  obtain⟨pre,h1,h2,h3⟩:=uF r s gW;exact⟨.put a b pre,Y2,λm=>h2 m,λt=>DD⟩
 |.num a b r,s,h=>by
  obtain⟨pre,h1,h2,h3⟩:=uF r s gW;exact⟨.num a b pre,Y2,λm=>h2 m,λt=>DD⟩
 |.br a b c d e g r,s,h=>by
  obtain⟨pre,h1,h2,h3⟩:=uF r s gW;exact⟨.br a b c d e g pre,Y2,λm=>h2 m,λt=>DD⟩
 |.uB a b c r,s,h=>by
  obtain⟨pre,h1,h2,h3⟩:=uF r s gW;exact⟨.uB a b c pre,Y2,λm=>(by cases m),λt=>DD⟩
def kV:∀(f:Fo) (t:Wd),f.xX=none->f.xV t=f.app (.text t .nil)
 |.nil,t,h=>rfl
 |.text x .nil,t,h=>xp
 |.text x (.text y r),t,h=>by rw[Fo.xV,kV (.text y r) t gW];rfl;simp
 |.text x (.hash r),t,h=>by rw[Fo.xV,kV (.hash r) t gW];rfl;simp
 |.text x (.put a b r),t,h=>by rw[Fo.xV,kV (.put a b r) t gW];rfl;simp
 |.text x (.num a b r),t,h=>by rw[Fo.xV,kV (.num a b r) t gW];rfl;simp
 |.text x (.br a b c d e g r),t,h=>by rw[Fo.xV,kV (.br a b c d e g r) t gW];rfl;simp
 |.text x (.uB a b c r),t,h=>by rw[Fo.xV,kV (.uB a b c r) t gW];rfl;simp
 |.hash r,t,h=>DV
 |.put a b r,t,h=>DV
 |.num a b r,t,h=>DV
 |.br a b c d e g r,t,h=>DV
 |.uB a b c r,t,h=>DV
def gy(g:Fo)(i:g ≠ .nil):∀f:Fo,(f.app g).xX=g.xX
 |.nil=>rfl
 |.text x r=>by
  have l:=gy g i r;rw[<-l];show Fo.xX (.text x (r.app g))=_;have j:r.app g ≠ .nil:=by
   cases r<;>simp[Fo.app];exact i
  cases h:r.app g<;>first|rfl|exact absurd h j
 |.hash r=>gy g i r
 |.put a b r=>gy g i r
 |.num a b r=>gy g i r
 |.br a b c d e k r=>gy g i r
 |.uB a b c r=>gy g i r
def zt.split{g:Fo}:∀(f:Fo) (vs:List zx),zt lo hi w vs (f.app g)->∃us xs,vs=us++xs/\zt lo hi w us f/\zt lo hi w xs g
 |.nil,vs,h=>⟨[],vs,rfl,rfl,h⟩
 |.text t r,vs,h=>nE
 |.hash r,vs,h=>nE
 |.put n a r,vs,h=>nu
 |.num n a r,vs,h=>nu
 |.br n a f o c l r,vs,h=>by
  obtain⟨vt,b,i,j,ws,rfl,l1,l2,c0,c1,c2,c3,c4,c5,d,e,hr⟩:=h;obtain⟨us,xs,rfl,h1,h2⟩:=zt.split r vt hr;exact⟨_,xs,rfl,⟨us,b,i,j,ws,rfl,l1,l2,c0,c1,c2,c3,c4,c5,d,e,h1⟩,h2⟩
 |.uB k a m r,vs,h=>by
  obtain⟨vt,ma,mc,ws,rfl,d,hm,hr⟩:=h;obtain⟨us,xs,rfl,h1,h2⟩:=zt.split r vt hr;exact⟨_,xs,rfl,⟨us,ma,mc,ws,rfl,d,hm,h1⟩,h2⟩
def zt.one(h:zt lo hi w [v] f)(g:f.len=1)(hm:f.vS=true)(i:f.xX=none) :
  ∃T x,v = .iface T x/\((T=169/\x = .agg #[])\/(T=170/\∃b,x = .pointer (some ⟨b,0,none⟩))\/(T=173/\∃b,x = .pointer (some ⟨b,0,none⟩))\/(T=159/\∃b,x = .pointer (some ⟨b,0,none⟩))):=by
 cases f with
 |nil=>cases g
 |text t r =>
  have:r.len=0:=by simpa[Fo.len]using g
  cases r<;>simp[Fo.len]at this;cases i
 |hash r =>
  obtain⟨d,e,_⟩:=h;cases e;exact⟨_,_,rfl,.inl ⟨rfl,rfl⟩⟩
 |put n a r =>
  obtain⟨d,b,e,_⟩:=h;cases e;exact⟨_,_,rfl,.inr (.inl ⟨rfl,b,rfl⟩)⟩
 |num n a r =>
  obtain⟨d,b,e,_⟩:=h;cases e;exact⟨_,_,rfl,.inr (.inr (.inl ⟨rfl,b,rfl⟩))⟩
 |br n a f o c p r =>
  obtain⟨d,b,j,l,ws,e,_⟩:=h;cases e;exact⟨_,_,rfl,.inr (.inr (.inr ⟨rfl,b,rfl⟩))⟩
 |uB k a m r=>cases hm
def Ce{x:Wd}{r:Fo}(hr:r ≠ .nil):(Fo.text x r).xX=r.xX:=by
 cases r<;>first|rfl|exact absurd rfl hr
def bw:∀f:Fo,f.xX=none->f.vS=true->f ≠ .nil->∃pre g:Fo,f=pre.app g/\g.len=1/\g.vS=true/\g.xX=none/\pre.vS=true
 |.nil,_,_,h=>absurd rfl h
 |.text x r,h,hm,_=>by
  by_cases hr:r = .nil
  .subst hr;cases h
  .rw[Ce hr]at h;obtain⟨pre,g,h1,h2,i,j,l⟩:=bw r h hm hr;exact⟨.text x pre,g,Y2,h2,i,j,l⟩
 |.hash r,h,hm,_=>by
  by_cases hr:r = .nil
  .exact Ib
  .obtain⟨pre,g,h1,h2,i,j,l⟩:=bw r h hm hr;exact⟨.hash pre,g,Y2,h2,i,j,l⟩
 |.put a b r,h,hm,_=>by
  by_cases hr:r = .nil
  .exact Ib
  .obtain⟨pre,g,h1,h2,i,j,l⟩:=bw r h hm hr;exact⟨.put a b pre,g,Y2,h2,i,j,l⟩
 |.num a b r,h,hm,_=>by
  by_cases hr:r = .nil
  .exact Ib
  .obtain⟨pre,g,h1,h2,i,j,l⟩:=bw r h hm hr;exact⟨.num a b pre,g,Y2,h2,i,j,l⟩
 |.br a b c d e k r,h,hm,_=>by
  by_cases hr:r = .nil
  .exact Ib
  .obtain⟨pre,g,h1,h2,i,j,l⟩:=bw r h hm hr;exact⟨.br a b c d e k pre,g,Y2,h2,i,j,l⟩
 |.uB a b c r,h,hm,_=>JV
def kD.yiy{base:Nat}{ws:List zx}(h:kD base e 1 v acc ws w)(hm:acc.vS=true)(c:acc ≠ .nil) :
  match acc.xX with
  |some s=>∃us,ws=us++[.iface 166 (zv s)]/\us.length+1=acc.len
  |none=>∃us T x,ws=us++[.iface T x]/\us.length+1=acc.len/\((T=169/\x = .agg #[])\/(T=170/\∃b,x = .pointer (some ⟨b,0,none⟩))\/(T=173/\∃b,x = .pointer (some ⟨b,0,none⟩))\/(T=159/\∃b,x = .pointer (some ⟨b,0,none⟩))):=by
 have hn:=h.nodes;cases j:acc.xX with
 |some s =>
  obtain⟨pre,h1,h2,_⟩:=uF acc s j;have d:=h2 hm;rw[h1]at hn;obtain⟨us,xs,rfl,f,a⟩:=zt.split _ _ hn;obtain⟨n,rfl,e⟩:=a;have e2:n=[]:=e;subst e2;refine⟨us,rfl,?_⟩;rw[zt.count _ _ f d,h1,Fo.jZ];rfl
 |none =>
  obtain⟨pre,g,h1,h2,i,k,l⟩:=bw acc j hm c;rw[h1]at hn;obtain⟨us,xs,rfl,f,a⟩:=zt.split _ _ hn;have hx:=zt.count _ _ a i;rw[h2]at hx;match xs,hx with
  |[x],_ =>
   obtain⟨T,y,rfl,m⟩:=a.one h2 i k;refine⟨us,T,y,rfl,?_,m⟩;rw[zt.count _ _ f l,h1,Fo.jZ,h2]
def kD.RP{base:Nat}{g:Nat}{ws us:List zx}{s:Wd}(h:kD base e 1 (.slice (g,0) acc.len cap) acc ws w)(hm:acc.vS=true)(m:acc.xX=some s)
  (l:ws=us++[.iface 166 (zv s)]) (u:us.length+1=acc.len) (t:Wd) :
  kD base e 1 (.slice (g,0) (acc.xV t).len cap) (acc.xV t) (us++[.iface 166 (zv (s++t))]) (w.setCell (g,us.length) (.iface 166 (zv (s++t))))/\(acc.xV t).len=acc.len:=by
 obtain⟨pre,h1,h2,i⟩:=uF acc s m;have n:=h2 hm;have a:(acc.xV t).len=acc.len:=by
  rw[i,h1,Fo.jZ,Fo.jZ];rfl
 obtain⟨f,c⟩:=h;obtain⟨d,b⟩:=f.stored us.length (.iface 166 (zv (s++t)));rw[a];refine⟨⟨?_,λW j=>?_⟩,rfl⟩
 .rw[a];rw[l]at d;simpa[List.set_append]using d
 .have hn:=c W ⟨zZ b.size j.1,λk k1 k2 k3=>(j.2 k k1 (ze k2 b.size) k3).trans (b.block k k2 (by simpa[qb]using k3))⟩;rw[h1,l]at hn;obtain⟨q,xs,he,o,p⟩:=zt.split _ _ hn;obtain⟨r,rfl,e2⟩:=p;have e3:r=[]:=e2;subst e3;obtain⟨rfl,_⟩:=List.append_inj' he rfl;rw[i];exact zt.app (g := .text (s++t) .nil) ⟨_,rfl,rfl⟩ _ _ o
def Ww{s:Wd}(h:f.vS=true)(b:f.xX=some s)(t:Wd):(f.xV t).vS=true/\(f.xV t).xX=some (s++t):=by
 obtain⟨pre,h1,h2,a⟩:=uF f s b;rw[a];exact⟨Fo.kX _ _ (h2 h) rfl,gy _ zY _⟩
def Eo{msg:Option jK}{i:Nat}(h:Yv rs msg i = .ok (f,j)):f.xX=none/\j<=rs.length:=by
 have key:∀q:Nat,zC rs q=125->q+1<=rs.length:=λq v=>by
  apply zi;intro hc;rw[jD J]at v;cases v
 unfold Yv at h;obtain⟨u,a,h1,h2⟩:=zS h;obtain⟨nm,b,x,p⟩:=zS h2;clear h h1 h2 x;split at p
 .obtain⟨u,z,s,e⟩:=zS p;have:=xg s;cases e;exact Ry
 .obtain⟨B,c,s,e⟩:=zS p;split at e
  .obtain⟨u,z,t,r⟩:=zS e;have:=xg t;cases r;exact Ry
  .split at e
   .cases e
   .obtain⟨u,d,t,r⟩:=zS e;obtain⟨o,l,A,g⟩:=zS r;obtain⟨y,q,w,k⟩:=zS g;obtain⟨u,z,m,n⟩:=zS k;have:=xg m;cases n;exact Ry
def OD(l:List Int):(l.flatMap enc).length<=4*l.length:=mG
def T7:∀(n:Nat) (l:List Int),l.length<=n->(yV l).1.length<=(yV l).2:=r8
def eC(rs:List Int)(num:Bool)(i:Nat):(uU rs num i).1.length+4*i<=4*(uU rs num i).2:=by
 unfold uU;split
 .exact oq
 split
 .exact p7
 split
 .exact p8
 .have h1:=OD (yV (rs.drop (i+1))).1;have h2:=T7 _ (rs.drop (i+1)) (X _);exact ni
def OB(s:Wd)(w:z7):(zA (.iface 166 (zv s)) 153 166 true).run prog w = .ok (.tuple #[zv s,.bool true]) w:=xK
def OC(w:z7):(zA (.iface 169 (.agg #[])) 153 166 true).run prog w = .ok (.tuple #[.string ⟨#[]⟩,.bool false]) w:=xK
def T8(b:Nat)(w:z7):(zA (.iface 170 (b,0)) 153 166 true).run prog w = .ok (.tuple #[.string ⟨#[]⟩,.bool false]) w:=xK
def T9(b:Nat)(w:z7):(zA (.iface 173 (b,0)) 153 166 true).run prog w = .ok (.tuple #[.string ⟨#[]⟩,.bool false]) w:=xK
def eE(b:Nat)(w:z7):(zA (.iface 159 (b,0)) 153 166 true).run prog w = .ok (.tuple #[.string ⟨#[]⟩,.bool false]) w:=xK
def AD(B p:Nat)(x:Int)(u:FrameMode)(w:z7)(hc:zy w B 0 (p,0))(hx:zy w p 2 x)(b:w.frozen? (p,2)=false) :
  CallsD prog 92 #[(B,0)] u w λe a w'=>a=u/\(e = .returned (.tuple #[])/\w'=w.setCell (p,2) (.int .i64 (yk9 (x - 1)))):=by
 go_enter_d func92,ntmps92
 go_wp2;go_end0
 exact⟨rfl,rfl⟩
def Tz{msg:Option jK}{num:Bool}{i:Nat}(hn:1<=n):∃a,n=a+1/\qC rs msg num n acc i =
  if zC rs i = -1\/zC rs i=125 then .ok (acc,i)
  else if zC rs i=123 then (Yv rs msg i).then λf j=>qC rs msg num a (acc.app f) j
  else if zC rs i=35/\num=true then qC rs msg num a (acc.app (.hash .nil)) (i+1)
  else qC rs msg num a (acc.xV (uU rs num i).1) (uU rs num i).2:=by
 obtain⟨a,rfl⟩:∃a,n=a+1:=⟨n - 1,J⟩;exact⟨a,rfl,by rw[qC]⟩
def GR(p:Nat)(rs:List Int)(d:Nat)(msg:Option jK)(hd5:d<=50)(yix:∀j W,xD p rs j (d+1) W->GN p W->zE prog 93 #[(p,0)] W (ye1 p rs (d+1) (Yv rs msg j) W))(we:∀m,msg=some m->BV m) :
  zd4 p rs d (λnum i=>qC rs msg num (rs.length+1) .nil i):=by
 intro num i w h he;have hmf:∀(fn:Fn) (first cap:Array zx) (w:z7),(gP fn first cap).run prog w = .ok (.func fn first cap) w:=λ_ _ _ _=>rfl
 obtain⟨HH,aI,xgu,xgq⟩:=hdd h he yix (λj f q (e:Yv rs msg j = .ok (f,q))=>AJ we e);have M3:=h.lt;have Sj:=Z h.len;obtain⟨R,hR⟩:=zo (qC rs msg num (rs.length+1) .nil i);show zE _ _ _ w (ye0 p rs d (qC rs msg num (rs.length+1) .nil i) w);rw[hR];have HTW:=Z hR.symm;clear he yix hR we;obtain⟨B,hB⟩:=zo (w:Nat);have HB:=Z hB;have hpB:p<B:=J;have FL:=λo=>(z8 (w:Nat) w).alloc (X _) o
 have xgk:=Z h;have g6:=h.deep;have z6:=h.z2;clear h;go_enter_defers func57,ntmps57;go_wp2_with fail;refine fP ?_;intro W hW;have hd1:yU.wrap ((d:Int)+1)=((d+1:Nat):Int):=qK;have F1:xD p rs i (d+1) W/\xj p w W/\zy W B 0 (p,0)/\B<(W:Nat):=by
  rw[hW,show((d:Int)+1)=((d+1:Nat):Int)from J];have hs:=xgk.o.ycf (d+1) J;have dw:(w.setCell (zX p 2) ((d+1:Nat):Int)).heap.size=B:=by rw[<-HB.o];simp[xW]
  have y:=λo=>(z8 (w.setCell (p,2) ((d+1:Nat):Int)).heap.size (w.setCell (p,2) ((d+1:Nat):Int))).alloc (X _) o
  have hcm:=λc t fr i=>zg (w.setCell (p,2) ((d+1:Nat):Int)) c t fr i
  rw[dw]at hcm;exact⟨hs.below (y _),(xj.set p w 2 _).below (y _),hcm _ _ _ _,by rw[<-dw];simp⟩
 obtain⟨yiv,UP,PB,hBW⟩:=F1;have HSW:=Z yiv;clear yiv hW g6 z6 FL;go_loopw [4] (λv wr=>∃acc j n ws,xD p rs j (d+1) wr/\xj p w wr/\zy wr B 0 (p,0)/\kD (B+1) 153 1 v acc ws wr/\acc.vS=true/\R=qC rs msg num n acc j/\rs.length+1<=n+j/\1<=n/\acc.len<=j/\∀s,acc.xX=some s->s.length<=4*j) (λv wr=>rs.length+2 - St p wr)
 case atStart=>exact⟨.nil,i,rs.length+1,[],HSW.o,UP,PB,kD.start _ _ _ _,rfl,HTW.o,J,J,zG _,λs e=>by cases e⟩
 case round =>
  obtain⟨acc,j,n,ws,hs,tE,pb,U2,aQ,hR,hfu,Nx,pE,S⟩:=hrel;obtain⟨n',pC,zmj⟩:=Tz (rs:=rs) (msg:=msg) (num:=num) (acc:=acc) (i:=j) Nx;rw[zmj]at hR;obtain⟨HSR,lx,HM,HR,HLA,HN⟩:=l6 hs U2 aQ hR S pC;have yb3:=hs.here;obtain⟨ga,gc,rfl,_⟩:=U2.row;clear hs U2 aQ hR S pC zmj;go_wp2_with fail;refine(gq p rs j (d+1) wr HSR.o).mono ?_;rintro e w1 ⟨rfl,L⟩;have F:=Z (HSR.o.below L);have PB1:zy w1 B 0 (zX p 0):=(L.cell (Y _ _ pb)).trans pb;have CJ:=tE.below L;have YF:=Z (lx.o.but (xj.of (p:=p) L) J);have vjj:B<(w1:Nat):=Y _ _ PB1;have hw1:=L.size;clear L pb;obtain⟨r,hr⟩:=zo (zC rs j);rw[hr];have HQR:=Z hr;have wF:=HR.o;rw[hr]at wF;have D:=Z wF;clear wF HR hr;by_cases A:r = -1\/r=125
  .have HT:=Z (D.o.trans (zl A));have Yt:yk9 (((d+1:Nat):Int) - 1)=(d:Int):=(by rw[show((d+1:Nat):Int) - 1=(d:Int)by omega];simp[yk9];omega);have HD2:=Z Yt;clear D Yt;obtain A|A:=A;all_goals
    subst A;go_wp2_with fail;refine jJ (f:=92) (args:=#[(zX B 0)]) zY dz ?_;refine(AD B p ((d+1:Nat):Int) _ _ PB1 F.o.deep F.o.z2).mono ?_;rintro e u' Fz ⟨rfl,rfl,rfl⟩;simp only[C4];refine⟨.slice ga acc.len gc,by simp[yk,results57,go_sem],?_⟩;rw[HT.o,HD2.o];have hG:=YF.o.but (xj.set p w1 2 d) J;obtain⟨a,c,hv,Y4⟩:=hG.row;cases hv;have dw:=CJ.size;have hk:xS (B+1) (w1.setCell (p,2) d).heap.size (w1.setCell (p,2) d) (w1.setCell (p,2) d):=vX (X _);exact⟨⟨⟨_,_,rfl,ws,Y4.keep hk J (X _),zt.keep hk J (X _) _ _ hG.nodes⟩,HM.o,F.o.ycf d J⟩,CJ.KK 2 _⟩
  .have I:=Z (D.o.trans (zL A));have e1:(r==-1)=false:=(by simpa using λe=>A (.inl e));have e2:(r==125)=false:=(by simpa using λe=>A (.inr e));clear A D;by_cases G:r=123
   .have D:=Z (I.o.trans (zl G));clear I e1 e2;subst G;obtain⟨ra,hra⟩:=zo (Yv rs msg j);have K:=xgu.o j w1 F.o (aI.o.but CJ);rw[hra]at K;have M:=Z K;have hr3:=D.o;rw[hra]at hr3;have Eb:=Z hr3;have HRA:=Z hra;clear K hr3 D hra;go_wp2_with fail;refine M.o.mono ?_;rintro e w2 ⟨hq,gN⟩;have Ut:=CJ.trans gN;have EY:zy w2 B 0 (zX p 0):=gN.cell PB1 DQ;clear M;cases ra with
    |error en =>
     obtain⟨en1,en2⟩:=en;have HQ:=Z hq;obtain⟨bf,rfl,f1,f2,⟨dx,f3,f4⟩,f5,f6⟩:=hq;have HTE:=Z (show R = .error (en1,en2)from Eb.o);go_wp2;refine jJ (f:=92) (args:=#[(zX B 0)]) zY (by simp[go_sem]) ?_;refine(AD B p dx _ _ EY f3 f4).mono ?_;rintro e u' Fz ⟨rfl,rfl,rfl⟩;simp only[C4,vu,raised];rw[HTE.o];exact⟨⟨bf,rfl,by rw[zN,zL (λe=>Ic)];exact f1,by rw[zN,zL (λe=>Ic)];exact f2,⟨_,by rw[zN,zl rfl,f3];rfl,by rw[zO];exact f4⟩,f5,by simpa[xW]using f6⟩,Ut.KK 2 _⟩
    |ok fq =>
     obtain⟨f,q⟩:=fq;obtain⟨⟨v,rfl,V⟩,Q,AB,ZW⟩:=hq;have y:=Eo HRA.o;have ud:=xgq.o _ _ _ HRA.o;obtain⟨T,x,rfl,hT⟩:=V.one Q AB y.1;have D3:=Z V;have Cd:=Z (show R=qC rs msg num n' (acc.app f) q from Eb.o);have hql:=y.2;have P:∀s,(acc.app f).xX=some s->s.length<=4*q:=λs e=>by
      rw[gy f (λe=>by rw[e]at Q;cases Q) acc,y.1]at e;cases e
     obtain⟨yiu,xgj,K1,Jx⟩:=hdd P (Fo.kX acc f HM.o AB) (YF.o.but gN J) ZW;have JJ:=gN.size;have hFL:=Z Q;clear V ZW Eb hT y P Q AB gN;go_wp2_with (at_builtin;refine uI ?_);intro E fE;have y:zJ w2 E:=D2;have ND:zy E (w2:Nat) 0 (.iface T x):=D6;have GZ:=Z (Jx.o.below y);have CK:=Ut.below y;have PB3:zy E B 0 (p,0):=(y.cell (Y _ _ EY)).trans EY;have z:=Z (K1.o.but (xj.of (p:=p) y) J);have H:=y.size;have HN3:=Z (zt.keep (lo:=(w1:Nat)) (hi:=(w2:Nat)) (w:=w2) (w':=E) ⟨y.size,λk _ hk=>y.block k hk⟩ (X _) y.size _ _ D3.o);clear fE;refine YL bh rfl _ _ rfl (B+1) (w1:Nat) _ acc f ws rfl z.o ⟨(w2:Nat),0,none⟩ 1 1 [.iface T x] rfl rfl JP ?h1a2 (by exact HN3.o) J JL hFL.o Qu J ?h1a5
     case h1a2 =>
      exact jr
     intro v4 w4 Vy Q8;have uT:∀k,(.slice ga acc.len gc:zx).ownBlock=some k->B+1<=k:=λk hk=>(YF.o.lt k hk).1
     have Vg:=Z (GZ.o.grown Q8 (λk hk=>mF));have RM:=CK.grown Q8 (λk hk=>by have:=uT k hk;omega);have PB4:=Q8.cell PB3 (λe=>by have:=uT B e.symm;omega);have RL:=Z Vy;obtain⟨ga',gc',rfl,_⟩:=Vy.row;clear Vy Q8 uT;go_wp2;go_roundw
     case rel=>exact⟨acc.app f,q,n',_,Vg.o,RM,PB4,RL.o,xgj.o,Cd.o,RA,by have:=HN.o;omega,by rw[Fo.jZ,hFL.o];omega,yiu.o⟩
     case measure =>
      exact Pp
   .have D:=Z (I.o.trans (zL G));have e3:(r==123)=false:=(by simpa using G);clear G I;by_cases O:r=35/\num=true
    .have Cd:=Z (D.o.trans (zl O));clear D e1 e2 e3;obtain⟨xgg,xgf⟩:=O;subst xgg;subst xgf;have hjl:j<rs.length:=by
      apply zi;intro hc;have:=HQR.o;rw[jD J]at this;cases this
     have g5:=F.o.at_;have z5:=F.o.z1;go_wp2_with (at_builtin;refine uI ?_);intro E fE;rw[show yk9 ((j:Int)+1)=((j+1:Nat):Int)by have:=Sj.o;simp[yk9];omega]at fE;have hmv:=F.o.move (j+1) J;have y:yX (w1.setCell (zX p 1) ((j+1:Nat):Int)).heap.size (w1.setCell (zX p 1) ((j+1:Nat):Int)) E:=D2;have dw:(w1.setCell (p,1) ((j+1:Nat):Int)).heap.size=(w1:Nat):=ZA;have ND:zy E (w1:Nat) 0 (.iface 169 (.agg #[])):=(by rw[fE,<-dw];exact zg _ _ _ _ _);have GZ:=Z (hmv.below y);have CK:=(CJ.KK 1 ((j+1:Nat):Int)).below y;have EY:zy (w1.setCell (zX p 1) ((j+1:Nat):Int)) B 0 (zX p 0):=(by rw[zN,zL (λe=>Ic)];exact PB1);have PB3:zy E B 0 (p,0):=(y.cell (Y _ _ EY)).trans EY;have z:=Z ((YF.o.but (xj.set p w1 1 ((j+1:Nat):Int)) J).but (xj.of (p:=p) y) J);have H:=y.size;clear fE;refine YL bh rfl _ _ rfl (B+1) (w1:Nat) _ acc (.hash .nil) ws rfl z.o ⟨(w1:Nat),0,none⟩ 1 1 [.iface 169 (.agg #[])] rfl rfl JP ?h2a2 DN J JL (show Fo.len (.hash .nil)=1 from rfl) Qu (by omega) ?h2a5
     case h2a2 =>
      exact jr
     intro v4 w4 Vy Q8;have uT:∀k,(.slice ga acc.len gc:zx).ownBlock=some k->B+1<=k:=λk hk=>(YF.o.lt k hk).1
     have Vg:=Z (GZ.o.grown Q8 (λk hk=>mF));have RM:=CK.grown Q8 (λk hk=>by have:=uT k hk;omega);have PB4:=Q8.cell PB3 (λe=>by have:=uT B e.symm;omega);have RL:=Z Vy;obtain⟨ga',gc',rfl,_⟩:=Vy.row;clear Vy Q8 uT;go_wp2;go_roundw
     case rel=>exact⟨acc.app (.hash .nil),(j+1),n',_,Vg.o,RM,PB4,RL.o,(Fo.kX _ _ HM.o rfl),Cd.o,RA,by have:=HN.o;omega,by rw[Fo.jZ,(show Fo.len (.hash .nil)=1 from rfl)];omega,λs e=>by rw[gy _ zY acc]at e;cases e⟩
     case measure =>
      exact Pp
    .have I:=Z (D.o.trans (zL O));clear D;have hjl:j<rs.length:=by
      apply zi;intro hc;have:=HQR.o;rw[jD J]at this;rw[<-this]at e1;cases e1
     have HTX:=Z (wO p rs j (d+1) num w1 F.o hjl);obtain⟨t,ht⟩:=zo ((uU rs num j).1);obtain⟨q,hq⟩:=zo ((uU rs num j).2);have ud:j<q:=(by have:=VO rs num j;omega);have htl:t.length+4*j<=4*q:=(by have:=eC rs num j;rw[ht,hq]at this;exact this);have hql:q<=rs.length:=(by have:=(OQ (num:=num) hjl).2;omega);have hR5:=I.o;rw[ht,hq]at HTX hR5;have Eb:=Z hR5;have hl0:=Sj.o;clear ht hq hR5 I;have C:(r==35)=false\/((r==35)=true/\num=false):=by
      by_cases h:r=35
      .right;exact⟨Uw,by cases num;rfl;exact absurd ⟨h,rfl⟩ O⟩
      .left;simp[h]
     clear O;by_cases U:acc.len=0
     .have hl:acc.xX=none:=by
       cases acc<;>simp[Fo.len]at U;rfl
      have gC:decide ((0:Int)<(acc.len:Int))=false:=zV;have Nx:decide (0<acc.len)=false:=zV;have Cd:=Z (show R=qC rs msg num n' (acc.app (.text t .nil)) q by rw[<-kV acc t hl];exact Eb.o);clear Eb hl U;rcases C with C|⟨C,rfl⟩
      .go_wp2_with fail;refine HTX.o.mono ?_;rintro e w2 ⟨rfl,ZW,gN⟩;have Ut:=CJ.trans gN;have EY:zy w2 B 0 (zX p 0):=gN.cell PB1 DQ;have K1:=Z (YF.o.but gN J);have Jx:=Z ZW;have JJ:=gN.size;clear ZW gN;go_wp2_with (at_builtin;refine uI ?_);intro E fE;have y:zJ w2 E:=(by rw[fE];exact(z8 _ _).alloc (X _) _);have ND:zy E (w2:Nat) 0 (.iface 166 (zv t)):=D6;have GZ:=Z (Jx.o.below y);have CK:=Ut.below y;have PB3:zy E B 0 (p,0):=(y.cell (Y _ _ EY)).trans EY;have z:=Z (K1.o.but (xj.of (p:=p) y) J);have H:=y.size;clear fE;refine YL bh rfl _ _ rfl (B+1) (w1:Nat) _ acc (.text t .nil) ws rfl z.o ⟨(w2:Nat),0,none⟩ 1 1 [.iface 166 (zv t)] rfl rfl JP ?h3a2 DN J JL (show Fo.len (.text t .nil)=1 from rfl) Qu J ?h3a5
       case h3a2 =>
        exact jr
       exact su
      .go_wp2_with fail;refine HTX.o.mono ?_;rintro e w2 ⟨rfl,ZW,gN⟩;have Ut:=CJ.trans gN;have EY:zy w2 B 0 (zX p 0):=gN.cell PB1 DQ;have K1:=Z (YF.o.but gN J);have Jx:=Z ZW;have JJ:=gN.size;clear ZW gN;go_wp2_with (at_builtin;refine uI ?_);intro E fE;have y:zJ w2 E:=(by rw[fE];exact(z8 _ _).alloc (X _) _);have ND:zy E (w2:Nat) 0 (.iface 166 (zv t)):=D6;have GZ:=Z (Jx.o.below y);have CK:=Ut.below y;have PB3:zy E B 0 (p,0):=(y.cell (Y _ _ EY)).trans EY;have z:=Z (K1.o.but (xj.of (p:=p) y) J);have H:=y.size;clear fE;refine YL bh rfl _ _ rfl (B+1) (w1:Nat) _ acc (.text t .nil) ws rfl z.o ⟨(w2:Nat),0,none⟩ 1 1 [.iface 166 (zv t)] rfl rfl JP ?h4a2 DN J JL (show Fo.len (.text t .nil)=1 from rfl) Qu J ?h4a5
       case h4a2 =>
        exact jr
       exact su
     .have gC:decide ((0:Int)<(acc.len:Int))=true:=(by simp;omega);have Nx:decide (0<acc.len)=true:=zV;have hlv:=YF.o.yiy HM.o (λe=>U (by rw[e];rfl));obtain⟨l,hl⟩:=zo acc.xX;rw[hl]at hlv;cases l with
      |none =>
       have Cd:=Z (show R=qC rs msg num n' (acc.app (.text t .nil)) q by rw[<-kV acc t hl];exact Eb.o);obtain⟨us,T,x,Kr,hul,hT⟩:=hlv;clear Eb hl;have has:∀W,(zA (.iface T x) 153 166 true).run prog W = .ok (.tuple #[.string ⟨#[]⟩,.bool false]) W:=by
        intro W;rcases hT with⟨rfl,rfl⟩|⟨rfl,b,rfl⟩|⟨rfl,b,rfl⟩|⟨rfl,b,rfl⟩
        .exact OC W
        .exact T8 b W
        .exact T9 b W
        .exact eE b W
       clear hT;obtain⟨g,N,hgv,hbg,hgl,XS⟩:=vK YF.o.1 J;obtain⟨rfl,rfl⟩:ga=some ⟨g,0,none⟩/\gc=N:=(by cases hgv;exact⟨rfl,rfl⟩);have zjd:zy w1 g (acc.len - 1) (.iface T x):=rD;have hi0:(acc.len:Int) - 1=((acc.len - 1:Nat):Int):=J;have lV:((acc.len - 1:Nat):Int)<(acc.len:Int):=J;have hi3:decide (((acc.len - 1:Nat):Int)<(acc.len:Int))=true:=zV;clear XS;clear Kr hul;rcases C with C|⟨C,rfl⟩
       .go_wp2_with fail;refine HTX.o.mono ?_;rintro e w2 ⟨rfl,ZW,gN⟩;have Ut:=CJ.trans gN;have EY:zy w2 B 0 (zX p 0):=gN.cell PB1 DQ;have K1:=Z (YF.o.but gN J);have Jx:=Z ZW;have JJ:=gN.size;have hlc:zy w2 g (acc.len - 1) (.iface T x):=gN.cell zjd (by show g≠p;omega);clear ZW gN;go_wp2_with (at_builtin;refine uI ?_);intro E fE;have y:zJ w2 E:=(by rw[fE];exact(z8 _ _).alloc (X _) _);have ND:zy E (w2:Nat) 0 (.iface 166 (zv t)):=D6;have GZ:=Z (Jx.o.below y);have CK:=Ut.below y;have PB3:zy E B 0 (p,0):=(y.cell (Y _ _ EY)).trans EY;have z:=Z (K1.o.but (xj.of (p:=p) y) J);have H:=y.size;clear fE;refine YL bh rfl _ _ rfl (B+1) (w1:Nat) _ acc (.text t .nil) ws rfl z.o ⟨(w2:Nat),0,none⟩ 1 1 [.iface 166 (zv t)] rfl rfl JP ?h5a2 DN J JL (show Fo.len (.text t .nil)=1 from rfl) Qu J ?h5a5
        case h5a2 =>
         exact jr
        exact sx
       .go_wp2_with fail;refine HTX.o.mono ?_;rintro e w2 ⟨rfl,ZW,gN⟩;have Ut:=CJ.trans gN;have EY:zy w2 B 0 (zX p 0):=gN.cell PB1 DQ;have K1:=Z (YF.o.but gN J);have Jx:=Z ZW;have JJ:=gN.size;have hlc:zy w2 g (acc.len - 1) (.iface T x):=gN.cell zjd (by show g≠p;omega);clear ZW gN;go_wp2_with (at_builtin;refine uI ?_);intro E fE;have y:zJ w2 E:=(by rw[fE];exact(z8 _ _).alloc (X _) _);have ND:zy E (w2:Nat) 0 (.iface 166 (zv t)):=D6;have GZ:=Z (Jx.o.below y);have CK:=Ut.below y;have PB3:zy E B 0 (p,0):=(y.cell (Y _ _ EY)).trans EY;have z:=Z (K1.o.but (xj.of (p:=p) y) J);have H:=y.size;clear fE;refine YL bh rfl _ _ rfl (B+1) (w1:Nat) _ acc (.text t .nil) ws rfl z.o ⟨(w2:Nat),0,none⟩ 1 1 [.iface 166 (zv t)] rfl rfl JP ?h6a2 DN J JL (show Fo.len (.text t .nil)=1 from rfl) Qu J ?h6a5
        case h6a2 =>
         exact jr
        exact sx
      |some s =>
       obtain⟨us,Kr,hul⟩:=hlv;have hsl:=HLA.o s hl;have has:=λW=>OB s W
       have HL:=Z hl;clear hl;have vjf:(9223372036854775807<s.length+t.length)=False:=zV;obtain⟨g,N,hgv,hbg,hgl,XS⟩:=vK YF.o.1 J;obtain⟨rfl,rfl⟩:ga=some ⟨g,0,none⟩/\gc=N:=(by cases hgv;exact⟨rfl,rfl⟩);have zjd:zy w1 g (acc.len - 1) (.iface 166 (zv s)):=rD;have hi0:(acc.len:Int) - 1=((acc.len - 1:Nat):Int):=J;have lV:((acc.len - 1:Nat):Int)<(acc.len:Int):=J;have hi3:decide (((acc.len - 1:Nat):Int)<(acc.len:Int))=true:=zV;clear XS;rcases C with C|⟨C,rfl⟩
       .exact pL
       .exact pL
def AE(p:Nat)(rs:List Int):∀(n:Nat),n<=5->zd4 p rs (5 - n) (Yu rs n)
 | 0,_=>GR p rs 5 none J (λj W hs he=>KE p rs j 6 none W hs he ⟨λ_=>rfl,λ_=>rfl⟩ (λm e=>gU) (λm e=>by cases e)) (λm e=>by cases e)
 |n+1,h=>by
  have a:=AE p rs n J;have e:5 - n=5 - (n+1)+1:=J;rw[e]at a;exact GR p rs (5 - (n+1)) (some (Yu rs n)) J (λj W hs he=>KE p rs j (5 - (n+1)+1) (some (Yu rs n)) W hs he ⟨λh=>xp,λh=>J⟩ (λm e=>by cases e;exact a) (λm e=>by cases e;exact M1 rs n)) (λm e=>by cases e;exact M1 rs n)
def OE{v m:Nat}(h:n<=m)(hn:n<=l.length)(h1:1<=n):uV (l.take m) n v=uV l n v:=by
 have e1:¬(l.take m).length<n:=by rw[xr];omega
 have e2:¬l.length<n:=J;have e3:(l.take m).tail.take (n - 1)=l.tail.take (n - 1):=by
  cases l with
  |nil=>simp
  |cons a t =>
   cases m with
   |zero=>omega
   |succ m=>simp only[qO,List.tail_cons,ypq];rw[zeu J]
 unfold uV;rw[zL e1,zL e2,e3]
def Ty(l:List UInt8)(n v:Nat):uV l n v=0\/(uV l n v=n/\n<=l.length):=by
 unfold uV;split
 .exact .inl rfl
 split
 .exact .inl rfl
 split
 .exact .inl rfl
 .exact .inr ⟨rfl,J⟩
def BK{m:Nat}(b:yR l≠0)(h:yR l<=m):yR (l.take m)=yR l:=by
 have c:∀k,1<=k->(l.take k).headD 0=l.headD 0:=λk f=>by
  cases l with
  |nil=>simp
  |cons a t =>
   cases k with
   |zero=>omega
   |succ k=>simp
 have key:∀n v,1<=n->yR l=uV l n v->(yR (l.take m)=uV (l.take m) n v)->yR (l.take m)=yR l:=λn v h1 e1 e2=>by
  rcases Ty l n v with q|⟨q1,q2⟩
  .rw[e1,q]at b;exact absurd rfl b
  .rw[e2,e1,OE (by rw[e1,q1]at h;exact h) q2 h1]
 have hm:1<=m:=J;have hd:=c m hm;have e:∀n v,_:=λn v=>@qB l n v
 have e':∀n v,_:=λn v=>@qB (l.take m) n v
 have d:=(l.headD 0).toNat_lt;by_cases c1:240<=(l.headD 0).toNat/\(l.headD 0).toNat<248
 .exact key 4 _ zj (qB (.inl ⟨c1.1,c1.2,rfl,rfl⟩)) (qB (.inl ⟨by rw[hd];exact c1.1,by rw[hd];exact c1.2,rfl,by rw[hd]⟩))
 by_cases c2:224<=(l.headD 0).toNat/\(l.headD 0).toNat<240
 .exact key 3 _ zj (qB (.inr (.inl ⟨c2.1,c2.2,rfl,rfl⟩))) (qB (.inr (.inl ⟨by rw[hd];exact c2.1,by rw[hd];exact c2.2,rfl,by rw[hd]⟩)))
 by_cases c3:192<=(l.headD 0).toNat/\(l.headD 0).toNat<224
 .exact key 2 _ zj (qB (.inr (.inr (.inl ⟨c3.1,c3.2,rfl,rfl⟩)))) (qB (.inr (.inr (.inl ⟨by rw[hd];exact c3.1,by rw[hd];exact c3.2,rfl,by rw[hd]⟩))))
 by_cases c4:(l.headD 0).toNat<128
 .exact key 1 _ zj (qB (.inr (.inr (.inr ⟨c4,rfl,rfl⟩)))) (qB (.inr (.inr (.inr ⟨by rw[hd];exact c4,rfl,by rw[hd]⟩))))
 .exfalso;apply b;unfold yR;dsimp only;rw[zL c1,zL c2,zL c3,zl J]
def OH:∀(n:Nat) (l:List UInt8),l.length<=n->xn (l.take (xn l).2)=xn l
 | 0,l,h=>by
  have:l=[]:=zF J;subst this;simp
 |n+1,l,h=>by
  by_cases b:l=[]
  .subst b;simp
  by_cases a:yR l=0
  .rw[fk a];simp[qJ]
  .have g:=(dA l).1;have f:=OH n (l.drop (yR l)) zV;have d:=kJ b a;obtain⟨m,hm⟩:=zo ((xn (l.drop (yR l))).2);rw[hm]at f d;rw[d];dsimp only;have hs:yR (l.take (yR l+m))=yR l:=BK a J;have c:l.take (yR l+m)≠[]:=by
    intro e;have h1:=congrArg qj e;rw[xr]at h1;have:=xI.2 b;rw[ur]at h1;omega
   rw[kJ c J,hs];have e1:(l.take (yR l+m)).take (yR l)=l.take (yR l):=(by rw[ypq,zeu J]);have e2:(l.take (yR l+m)).drop (yR l)=(l.drop (yR l)).take m:=by
    rw[List.drop_take,dD]
   rw[e1,e2,f,hm]
def Tx:∀(n:Nat) (l:List UInt8),l.length<=n->(xn l).2<=l.length
 | 0,l,h=>by
  have:l=[]:=zF J;subst this;simp[qJ]
 |n+1,l,h=>by
  by_cases b:l=[]
  .subst b;simp[qJ]
  by_cases a:yR l=0
  .rw[fk a];simp
  .have c:=(dA l).1;have d:=Tx n (l.drop (yR l)) zV;rw[kJ b a];simp at d|-;omega
def OI(s:ByteArray)(k:Nat)(h:(xn s.data.toList).2=k):Lib.runeCount (s.extract 0 k)=(xn s.data.toList).1.length:=by
 have e:(s.extract 0 k).data.toList=s.data.toList.take k:=by rw[kT]
 have c:=OH _ s.data.toList (X _);rw[h]at c;have a:=Tx _ s.data.toList (X _);rw[h,yz]at a;have b:(s.extract 0 k).size=k:=Ig;have:=(YY (s.extract 0 k) (s.extract 0 k).size 0 J J (by rw[qH,e,c,h,b];omega)).1;rw[qH,e,c]at this;exact this
def OL(s:ByteArray)(i:Nat)(hi:i<s.size):Utf8.decode (s.extract i s.size) 0=dV (s.data.toList.drop i):=by
 have a:(s.extract i s.size).size=s.size - i:=Ig;rw[Se _ 0 J,ub,toList_mk,qH]
def eH(h:XL 2 3 w)(hb:zJ w W):XL 2 3 W:=zl0
def M4(b:Nat)(w:z7):(zA (.iface 68 (b,0)) 20 68 true).run prog w = .ok (.tuple #[(b,0),.bool true]) w:=xK
def OM(w:z7):(zA .nilIface 20 68 true).run prog w = .ok (.tuple #[.pointer none,.bool false]) w:=xK
def Tv(A B:Nat)(w:z7):CallsD prog 55 #[(A,0),(B,0)] .returning w λe c w'=>e = .returned (.tuple #[])/\c = .returning/\w'=w:=by
 refine ypx func55 rfl λa cs b=>?_
 have ha:=OM;apply wpS_seq;apply wpS_region;simp[wpOpsS,go_sem,recoverD,b,ha,ntmps55,zex];refine wpS_of_wp ?_;go_wp2;cases a;simp_all [bodyPostS,yk,results55]
def Zm(A B b:Nat)(u v:zx)(a:List PanicEntry)(w:z7)(hA:zy w A 0 u)(d:w.frozen? (A,0)=false)(hB:zy w B 0 v)(g:w.frozen? (B,0)=false)(c:B≠A) :
  CallsD prog 55 #[(A,0),(B,0)] (.panicking ({ v := .iface 68 (b,0),recovered:=false }::a)) w λe i w' =>
   e = .returned (.tuple #[])/\i = .panicking ({ v := .iface 68 (b,0),recovered:=true }::a)/\w'=(w.setCell (A,0) (.slice none 0 0)).setCell (B,0) (.iface 68 (b,0)):=by
 have ha:=M4 b;refine ypx func55 rfl λj cs h=>?_
 apply wpS_seq;apply wpS_region;simp[wpOpsS,go_sem,recoverD,h,ha,ntmps55,zex];refine wpS_of_wp ?_;simp only[uJ,yu,yb,xu,xq,List.append_toArray,yw,kr,ZP];have f:zy (w.setCell (zX A 0) (.slice none 0 0)) B 0 v:=by rw[zN,zL (λe=>c (congrArg uh e).symm)];exact hB
 go_wp2;simp[bodyPostS,yk,results55]
variable{A:Nat}
def ui(l:List UInt8):Except (Nat×Nat) Fo :=
 if 1000<l.length then .error (1,0)
 else if (xn l).2<l.length then .error (2,(xn l).1.length)
 else match bV (yS l)with |.error e => .error e |.ok x => .ok x.1
def yy9(r:Except (Nat×Nat) Fo)(w:z7)(e:gG)(w':z7):Prop :=
 (match r with
  |.error (n,a)=>∃b,e = .returned (.tuple #[.slice none 0 0,.iface 68 (.pointer (some ⟨b,0,none⟩))])/\zy w' b 0 n/\zy w' b 1 a
  |.ok f=>(∃a c vs,e = .returned (.tuple #[.slice a f.len c,.nilIface])/\QJ (w:Nat) (w':Nat) w' a vs/\zt (w:Nat) (w':Nat) w' vs f)/\f.vS=true)/\zJ w w'
structure jU(A:Nat)(u v:zx)(w:z7):Prop where
 c0:zy w A 0 u
 c1:zy w (A+1) 0 v
 z0:w.frozen? (A,0)=false
 z1:w.frozen? (A+1,0)=false
def jU.keep(h:jU A u v w)(hb:∀k,k=A\/k=A+1->w'.heap[k]? = w.heap[k]?):jU A u v w' :=
 ⟨(yZ (a:=(A,0)) (hb A (.inl rfl))).trans h.c0,(yZ (a:=(A+1,0)) (hb _ (.inr rfl))).trans h.c1,
  (zb (a:=(A,0)) (hb A (.inl rfl))).trans h.z0,(zb (a:=(A+1,0)) (hb _ (.inr rfl))).trans h.z1⟩
def jU.lt(h:jU A u v w):A+1<(w:Nat):=Y w _ h.c1
def jU.below(h:jU A u v w)(hb:zJ w w'):jU A u v w' :=
 h.keep λk a=>hb.block k It
def jU.but(h:jU A u v w)(hb:xj p w w')(hp:A+1<p):jU A u v w' :=
 h.keep λk a=>hb.block k It J
def jU.V4{x:zx}(h:jU A u v w):jU A x v (w.setCell (A,0) x) :=
 ⟨Sz,Lv,by rw[zO];exact h.z0,by rw[zO];exact h.z1⟩
def jU.Bk{x:zx}(h:jU A u v w):jU A u x (w.setCell (A+1,0) x) :=
 ⟨by rw[zN,zL zY];exact h.c0,by rw[zN,zl rfl,h.c1];rfl,by rw[zO];exact h.z0,by rw[zO];exact h.z1⟩
def xD.xf2{i:Nat}{a:Option yi}{c:Nat}(h:xD p rs i d w)(hA:zy w A 0 (.slice a n c))(m:A≠p)(u:zx):xD p rs i d (w.setCell (A,0) u):=by
 obtain⟨⟨g,cap,r,h1,h2,s,o⟩,t,v,h7,h8,x,b,f,l⟩:=h;have ne:∀k:Nat,¬(⟨A,0,none⟩:yi)=⟨p,k,none⟩:=λk e=>m (congrArg uh e)
 refine⟨⟨g,cap,by rw[zN,zL (ne 0)];exact r,h1,h2,s,λj q=>?_⟩,by rw[zN,zL (ne 1)];exact t,by rw[zN,zL (ne 2)];exact v,Sg,Sf,x,b,f,l⟩;rw[zN,zL (λe=>by have:=o j q;rw[<-e,hA]at this;cases this)];exact o j q
def vM{a:z7}{b:Nat}{x:zx}(h:yX B a w)(hb:B<=b):yX B a (w.setCell (b,j) x) :=
 ⟨h.os,h.tape,h.output,zZ h.size ZA,λk c=>(zh _ _ _ _ (by show k≠b;omega)).trans (h.block k c)⟩
def zz1(l:List UInt8):∀r∈yS l,0<=r:=by
 have key:∀(n:Nat) (l:List UInt8),l.length<=n->∀r∈yS l,0<=r:=by
  intro n;induction n with
  |zero =>
   intro l h r hr;have:l=[]:=zF J;subst this;rw[qt]at hr;cases hr
  |succ n b =>
   intro l h r hr;by_cases a:l=[]\/yR l=0
   .rw[yS,dif_pos a]at hr;cases hr
   .have h1:l≠[]:=λe=>a (.inl e)
    have h2:yR l≠0:=λe=>a (.inr e)
    rw[dc h1 h2]at hr;rcases yp.1 hr with q|q
    .omega
    .exact b _ pg r q
 exact key _ l (X _)
def Jt(l:List UInt8):(yS l).length<=l.length:=by
 have key:∀(n:Nat) (l:List UInt8),l.length<=n->(yS l).length<=l.length:=by
  intro n;induction n with
  |zero =>
   intro l h;have:l=[]:=zF J;subst this;rw[qt];simp
  |succ n b =>
   intro l h;by_cases a:l=[]\/yR l=0
   .rw[yS,dif_pos a];simp
   .have h1:l≠[]:=λe=>a (.inl e)
    have h2:yR l≠0:=λe=>a (.inr e)
    rw[dc h1 h2];have:=b (l.drop (yR l)) pg;have:=xI.2 h1;simp at *;omega
 exact key _ l (X _)
def ON(w:z7)(hA:(w:Nat)=A):jU A (.slice none 0 0) .nilIface ((w.alloc (.cells #[.slice none 0 0] 61)).alloc (.cells #[.nilIface] 49)):=by
 have h1:(w.alloc (.cells #[.slice none 0 0] 61)).heap.size=A+1:=by simp[hA]
 have a:A<(w.alloc (.cells #[.slice none 0 0] 61)).heap.size:=J;refine⟨?_,?_,?_,?_⟩
 .rw[za _ _ _ a,<-hA];exact zg _ _ _ _ _
 .rw[<-h1];exact zg _ _ _ _ _
 .rw[zb (xA _ _ _ a)];subst hA;simp
 .rw[<-h1];simp
def eI(s:ByteArray)(w:z7)(hs:s.size<=9223372036854775807)(hT:XL 2 3 w)(hN:kb w) :
  zE prog 37 #[.string s] w (yy9 (ui s.data.toList) w):=by
 have hmf:∀(fn:Fn) (first cap:Array zx) (w:z7),(gP fn first cap).run prog w = .ok (.func fn first cap) w:=λ_ _ _ _=>rfl
 have HT:=Z hT;have HNA:=Z hN;obtain⟨A,hA⟩:=zo (w:Nat);have HA:=Z hA;clear hT hN;by_cases T:1000<s.size
 .have h1:decide ((1000:Int)<(s.size:Int))=true:=by simp;omega
  have h2:decide (1000<s.size)=true:=zV;have HR:=Z (show ui s.data.toList = .error (1,0)by unfold ui;rw[yz,zl T]);clear T;go_enter_defers func37,ntmps37;go_wp2;obtain⟨W,hW⟩:=zo (((w.alloc (.cells #[.slice none 0 0] 61)).alloc (.cells #[.nilIface] 49)).alloc (.cells #[.int .i64 1,.int .i64 0] 72));rw[hW];have l:jU A (.slice none 0 0) .nilIface W:=by
   rw[<-hW];exact(ON w hA).below ((z8 _ _).alloc (X _) _)
  have UP:yX A w W:=by
   rw[<-hW,<-hA];exact((((z8 _ _).alloc (X _) _).alloc zY _).alloc zV _)
  have hc:=λi=>zg ((w.alloc (.cells #[.slice none 0 0] 61)).alloc (.cells #[.nilIface] 49)) #[.int .i64 1,.int .i64 0] 72 (0,0) i
  rw[hW,show((w.alloc (.cells #[.slice none 0 0] 61)).alloc (.cells #[.nilIface] 49)).heap.size=A+1+1 by simp[hA]]at hc;clear hW;obtain⟨v,V⟩:=zo (A+1+1);rw[V]at hc|-;clear V;refine jJ (f:=55) (args:=#[(zX A 0),(zX (A+1) 0)]) zY dz ?_;refine(Zm A (A+1) _ _ _ _ _ l.c0 l.z0 l.c1 l.z1 J).mono ?_;rintro e u' Fz ⟨rfl,rfl,rfl⟩;have b:=(l.V4 (x := .slice none 0 0)).Bk (x := .iface 68 (zX v 0));have y:=b.c0;have B:=b.c1;simp[WG,C4,yk,results37,go_sem,y,B];have hF:=HR.o;rw[hF];have neA:v≠A:=λe=>by have h1:=(hc 0);rw[e,l.c0]at h1;cases h1
  have neB:v≠A+1:=λe=>by have h1:=(hc 0);rw[e,l.c1]at h1;cases h1
  exact⟨⟨v,rfl,s7,sN⟩,by rw[HA.o];exact vM (vM UP J) J⟩
 .have h1:decide ((1000:Int)<(s.size:Int))=false:=by simp;omega
  have h2:decide (1000<s.size)=false:=zV;go_enter_defers func37,ntmps37;have l:=ON w hA;have aD:yX A w ((w.alloc (.cells #[.slice none 0 0] 61)).alloc (.cells #[.nilIface] 49)):=by
   rw[<-hA];exact((z8 _ _).alloc (X _) _).alloc zY _
  have yiq:((w.alloc (.cells #[.slice none 0 0] 61)).alloc (.cells #[.nilIface] 49)).heap.size=A+1+1:=by simp[hA]
  obtain⟨W0,PE⟩:=zo ((w.alloc (.cells #[.slice none 0 0] 61)).alloc (.cells #[.nilIface] 49));rw[PE]at l aD yiq;have HW0:=Z PE;clear PE;obtain⟨I,hI⟩:=zo (A+1+1);have HI:=Z hI;have vjd:s.size<=1000:=J;go_wp2_with fail;clear hI;go_loopw [] (λwr=>∃k pre,k<=s.size/\wr.heap[I]? = some (.stringIter s k)/\yX A w wr/\jU A (.slice none 0 0) .nilIface wr/\xn s.data.toList=(pre++(xn (s.data.toList.drop k)).1,k+(xn (s.data.toList.drop k)).2)) (λwr=>s.size - wr.iterPos I)
  case atStart =>
   rw[HW0.o];refine⟨0,[],zG _,?_,aD.alloc J _,l.below ((z8 _ _).alloc (X _) _),zY⟩;rw[<-HI.o,<-yiq];exact World.iter_heap W0 s 0
  case round =>
   obtain⟨k,pre,hk,hit,CS,b,O⟩:=hrel;obtain⟨HP,xf4,HB,HIT⟩:=hdd O b CS hit;have vjb:I<(wr:Nat):=(vN.1 hit).1;have hAI:A+1<I:=(by have:=HI.o;omega);by_cases ud:k<s.size
   .have hn:=Lib.run_next_any_at (P:=prog) wr I s k 0 hit ud;have hd:=Se s k ud;have Ks:Bu (s.data.toList.drop k):=by
     cases hl:s.data.toList.drop k with
     |nil=>have:=congrArg qj hl;simp at this;omega
     |cons a r=>exact KY a r
    have HOK:=Z Ks;have u:=Lib.iterAt_heap wr I s k (k+(dV (s.data.toList.drop k)).2) hit;have m:=Lib.below_iterAt CS (k:=I) J s (k+(dV (s.data.toList.drop k)).2);have d:=b.keep (w':=wr.iterAt I s (k+(dV (s.data.toList.drop k)).2)) (λj hj=>Lib.iterAt_other _ _ _ _ _ J);obtain⟨pt,hpt⟩:=zo (dV (s.data.toList.drop k));obtain⟨r,z⟩:=pt;rw[hd,hpt]at hn;rw[hpt]at u m d;dsimp only at hn u m d;obtain⟨W1,fe⟩:=zo (wr.iterAt I s (k+z));rw[fe]at hn u m d;have vg0:(W1:Nat)=(wr:Nat):=(by rw[<-fe];exact Lib.iterAt_size _ _ _ _);have HPT:=Z hpt;have R:=Z (Tryz.utf8_DecodeRuneInString (s.extract k s.size) W1 (eH HT.o (by rw[HA.o];exact m)));have FD:zu9 (s.extract k s.size)=(r,z):=by
     unfold zu9;rw[zL Ig,OL s k ud,hpt]
    rw[FD]at R;have k1:(k:Int)<=(s.size:Int):=J;have k2:decide ((k:Int)<0)=false:=zY;clear hd Ks CS b O hpt fe FD hit;rcases HOK.o with⟨h0,U⟩|⟨h0,aL,K⟩
    .rw[HPT.o]at U;obtain⟨rfl,rfl⟩:r=65533/\z=1:=(by cases U;exact⟨rfl,rfl⟩);have FL:=fk h0;have L:(xn s.data.toList).2=k:=(by rw[HP.o,FL];rfl);have HCT:=Z (OI s k L);have HR:=Z (show ui s.data.toList = .error (2,(xn s.data.toList).1.length) by
      unfold ui;rw[zL Jd,zl (by rw[yz,L];exact ud)])
     have HRC:=Z (λW=>Tryz.utf8_RuneCountInString (s.extract 0 k) W (by rw[ByteArray.size_extract];omega));rw[HCT.o]at HRC;obtain⟨cnt,N5⟩:=zo ((xn s.data.toList).1.length);rw[N5]at HR HRC;clear U FL L N5 h0 HCT;go_wp2_with fail;refine R.o.mono ?_;rintro e W2 ⟨rfl,D⟩;have M:=m.trans (D.mono J);have C:=d.below D;clear R;go_wp2_with fail;refine(HRC.o W2).mono ?_;rintro e W3 ⟨rfl,pos,rfl⟩;have t:=C.below ((z8 (W2:Nat) W2).alloc (X _) (.stringIter (s.extract 0 k) pos));have E:yX A w (W2.iter (s.extract 0 k) pos):=M.alloc (by have:=D.size;omega) _;obtain⟨W3,fE⟩:=zo (W2.iter (s.extract 0 k) pos);rw[fE];have hr3:jU A (.slice none 0 0) .nilIface W3:=(by rw[<-fE];exact t);rw[fE]at E;clear fE t M C m d u hn HRC;go_wp2;have H:=hr3.below ((z8 (W3:Nat) W3).alloc (X _) (.cells #[.int .i64 2,cnt] 72));have hA3:=hr3.lt;have G:yX A w (W3.alloc (.cells #[.int .i64 2,cnt] 72)):=E.alloc J _;have hc:=λi=>zg W3 #[.int .i64 2,cnt] 72 (0,0) i
     obtain⟨W4,I5⟩:=zo (W3.alloc (.cells #[.int .i64 2,cnt] 72));rw[I5]at H G hc|-;clear I5;obtain⟨v,V⟩:=zo (W3:Nat);rw[V]at hc|-;clear V;refine jJ (f:=55) (args:=#[(zX A 0),(zX (A+1) 0)]) zY dz ?_;refine(Zm A (A+1) _ _ _ _ _ H.c0 H.z0 H.c1 H.z1 J).mono ?_;rintro e u' Fz ⟨rfl,rfl,rfl⟩;have b:=(H.V4 (x := .slice none 0 0)).Bk (x := .iface 68 (zX v 0));have y:=b.c0;have B:=b.c1;simp[WG,C4,yk,results37,go_sem,y,B];have hF:=HR.o;rw[hF];have neA:v≠A:=λe=>by have h1:=(hc 0);rw[e,H.c0]at h1;cases h1
     have neB:v≠A+1:=λe=>by have h1:=(hc 0);rw[e,H.c1]at h1;cases h1
     exact⟨⟨v,rfl,s7,sN⟩,by rw[HA.o];exact vM (vM G J) J⟩
    .have hz:yR (s.data.toList.drop k)=z:=(by rw[h0,HPT.o]);rw[HPT.o]at K;rw[hz]at aL;have hle:=(dA (s.data.toList.drop k)).1;rw[hz]at hle;simp only[xz,yz]at hle;have fH:s.data.toList.drop k≠[]:=(by intro e;have:=congrArg qj e;simp at this;omega);have Zz:=kJ fH J;rw[hz,Vt]at Zz;have bd:=Z (show xn s.data.toList=(pre++[(s.data.toList.drop k).take z]++(xn (s.data.toList.drop (k+z))).1,(k+z)+(xn (s.data.toList.drop (k+z))).2) by
      rw[HP.o,Zz];simp[jo])
     have yik:((r:Int)==65533)=false\/(r=65533/\((z:Int)==1)=false):=by
      by_cases hr:r=65533
      .right;refine⟨hr,?_⟩;simp;intro N7;exact K ⟨hr,J⟩
      .left;simp;omega
     clear K Zz fH h0 hz;rcases yik with La|⟨rfl,I9⟩;all_goals
      go_wp2_with fail;refine R.o.mono ?_;rintro e W2 ⟨rfl,D⟩;have M:=m.trans (D.mono J);have C:=d.below D;have yij:W2.heap[I]? = some (.stringIter s (k+z)):=(D.block I J).trans u;clear R m d u hn D;go_wp2;go_roundw
      case rel=>exact⟨k+z,_,J,yij,M,C,bd.o⟩
      case measure =>
       rw[QN yij,QN HIT.o];omega
   .have hn:=Lib.run_next_end_at (P:=prog) wr I s k 0 hit ud;have Tu:k=s.size:=(by omega);have hz:s.data.toList.drop k=[]:=yq Jd;have L:(xn s.data.toList).2=s.size:=(by rw[O,hz,qJ];exact Tu);have Q:=(YY s s.size 0 J J (by rw[qH,L];omega)).2 #[];rw[qH]at Q;have HRT:=Z (show ui s.data.toList=match bV (yS s.data.toList)with |.error e => .error e |.ok x => .ok x.1 by
     unfold ui;rw[zL Jd,zL (by rw[yz,L];omega)])
    obtain⟨rs,FB⟩:=zo (yS s.data.toList);have lA:rs.length<=1000:=(by have:=Jt s.data.toList;rw[yz,FB]at this;omega);have xf6:=Z (show ∀r∈rs,0<=r by rw[<-FB];exact zz1 _);rw[FB]at Q HRT;have hcv:=run_runes_of_string (P:=prog) wr 9 96 21 s underlying9 underlying96 underlying21 (by rw[Q];simp;omega);have F:∃cp W,(convert 9 96 (.string s)).run prog wr = .ok (.slice (zX (wr:Nat) 0) rs.length cp) W/\zJ wr W/\(wr:Nat)<W.heap.size/\rs.length<=cp/\cp<=maxLen/\∀j (h:j<rs.length),zy W (wr:Nat) j (.int .i32 rs[j]):=by
     have e2:(C0 s s.size 0 #[]).size=rs.length:=(by rw[Q];simp);rw[e2]at hcv;refine⟨_,_,hcv,(z8 _ _).drew.alloc (X _) _,zY,grownCap_ge _ _ _ _,grownCap_le_maxLen _ _ _ _ Z7,λj hj=>?_⟩;rw[show (wr:Nat)=wr.drew.heap.size from rfl,zg,Q,Array.getElem?_append_left (by simpa using hj)];simp[hj]
    obtain⟨cp,W,dy,UP,zmg,yig,yif,N⟩:=F;have HCE:=Z N;have d:=b.below UP;have m:=CS.trans (UP.mono J);clear hcv Q N O L hz FB Tu;have yid:=Y w _ (HNA.o 0 J);have Dv:(w:Nat)<=(W:Nat):=(by have:=m.size;omega);have CT:yX W W (W.alloc (.cells #[.slice (wr,0) rs.length cp,.int .i64 0,.int .i64 0] 146)):=(z8 _ _).alloc (X _) _;have hcm:=λi=>zg W #[.slice (wr,0) rs.length cp,.int .i64 0,.int .i64 0] 146 (0,0) i
    have hsy:xD (W:Nat) rs 0 0 (W.alloc (.cells #[.slice (wr,0) rs.length cp,.int .i64 0,.int .i64 0] 146)) :=
     ⟨⟨(wr:Nat),cp,hcm 0,yig,yif,zmg,λj hj=>(za _ _ _ zmg).trans (HCE.o j hj)⟩,hcm 1,hcm 2,zY,zY,J,J,J,xf6.o⟩
    have zmf:=d.below CT;have yyz:yX A w _:=m.trans (CT.mono J);go_wp2_with fail;obtain⟨Yk,hY⟩:=zo (W.alloc (.cells #[.slice (zX (wr:Nat) 0) rs.length cp,.int .i64 0,.int .i64 0] 146));rw[hY]at hsy zmf yyz|-;have hpY:(W:Nat)<(Yk:Nat):=(by rw[<-hY];simp);obtain⟨p,hp⟩:=zo (W:Nat);rw[hp]at hsy hpY Dv|-;have hAp:A+1<p:=(by have:=d.lt;omega);have xf7:GN p Yk:=⟨HNA.o.below (by rw[HA.o];exact yyz),by have hg:1<(w:Nat):=yid;omega⟩;have hM:=AE p rs 5 (X _) false 0 Yk hsy xf7;obtain⟨rm,hrm⟩:=zo (Yu rs 5 false 0);have HRM:=Z (show ui s.data.toList=match rm.then (λf i=>if zC rs i = -1 then (.ok (f,i):qL Fo)else .error (3,i))with |.error e => .error e |.ok x => .ok x.1 by rw[HRT.o,<-hrm];rfl);rw[hrm]at hM;have HM:=Z hM;clear hM hrm hY CT hcm hsy d m hp b CS yig yif HCE HRT hn dy hit xf4 HB HIT HP yid;refine HM.o.mono ?_;rintro e Xk ⟨hq,hbX⟩;have g:=zmf.but hbX hAp;have yyy:yX A w Xk:=yyz.trans (hbX.low J J);cases rm with
    |error en =>
     obtain⟨en1,en2⟩:=en;obtain⟨v,rfl,f1,f2,_,_,_⟩:=hq;have S:=Z (show ui s.data.toList = .error (en1,en2)from HRM.o);go_wp2;refine jJ (f:=55) (args:=#[(zX A 0),(zX (A+1) 0)]) zY dz ?_;refine(Zm A (A+1) _ _ _ _ _ g.c0 g.z0 g.c1 g.z1 J).mono ?_;rintro e u' Fz ⟨rfl,rfl,rfl⟩;have b:=(g.V4 (x := .slice none 0 0)).Bk (x := .iface 68 (zX v 0));have y:=b.c0;have B:=b.c1;simp[WG,C4,yk,results37,go_sem,y,B];have hF:=S.o;rw[hF];have neA:v≠A:=λe=>by have h1:=f1;rw[e,g.c0]at h1;cases h1
     have neB:v≠A+1:=λe=>by have h1:=f1;rw[e,g.c1]at h1;cases h1
     exact⟨⟨v,rfl,s8,sO⟩,by rw[HA.o];exact vM (vM yyy J) J⟩
    |ok fj =>
     obtain⟨f,j⟩:=fj;obtain⟨⟨a,c,rfl,vs,Y4,Nf⟩,aQ,hsX⟩:=hq;have gi:=Z Y4;have D3:=Z Nf;have MS:=Z (show ui s.data.toList=match (if zC rs j = -1 then (.ok (f,j):qL Fo)else .error (3,j))with |.error e => .error e |.ok x => .ok x.1 from HRM.o);have g0:=g.c0;have g1:=g.z0;have Vg:=Z (hsX.xf2 g0 J (.slice a f.len c));have t:=g.V4 (x := .slice a f.len c);have E:yX A w (Xk.setCell (zX A 0) (.slice a f.len c)):=vM yyy (X _);have QS:xS (Yk:Nat) (Xk:Nat) Xk (Xk.setCell (zX A 0) (.slice a f.len c)):=(vX (X _)).put J 0 _;obtain⟨X4,hX4⟩:=zo (Xk.setCell (zX A 0) (.slice a f.len c));rw[hX4]at Vg t E QS;have HX4:=Z hX4;have hYX:=hbX.size;clear hX4 Y4 Nf hsX g yyy HRM HM hbX;go_wp2_with fail;rw[HX4.o];refine(gq p rs j 0 X4 Vg.o).mono ?_;rintro e X5 ⟨rfl,Xv⟩;have HS5:=Z (Vg.o.below Xv);have hA4:=t.lt;have n:=t.below Xv;have G:=E.trans (Xv.mono J);have FE:=QS.below Xv;by_cases he:zC rs j = -1
     .have S:=Z (show ui s.data.toList = .ok f by rw[MS.o,zl he]);rw[he];have q0:=n.c0;have q1:=n.c1;have q2:=n.z0;have q3:=n.z1;have EZ:=n.V4 (x := .slice a f.len c);have Ws:=EZ.Bk (x := .nilIface);have xfz:yX A w ((X5.setCell (zX A 0) (.slice a f.len c)).setCell (zX (A+1) 0) .nilIface):=vM (vM G (X _)) J;have Wt:xS (Yk:Nat) (Xk:Nat) Xk ((X5.setCell (zX A 0) (.slice a f.len c)).setCell (zX (A+1) 0) .nilIface):=(FE.put J 0 _).put J 0 _;have q4:=EZ.c1;have q5:=EZ.z1;clear MS he HX4;go_wp2;refine jJ (f:=55) (args:=#[(zX A 0),(zX (A+1) 0)]) zY (by simp[go_sem]) ?_;refine(Tv A (A+1) _).mono ?_;rintro e u' Fz ⟨rfl,rfl,rfl⟩;have y:=Ws.c0;have B:=Ws.c1;simp[WG,C4,yk,results37,go_sem,y,B];have hF:=S.o;rw[hF];exact⟨⟨⟨a,c,vs,rfl,gi.o.keep Wt (by rw[HA.o];omega) Wt.1,zt.keep Wt (by rw[HA.o];omega) Wt.1 _ _ D3.o⟩,aQ⟩,by rw[HA.o];exact xfz⟩
     .have S:=Z (show ui s.data.toList = .error (3,j)by rw[MS.o,zL he]);have he':(zC rs j==-1)=false:=(by simpa using he);have q0:=HS5.o.at_;clear MS he HX4;go_wp2_with fail;refine(YV p 3 j X5 HS5.o.Ev).mono ?_;rintro e X6 ⟨⟨v,rfl,f1,f2,_,_,_⟩,C8⟩;have q:=n.below C8;have xfy:=G.trans (C8.mono (by have:=n.lt;omega));go_wp2;refine jJ (f:=55) (args:=#[(zX A 0),(zX (A+1) 0)]) zY dz ?_;refine(Zm A (A+1) _ _ _ _ _ q.c0 q.z0 q.c1 q.z1 J).mono ?_;rintro e u' Fz ⟨rfl,rfl,rfl⟩;have b:=(q.V4 (x := .slice none 0 0)).Bk (x := .iface 68 (zX v 0));have y:=b.c0;have B:=b.c1;simp[WG,C4,yk,results37,go_sem,y,B];have hF:=S.o;rw[hF];have neA:v≠A:=λe=>by have h1:=f1;rw[e,q.c0]at h1;cases h1
      have neB:v≠A+1:=λe=>by have h1:=f1;rw[e,q.c1]at h1;cases h1
      exact⟨⟨v,rfl,s8,sO⟩,by rw[HA.o];exact vM (vM xfy J) J⟩
inductive Out (σ:Type) where
 |go (b:Bool) (s:σ)
 |pan (c:List PanicEntry) (s:σ)
def Out.then{σ:Type}(x:Out σ)(k:σ->Out σ):Out σ:=match x with |.go true s=>k s |.go false s => .go false s |.pan c s => .pan c s
def vG{σ:Type}(F:σ->Fo->Out σ):Fo->σ->Out σ
 |.nil,s => .go true s
 |.text _ r,s=>vG F r s
 |.hash r,s=>vG F r s
 |.put n a r,s=>(F s (.put n a .nil)).then λs=>vG F r s
 |.num n a r,s=>(F s (.num n a .nil)).then λs=>vG F r s
 |.br n a f o c bs r,s=>(F s (.br n a f o c bs .nil)).then λs=>(vG F bs s).then λs=>vG F r s
 |.uB _ _ m r,s=>(vG F m s).then λs=>vG F r s
def zz2:Fo->Option (Wd×Nat)
 |.put n a _=>some (n,a)
 |.num n a _=>some (n,a)
 |.br n a _ _ _ _ _=>some (n,a)
 |_=>none
def Fo.wf(N:Nat):Fo->Bool
 |.nil=>true
 |.text _ r=>r.wf N
 |.hash r=>r.wf N
 |.put n _ r=>decide (n.length<=4000001) && r.wf N
 |.num n _ r=>decide (n.length<=4000001) && r.wf N
 |.br n _ f _ _ bs r=>decide (n.length<=4000001) && decide (f<3) && bs.ug && decide (bs.len<=N) && bs.wf N && r.wf N
 |.uB k _ m r=>decide (k.length<=4000001) && m.vS && decide (m.len<=N) && m.wf N && r.wf N
def Fo.wt:Fo->Nat
 |.br _ _ _ _ _ bs _=>2+bs.len
 |_=>1
def Fo.cnt:Fo->Nat
 |.nil=>0
 |.text _ r=>r.cnt
 |.hash r=>r.cnt
 |.put _ _ r=>1+r.cnt
 |.num _ _ r=>1+r.cnt
 |.br _ _ _ _ _ bs r=>2+bs.len+bs.cnt+r.cnt
 |.uB _ _ m r=>m.cnt+r.cnt
def yyv{σ:Type}(I:σ->Nat->z7->Prop)(room:Nat)(o:Out σ)(e:gG)(w':z7):Prop :=
 match o with
 |.go b s=>e = .returned (.bool b)/\I s room w'
 |.pan c s=>e = .panicked c/\I s room w'
structure Tq{σ:Type}(lo hi:Nat)(w0:z7)(v:zx)(I:σ->Nat->z7->Prop)(F:σ->Fo->Out σ):Prop where
 fn:∃k cap,v = .func (.func k) #[] cap/\(∀args w,(callFunc k args).run prog w = .ok (.enter k args) w) /\
  ∀s room W x u n a,I s (room+x.wt) W->zt lo hi w0 [u] x->x.wf 2000000=true->zz2 x=some (n,a)->zE prog k (#[u,.agg #[zv n,.int .i64 (a:Nat)]]++cap) W (yyv I room (F s x))
 keep:∀s b W,I s b W->xS lo hi w0 W
 below:∀s b W W',I s b W->zJ W W'->I s b W'
 less:∀s b b' W,I s b W->b'<=b->I s b' W
section
variable (b:Nat) (t:Wd) (w:z7)
def BJ:(zA (.iface 170 (b,0)) 153 170 true).run prog w = .ok (.tuple #[(b,0),.bool true]) w:=xK
def QG:(zA (.iface 173 (b,0)) 153 173 true).run prog w = .ok (.tuple #[(b,0),.bool true]) w:=xK
def KH:(zA (.iface 159 (b,0)) 153 159 true).run prog w = .ok (.tuple #[(b,0),.bool true]) w:=xK
def OO:(zA (.iface 166 (zv t)) 153 170 true).run prog w = .ok (.tuple #[.pointer none,.bool false]) w:=xK
def OP:(zA (.iface 166 (zv t)) 153 173 true).run prog w = .ok (.tuple #[.pointer none,.bool false]) w:=xK
def Tk:(zA (.iface 166 (zv t)) 153 159 true).run prog w = .ok (.tuple #[.pointer none,.bool false]) w:=xK
def OR:(zA (.iface 169 (.agg #[])) 153 170 true).run prog w = .ok (.tuple #[.pointer none,.bool false]) w:=xK
def OS:(zA (.iface 169 (.agg #[])) 153 173 true).run prog w = .ok (.tuple #[.pointer none,.bool false]) w:=xK
def Tj:(zA (.iface 169 (.agg #[])) 153 159 true).run prog w = .ok (.tuple #[.pointer none,.bool false]) w:=xK
def BG:(zA (.iface 173 (b,0)) 153 170 true).run prog w = .ok (.tuple #[.pointer none,.bool false]) w:=xK
def Ep:(zA (.iface 159 (b,0)) 153 170 true).run prog w = .ok (.tuple #[.pointer none,.bool false]) w:=xK
def Jh:(zA (.iface 159 (b,0)) 153 173 true).run prog w = .ok (.tuple #[.pointer none,.bool false]) w:=xK
def Tg:(zA (.iface 170 (b,0)) 153 173 true).run prog w = .ok (.tuple #[.pointer none,.bool false]) w:=xK
def Er:(zA (.iface 170 (b,0)) 153 159 true).run prog w = .ok (.tuple #[.pointer none,.bool false]) w:=xK
def eL:(zA (.iface 173 (b,0)) 153 159 true).run prog w = .ok (.tuple #[.pointer none,.bool false]) w:=xK
end
def fY:Wd:=[111,116,104,101,114]
def zz3:List Wd:=[[122,101,114,111],[111,110,101],[116,119,111],[102,101,119],[109,97,110,121],[111,116,104,101,114]]
def Fo.keys:Fo->List Wd
 |.uB k _ _ r=>k::r.keys
 |_=>[]
namespace MkS
def ZL:Fo->MkS->List Nat->MkS×List Nat
 |.uB k _ _ r,s,acc=>if k=fY then ZL r s acc else ZL r (s.const k) (acc++[s.num k])
 |_,s,acc=>(s,acc)
def place(ks:List Wd)(k:Wd):Nat:=if k=fY then (ks.filter (· ≠ fY)).length else (ks.filter (· ≠ fY)).idxOf k
def VR:Fo->MkS->List (Wd×Nat)->MkS×List (Wd×Nat)
 |.uB k _ _ r,s,acc=>if k.head? = some 61 then VR r (s.put 7 (ZH k.tail) [] [0]) (acc++[(k,s.code.length)])else VR r s acc
 |_,s,acc=>(s,acc)
def eM(ks:List Wd)(t:Nat)(key:Wd)(s:MkS):MkS :=
 (Um 6).foldl (λs c=>if zz3.getD c []=key\/key=fY/\zz3.getD c [] ∉ ks then s.qh t c else s) s
def Ci(n:Wd)(bs:Fo)(s:MkS):MkS×List Nat:=ZL bs (s.const n) [s.num n]
def QF(n:Wd)(bs:Fo)(s:MkS):MkS:=(Ci n bs s).1.put 10 0 (Ci n bs s).2 (yu (Ci n bs s).2.length 0)
def eN(n o:Wd)(bs:Fo)(s:MkS):MkS×List (Wd×Nat):=VR bs ((s.const n).put 4 (ZH o) [s.num n] []) []
def VS(n o:Wd)(f:Nat)(bs:Fo)(s:MkS):MkS:=(eN n o bs s).1.put (if f=2 then 9 else 8) 0 [] (yu 6 0)
def FX(n:Wd)(bs:Fo)(s:MkS)(k:Wd)(x:MkS):MkS:=x.qh (Ci n bs s).1.code.length (place bs.keys k)
def XU(n o:Wd)(bs:Fo)(s:MkS)(k:Wd)(x:MkS):MkS :=
 match (eN n o bs s).2.lookup k with
 |some i=>x.qh i 0
 |none=>eM bs.keys (eN n o bs s).1.code.length k x
def VZ:Fo->(Wd->MkS->MkS)->MkS->List Nat->MkS×List Nat
 |.nil,_,s,ls=>(s,ls)
 |.text t r,bg,s,ls=>VZ r bg (s.one 1 t) ls
 |.hash r,bg,s,ls=>VZ r bg (s.put 6 0 [] []) ls
 |.put n _ r,bg,s,ls=>VZ r bg (s.one 2 n) ls
 |.num n _ r,bg,s,ls=>VZ r bg (s.one 3 n) ls
 |.br n _ f o _ bs r,bg,s,ls =>
  if f=0 then
   let y:=VZ bs (FX n bs s) (QF n bs s) []
   VZ r bg (y.2.foldl (λs i=>s.qh i 0) y.1) ls
  else
   let y:=VZ bs (XU n o bs s) (VS n o f bs s) []
   VZ r bg ((y.2.foldl (λs i=>s.qh i 0) y.1).put 5 0 [] []) ls
 |.uB k _ m r,bg,s,ls =>
  let s1:=(VZ m (λ_ s=>s) (bg k s) []).1
  VZ r bg (s1.put 11 0 [] [0]) (ls++[s1.code.length])
def MA(m:Fo)(s:MkS):MkS:=(VZ m (λ_ s=>s) s []).1
def start:MkS:=⟨[],[],0⟩
def all(m:Fo):MkS:=(MA m start).put 0 0 [] []
end MkS
def EqW(k:Wd):Prop:=k.tail≠[]/\k.tail.length<=9/\k.tail.all yn=true
def Fo.Cl:Fo->Prop
 |.nil=>True
 |.text t r=>t.length<=5000000/\r.Cl
 |.hash r=>r.Cl
 |.put n _ r=>n.length<=16/\r.Cl
 |.num n _ r=>n.length<=16/\r.Cl
 |.br n _ f o _ bs r=>n.length<=16/\f<3/\ZH o<=999999999/\bs.ug=true/\bs.keys.Nodup/\(∀k∈bs.keys,k.length<=17/\(f≠0->k.head? = some 61->EqW k))/\bs.Cl/\r.Cl
 |.uB _ _ m r=>m.vS=true/\m.Cl/\r.Cl
def Fo.cw:Fo->Nat
 |.nil=>0
 |.text _ r=>5+r.cw
 |.hash r=>5+r.cw
 |.put _ _ r=>5+r.cw
 |.num _ _ r=>5+r.cw
 |.br _ _ _ _ _ bs r=>40+bs.cw+r.cw
 |.uB _ _ m r=>20+m.cw+r.cw
def Fo.gw:Fo->Nat
 |.uB _ _ m r=>5+m.cw+r.gw
 |_=>0
def Fo.Ub:∀f:Fo,f.gw+15*f.keys.length<=f.cw
 |.uB k a m r=>by have:=Fo.Ub r;simp only[Fo.gw,Fo.keys,Fo.cw,zm];omega
 |.nil=>zG _
 |.text _ _=>zG _
 |.hash _=>zG _
 |.put _ _ _=>zG _
 |.num _ _ _=>zG _
 |.br _ _ _ _ _ _ _=>zG _
def MkS.le(s s':MkS):Prop:=∀(i:Nat) (x:Jn),s.code[i]? = some x->∃y,s'.code[i]? = some y/\y.tg.length=x.tg.length
def MkS.le_refl(s:MkS):s.le s:=λ_ x h=>⟨x,h,rfl⟩
def MkS.le_trans{a b c:MkS}(h:a.le b)(k:b.le c):a.le c:=λi x hx=>by
 obtain⟨y,h1,h2⟩:=h i x hx;obtain⟨z,d,e⟩:=k i y h1;exact⟨z,d,e.trans h2⟩
def MkS.KI(s:MkS)(t:Wd):s.le (s.const t):=λi x hx=>⟨x,by rw[(gu s t).2.1];exact hx,rfl⟩
def MkS.ZU(s:MkS)(op v:Nat)(k tg:List Nat):s.le (s.put op v k tg):=λi x hx=>⟨x,by simp only[MkS.put];rw[qM (vq.1 hx).1];exact hx,rfl⟩
def MkS.U6(s:MkS)(i j:Nat):s.le (s.qh i j):=λn x hx=>by
 simp only[MkS.qh];rw[List.getElem?_modify];by_cases h:i=n
 .exact⟨{ x with tg:=x.tg.set j s.pos },by simp[h,hx],zY⟩
 .exact⟨x,by simp[h,hx],rfl⟩
def MkS.zox(s:MkS)(op:Nat)(t:Wd):s.le (s.one op t):=MkS.le_trans (s.KI t) (MkS.ZU _ _ _ _ _)
def MkS.BF(g:MkS->α->MkS)(b:∀(s:MkS) (a:α),s.le (g s a)):∀(l:List α) (s:MkS),s.le (l.foldl g s)
 |[],s=>s.le_refl
 |a::l,s=>MkS.le_trans (b s a) (MkS.BF g b l _)
def MkS.Qp(g:MkS->α->MkS)(b:∀(s:MkS) (a:α),(g s a).sz=s.sz):∀(l:List α) (s:MkS),(l.foldl g s).sz=s.sz
 |[],s=>rfl
 |a::l,s=>(MkS.Qp g b l _).trans (b s a)
def MkS.zp2(ks:List Wd)(t:Nat)(key:Wd)(s:MkS):s.le (MkS.eM ks t key s)/\(MkS.eM ks t key s).sz=s.sz:=by
 refine⟨MkS.BF _ (λs c=>?_) _ s,MkS.Qp _ (λs c=>?_) _ s⟩
 .split
  .exact s.U6 _ _
  .exact s.le_refl
 .split
  .exact X3 _ _ _
  .rfl
def MkS.M5(n:Wd)(a:Fo)(s:MkS)(k:Wd)(x:MkS):x.le (MkS.FX n a s k x)/\(MkS.FX n a s k x).sz=x.sz:=⟨x.U6 _ _,X3 _ _ _⟩
def MkS.M6(n o:Wd)(a:Fo)(s:MkS)(k:Wd)(x:MkS):x.le (MkS.XU n o a s k x)/\(MkS.XU n o a s k x).sz=x.sz:=by
 unfold MkS.XU;exact oL
def MkS.M7:∀(f:Fo) (s:MkS) (acc:List Nat),s.le (MkS.ZL f s acc).1/\(MkS.ZL f s acc).1.sz<=s.sz+f.keys.length/\(MkS.ZL f s acc).2.length<=acc.length+f.keys.length/\(MkS.ZL f s acc).1.code=s.code/\(MkS.ZL f s acc).1.pos=s.pos
 |.uB k _ _ r,s,acc=>by
  rw[MkS.ZL];split
  .obtain⟨a,b,c,d⟩:=MkS.M7 r s acc;exact⟨a,IV,by simp[Fo.keys];omega,d⟩
  .obtain⟨a,b,c,d,e⟩:=MkS.M7 r (s.const k) (acc++[s.num k]);obtain⟨z1,z2,g⟩:=gu s k;exact⟨MkS.le_trans (s.KI k) a,IV,by simp[Fo.keys]at c|-;omega,d.trans z2,e.trans g⟩
 |.nil,s,acc=>⟨s.le_refl,X _,X _,rfl,rfl⟩
 |.text _ _,s,acc=>⟨s.le_refl,X _,X _,rfl,rfl⟩
 |.hash _,s,acc=>⟨s.le_refl,X _,X _,rfl,rfl⟩
 |.put _ _ _,s,acc=>⟨s.le_refl,X _,X _,rfl,rfl⟩
 |.num _ _ _,s,acc=>⟨s.le_refl,X _,X _,rfl,rfl⟩
 |.br _ _ _ _ _ _ _,s,acc=>⟨s.le_refl,X _,X _,rfl,rfl⟩
def MkS.M8:∀(f:Fo) (s:MkS) (acc:List (Wd×Nat)),s.le (MkS.VR f s acc).1/\(MkS.VR f s acc).1.sz<=s.sz+8*f.keys.length
 |.uB k _ _ r,s,acc=>by
  rw[MkS.VR];split
  .obtain⟨a,b⟩:=MkS.M8 r (s.put 7 (ZH k.tail) [] [0]) (acc++[(k,s.code.length)]);have:=fZ s 7 (ZH k.tail) [] [0];have hx:(qI ⟨7,s.pos,ZH k.tail,[],[0]⟩).length=7:=(by simp[qI,YK,gm,gz,Qr]);exact⟨MkS.le_trans (s.ZU _ _ _ _) a,IV⟩
  .obtain⟨a,b⟩:=MkS.M8 r s acc;exact⟨a,IV⟩
 |.nil,s,acc=>⟨s.le_refl,X _⟩
 |.text _ _,s,acc=>⟨s.le_refl,X _⟩
 |.hash _,s,acc=>⟨s.le_refl,X _⟩
 |.put _ _ _,s,acc=>⟨s.le_refl,X _⟩
 |.num _ _ _,s,acc=>⟨s.le_refl,X _⟩
 |.br _ _ _ _ _ _ _,s,acc=>⟨s.le_refl,X _⟩
def AH:∀(k t:List Nat),(CO k t).length=4*k.length+2
 |[],t=>by simp[CO,gz]
 |a::k,t=>by simp[CO,gz,AH k t.tail];omega
def AI(pos:Nat)(x:Nat)(k:List Nat)(t:List Nat):(qI ⟨10,pos,0,x::k,t⟩).length=7+4*k.length:=by
 simp[qI,YK,gm,gz,AH];omega
def MkS.Jw:∀(f:Fo) (s:MkS) (x:Nat) (acc:List Nat),∃y,(MkS.ZL f s (x::acc)).2=x::y
 |.uB k _ _ r,s,x,acc=>by
  rw[MkS.ZL];split
  .exact MkS.Jw r s x acc
  .exact MkS.Jw r (s.const k) x (acc++[s.num k])
 |.nil,s,x,acc=>⟨_,rfl⟩
 |.text _ _,s,x,acc=>⟨_,rfl⟩
 |.hash _,s,x,acc=>⟨_,rfl⟩
 |.put _ _ _,s,x,acc=>⟨_,rfl⟩
 |.num _ _ _,s,x,acc=>⟨_,rfl⟩
 |.br _ _ _ _ _ _ _,s,x,acc=>⟨_,rfl⟩
def MkS.M9(n:Wd)(f:Fo)(s:MkS):s.le (MkS.QF n f s)/\(MkS.QF n f s).sz<=s.sz+9+5*f.keys.length:=by
 obtain⟨a,b,c,d,e⟩:=MkS.M7 f (s.const n) [s.num n];obtain⟨y,hy⟩:=MkS.Jw f (s.const n) (s.num n) [];refine⟨MkS.le_trans (s.KI n) (MkS.le_trans a (MkS.ZU _ _ _ _ _)),?_⟩;unfold MkS.QF MkS.Ci;rw[fZ,hy,AI];rw[hy]at c;have:=(gu s n).1;simp at c;omega
def MkS.Mz(n o:Wd)(f:Nat)(c:Fo)(s:MkS):s.le (MkS.VS n o f c s)/\(MkS.VS n o f c s).sz<=s.sz+24+8*c.keys.length:=by
 obtain⟨a,b⟩:=MkS.M8 c ((s.const n).put 4 (ZH o) [s.num n] []) [];refine⟨MkS.le_trans (s.KI n) (MkS.le_trans (MkS.ZU _ _ _ _ _) (MkS.le_trans a (MkS.ZU _ _ _ _ _))),?_⟩;unfold MkS.VS MkS.eN;have h1:=fZ (s.const n) 4 (ZH o) [s.num n] [];have h2:(qI ⟨4,(s.const n).pos,ZH o,[s.num n],[]⟩).length=7:=Ru;have d:∀p,(qI ⟨if f=2 then 9 else 8,p,0,[],yu 6 0⟩).length=13:=λp=>by split<;>simp[qI,YK,gm,gz]
 rw[fZ,d];have:=(gu s n).1;omega
def MkS.G0(s:MkS)(op:Nat)(t:Wd)(h:op=1\/op=2\/op=3):(s.one op t).sz<=s.sz+5:=by
 unfold MkS.one;rw[fZ];have:=(gu s t).1;have hx:(qI ⟨op,(s.const t).pos,0,[s.num t],[]⟩).length=3:=by rcases h with rfl|rfl|rfl<;>simp[qI,YK,gm,gz]
 omega
def MkS.go_le:∀(f:Fo) (j:Wd->MkS->MkS) (s:MkS) (ls:List Nat),(∀k s,s.le (j k s)/\(j k s).sz=s.sz)->s.le (MkS.VZ f j s ls).1/\(MkS.VZ f j s ls).1.sz+15*f.keys.length<=s.sz+f.cw
 |.nil,j,s,ls,hb=>⟨s.le_refl,X _⟩
 |.text t r,j,s,ls,hb=>by
  obtain⟨a,b⟩:=MkS.go_le r j (s.one 1 t) ls hb;have:=s.G0 1 t (.inl rfl);exact Po
 |.hash r,j,s,ls,hb=>by
  obtain⟨a,b⟩:=MkS.go_le r j (s.put 6 0 [] []) ls hb;have:=fZ s 6 0 [] [];have hx:(qI ⟨6,s.pos,0,[],[]⟩).length=1:=IX;exact⟨MkS.le_trans (s.ZU _ _ _ _) a,by simp only[Fo.keys,Fo.cw,MkS.VZ,ur];omega⟩
 |.put n _ r,j,s,ls,hb=>by
  obtain⟨a,b⟩:=MkS.go_le r j (s.one 2 n) ls hb;have:=s.G0 2 n (.inr (.inl rfl));exact Po
 |.num n _ r,j,s,ls,hb=>by
  obtain⟨a,b⟩:=MkS.go_le r j (s.one 3 n) ls hb;have:=s.G0 3 n (.inr (.inr rfl));exact Po
 |.br n _ f o _ h r,j,s,ls,hb=>by
  have q:=λ(l:List Nat) (x:MkS)=>MkS.BF (λs i=>MkS.qh s i 0) (λs i=>s.U6 i 0) l x
  have u:=λ(l:List Nat) (x:MkS)=>MkS.Qp (λs i=>MkS.qh s i 0) (λs i=>X3 s i 0) l x
  rw[MkS.VZ];split
  .obtain⟨a,b⟩:=MkS.go_le h (MkS.FX n h s) (MkS.QF n h s) [] (λk x=>MkS.M5 n h s k x);obtain⟨c,d⟩:=MkS.M9 n h s;obtain⟨e,g⟩:=MkS.go_le r j ((MkS.VZ h (MkS.FX n h s) (MkS.QF n h s) []).2.foldl (λs i=>MkS.qh s i 0) (MkS.VZ h (MkS.FX n h s) (MkS.QF n h s) []).1) ls hb;rw[u]at g;exact⟨MkS.le_trans c (MkS.le_trans a (MkS.le_trans (q _ _) e)),oA⟩
  .obtain⟨a,b⟩:=MkS.go_le h (MkS.XU n o h s) (MkS.VS n o f h s) [] (λk x=>MkS.M6 n o h s k x);obtain⟨c,d⟩:=MkS.Mz n o f h s;obtain⟨e,g⟩:=MkS.go_le r j (((MkS.VZ h (MkS.XU n o h s) (MkS.VS n o f h s) []).2.foldl (λs i=>MkS.qh s i 0) (MkS.VZ h (MkS.XU n o h s) (MkS.VS n o f h s) []).1).put 5 0 [] []) ls hb;rw[fZ,u]at g;have hx:∀p,(qI ⟨5,p,0,[],[]⟩).length=1:=λp=>by simp[qI,YK,gm]
   rw[hx]at g;exact⟨MkS.le_trans c (MkS.le_trans a (MkS.le_trans (q _ _) (MkS.le_trans (MkS.ZU _ _ _ _ _) e))),oA⟩
 |.uB k _ m r,j,s,ls,hb=>by
  obtain⟨a,b⟩:=MkS.go_le m (λ_ s=>s) (j k s) [] (λ_ s=>⟨s.le_refl,rfl⟩);obtain⟨c,d⟩:=MkS.go_le r j ((MkS.VZ m (λ_ s=>s) (j k s) []).1.put 11 0 [] [0]) (ls++[(MkS.VZ m (λ_ s=>s) (j k s) []).1.code.length]) hb;rw[fZ]at d;have hx:∀p,(qI ⟨11,p,0,[],[0]⟩).length=3:=λp=>RY
  rw[hx]at d;have:=(hb k s).2;exact⟨MkS.le_trans (hb k s).1 (MkS.le_trans a (MkS.le_trans (MkS.ZU _ _ _ _ _) c)),by simp only[Fo.keys,Fo.cw,MkS.VZ,zm];omega⟩
def zz4(m:Fo)(s:MkS):s.le (MkS.MA m s)/\(MkS.MA m s).sz<=s.sz+m.cw:=by
 obtain⟨a,b⟩:=MkS.go_le m (λ_ s=>s) s [] (λ_ s=>⟨s.le_refl,rfl⟩);exact⟨a,by unfold MkS.MA;omega⟩
end Go.Proofs.YtfcemhlpdcnckaaGreatDoor
