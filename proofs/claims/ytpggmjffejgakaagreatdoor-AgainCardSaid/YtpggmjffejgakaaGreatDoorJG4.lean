import Derived.Test.YtpggmjffejgakaaGreatDoorJG3
import Derived.Lib.AppendStr
import Derived.Lib.Builder
import Derived.Lib.UnsafeStr
import Derived.Shelf.RegionOpenPlain
import Derived.Deep.LoopGhost
import Derived.LaidEql
import Derived.RowKitTokens
import Derived.Lib.RuneBytes
import Derived.Maps.Own
import Derived.Deep.RegionWith
import Derived.Laws.IdiomCopy
import Derived.Maps.RangeWalk
set_option linter.defProp false
set_option maxHeartbeats 64000000
open Go renaming Addr->yM,Calls->zC,Ending->xU,method->iy,Leaves->UA,Oper->jk,PanicEntry->Eg,Program->VI,TypeId->xm,World->z8,bodyPost_ret->yK,callsD_of_wpS->EL,heap_alloc_new->kU,isAgg->xjz,leaves_cons->qb,loadVar->Hm,results->yN,rounds_succ->xL,run_typeAssert_lacksB->Ji,settle->Eu,storeVar->iz,underlying->KQ,unsupported->yfq,wpList->Ek,wp_loop_rounds->gY
open Go.Addr renaming add->bW,block->qd
open Go.Addr.mk renaming injEq->YL
open And renaming intro->zg
open Array renaming getElem?_eq_none->Zu,getElem?_eq_some_iff->yO,getElem?_modify->vp,replicate->xl,toList_inj->xu0
open Go.RowKit renaming Below->yD
open Go.RowKit.Below renaming drew->kp,heap_alloc->xZ,heap_setCell->yZ,refl->zv,setCell->ZD
open Bool renaming and_eq_true->zx,and_true->zzx,eq_iff_iff->xO,not_eq_true->VG,not_eq_true'->qu,or_eq_true->vR,true_and->gR
open Go.Builtin renaming append_->Vv,len_->yfy,unsafeSliceData_->YM
open ByteArray renaming mk->vO
open Classical renaming byContradiction->yu
open Go.Conv renaming runesFrom->V9
open Go.DataW.lit renaming injEq->EI
open Go.Departure renaming mixedOrders->Xv
open Except renaming ok->yzx
open Go.Exit renaming thenS->Fq
open Go.Extern.AbiNoEscape renaming same->YN
open Go.ByteArray renaming toList_eq->yfx
open Go.WideElems renaming rd_key->vq6,rg_of->vq7
open Go.Instr renaming field->vq5,index->Y2,lookup->TZ,makeFunc->uV,mapUpdate->TY,next->zr0,typeAssert->zA
open Int renaming toNat_natCast->VH
open Go.IntKind renaming i64->vH,u8->KU
open Go.Lib renaming BuilderAt->TU,IsBuilder->xP,Utf8Tabs->du,byteCells->yx,cell_of_heap->zw,decodeN->jI,encodeRune->yA,frozen_of_heap->uy,hid->Z,run_append_own_string->Oa,run_from_unsafe->yeq,run_neq_ptr_same->yfu,run_noEscape->vz3,run_to_unsafe->xj9,runeCells->wk,runeCells_le->yfk,strCells->xu5,validD->zpf
open Go.Lib.BuilderAt renaming put->vz4
open List renaming all_append->uJ,all_cons->vh,all_eq_true->zi,append_assoc->yk,append_eq_nil_iff->KE,cons_append->xX,drop_eq_getElem_cons->yY,drop_of_length_le->yI,drop_zero->qR,eq_nil_of_length_eq_zero->zN,flatMap_cons->zh,foldl_cons->vB,foldl_map->yek,getD_eq_getElem?_getD->ze,getElem?_append_left->za,getElem?_append_right->xq,getElem?_cons_succ->qa,getElem?_cons_zero->qA,getElem?_eq_getElem->zk,getElem?_eq_none->qT,getElem?_eq_some_iff->zF,getElem?_map->og,getElem?_modify->Ja,getElem?_toArray->gV,getElem_idxOf->Jp,getElem_map->yzu,getElem_mem->yf,idxOf_append->LU,idxOf_eq_length->zpb,idxOf_le_length->xrj,idxOf_lt_length_of_mem->qL,length->xD,length_append->zy,length_cons->zY,length_drop->yh,length_map->vg,length_nil->yF,length_pos_iff->yv,length_replicate->kl,length_singleton->gU,length_tail->OS,length_take->uK,lookup_cons->QN,map_cons->vE,map_nil->zpd,map_toArray->JA,mem_append->zS,mem_cons->yX,mem_cons_of_mem->uk,mem_cons_self->qI,mem_filter->ux,mem_iff_getElem->ql,mem_map->uQ,mem_of_getElem?->zW,mem_of_mem_drop->dV,mem_of_mem_tail->xi,mem_replicate->zzj,mem_singleton->zJ,nil_append->xK,nodup_cons->Yz,nodup_nil->bl,prefix_append->Dv,prefix_refl->xk,range->xB,replicate->zX,setIfInBounds_toArray->QL,take_append_drop->Xx,take_left->oZ,take_of_length_le->yr,take_succ_eq_append_getElem->yj
open Go.Lit.string renaming injEq->vz5
open Go.Maps renaming atKey_put_other->dT,atKey_put_same->UW,has_put_other->Od,has_put_same->QI,string_keyed->xE
open Nat renaming add_assoc->kh,add_sub_cancel_left->D9,add_zero->Ej,le_add_right->bA,le_of_lt->vv,le_refl->Y,le_succ->dK,le_trans->zj,lt_irrefl->kD,lt_of_lt_of_le->zD,lt_or_ge->uM,mul_assoc->LY,mul_comm->dY,mul_le_mul_right->qp,pow_succ->Zw,zero_le->zQ
open Go.Oper renaming upon_value->jW,wp->kd
open Option renaming getD_some->Ex,map_some->QM
open Option.some renaming inj->zL,injEq->vA
open Go.Result renaming andThen->ym,andThen_ok->Xg
open Go.Sem renaming run_bind->js,run_pure->wj
open UInt8 renaming ofNat->uC,toNat_ofNat'->Ev
open Go.Value renaming bool->gI,cells->Jc,int->yb,ownBlock->yl
open Go.Value.slice renaming injEq->gZ
open Go.WideAt renaming IsKeyLit->kJ
open Go.WideMaps renaming keyOf_string_mk->xu
open Go.World renaming block_lt_of_cell?->X,cell?->Fu,cell?_alloc_lt->zc,cell?_of_block->yE,cell?_setCells_out->Of,frozen?_alloc_old->fC,frozen?_of_block->zV,frozen?_setCell->zO,ownsMap_made->Hl,ownsRow_nil->xx,setCell->xg,setCells->yfj
open Go.Proofs.Tryz
namespace Go.Proofs.YtpggmjffejgakaaGreatDoor
open Go Go.RowKit
set_option maxRecDepth 10000
variable{ops:Array jk}{Q:Exit->Act->z8->Prop}{B:Nat}{F F':Nat->Prop}{P:VI}
def rB:(Tryz.prog.info? 113).map (λj=>j.size)=some 2:=yq
def JG:∃i:TypeInfo,Tryz.prog.info? 5=some i/\i.zero=some (.int .u8 0)/\i.size=1/\i.bytes=1:=info_parts yq
def H8:Tryz.prog.cellsOf 5=1:=yq
def aa(w:z8)(t u ty e:xm)(i:TypeInfo)(r:P.underlying t=some (.slice e))(x:P.underlying u=some .string)(hi:P.info? e=some i)(B:i.zero=some (.int .u8 0))
  (a:i.size=1) (h:i.bytes=1) (v:Value) (n:Nat) (xs:List Value) (b:w.ownsRow 0 e 1 v n xs) (s:ByteArray) (f:n+s.size<=maxLen) (d:n+s.size<=140737488355328) :
  ∃v' w',(Vv #[t,u] ty #[v,.string s]).run P w = .ok v' w'/\w'.ownsRow 0 e 1 v' (n+s.size) (xs++xu5 s)/\Fr (zH v) (zH v') w w'/\(v' = .slice none 0 0 ↔ v = .slice none 0 0/\s.size=0):=by
 obtain⟨v',w',hr,h2,o,D⟩:=Oa (P:=P) w 0 t u ty e i r x hi B a h v n xs b s f d (zQ _);refine⟨v',w',hr,h2,⟨o.os,o.tape,o.output,o.size,λk p hn=>o.block k p (λq=>hn q.symm),?_⟩,D⟩;intro k p;rcases b.2 with⟨rfl,rfl⟩|⟨g,cap,m,rfl,F,H,I,G,y,z⟩
 .have hx:xs=[]:=zN (by simpa using b.1);subst hx;obtain⟨v2,w2,c,E,-,-⟩:=Oa (P:=P) w (w:Nat) t u ty e i r x hi B a h (.slice none 0 0) 0 [] (xx _ _ _ _) s f d (Y _);rw[hr]at c;cases c;exact .inr (E.lt k p).1
 .have A:xs.length=n:=by simpa using b.1
  have C:m.size=cap:=by simpa using y
  by_cases l:n+s.size<=cap
  .have c:=Lib.run_append_room_string (P:=P) w t u ty e i r x hi a g n cap m H s l J;rw[hr]at c;cases c;exact .inl p
  .have holds:∀j u,xs[j]? = some u->w.cell? ((⟨g,0,none⟩:yM).add j)=some u:=b.cells (g:=g) rfl;have c:=Lib.run_append_grow_string (P:=P) w t u ty e i (.int .u8 0) r x hi B ⟨g,0,none⟩ n cap xs (by rw[a];simpa using A) holds s J (by unfold maxLen at f;omega) (by rw[h];exact growslice_fits J J);rw[hr]at c;cases c;cases p;exact .inr (Y _)
def QF{w:z8}{rest:List jk}{o:jk}{a:Act}(j:o.guard=none)(sl x:Operand)(t u:xm)
  (m:o.op = .call { callee := .builtin .append,args:=#[sl,x],argTypes:=#[t,u] })
  (e:xm) (i:TypeInfo) (p:P.underlying t=some (.slice e)) (q:P.underlying u=some .string) (hi:P.info? e=some i) (r:i.zero=some (.int .u8 0))
  (c:i.size=1) (g:i.bytes=1)
  (v:Value) (n:Nat) (xs:List Value) (hs:a.eval sl=v) (d:w.ownsRow 0 e 1 v n xs) (s:ByteArray) (hx:a.eval x = .string s)
  (f:n+s.size<=maxLen) (b:n+s.size<=140737488355328)
  (h:∀v' w',w'.ownsRow 0 e 1 v' (n+s.size) (xs++xu5 s)->Fr (zH v) (zH v') w w'->(v' = .slice none 0 0 ↔ v = .slice none 0 0/\s.size=0)->Ek P ops Q rest (a.put o.dst v') w'):Ek P ops Q (o::rest) a w:=by
 refine wpList_plain j λK hK=>?_
 obtain⟨v',w',hr,h2,k,l⟩:=aa (P:=P) w t u o.type e i p q hi r c g v n xs d s f b;unfold kd execOp;simp only[m,resolve,invoke,builtin,js,wj,Xg,JA,vE,zpd,hs,hx,hr];exact hK _ _ (h v' w' h2 k l)
def qK(b:Nat)(x0 x1 x2 st v:Value)(l:Wd)(w:z8):Prop :=
 ∃p,(p = .pointer none\/p = .pointer (b,3))/\w.heap[b]? = some (.cells #[x0,x1,x2,p,v,st] 167 (0,0))/\w.ownsRow 0 5 1 v l.length (yx l)/\v.ownBlock≠some b/\(l=[]->v = .slice none 0 0)
abbrev K3(b:Nat)(v:Value)(k:Nat):Prop:=k=b\/zH v k
section
variable {b:Nat} {x0 x1 x2 st v:Value} {l:Wd} {w w':z8}
def qK.lt(h:qK b x0 x1 x2 st v l w):b<(w:Nat):=by
 obtain⟨p,_,hb,_⟩:=h;exact(yO.1 hb).1
def qK.cell(h:qK b x0 x1 x2 st v l w):zu w b 0 x0/\zu w b 1 x1/\zu w b 2 x2/\zu w b 5 st/\∀j,w.frozen? ⟨b,j,none⟩=false:=by
 obtain⟨p,_,hb,_⟩:=h;exact⟨by rw[zw hb];rfl,by rw[zw hb];rfl,by rw[zw hb];rfl,by rw[zw hb];rfl,λj=>uy hb j⟩
def qK.row(h:qK b x0 x1 x2 st v l w):w.ownsRow 0 5 1 v l.length (yx l):=by
 obtain⟨p,_,_,a,_⟩:=h;exact a
def qK.fr(h:qK b x0 x1 x2 st v l w)(hf:Fr F F' w w')(hb:¬F b)(hv:∀g,zH v g->¬F g):qK b x0 x1 x2 st v l w':=by
 have a:=h.lt;obtain⟨p,h1,h2,c,d,e⟩:=h;exact⟨p,h1,(hf.keep b a hb).trans h2,hf.own c hv,d,e⟩
def yuv(w:z8)(x0 x1 x2:Value):qK (w:Nat) x0 x1 x2 (.slice none 0 0) (.slice none 0 0) [] (w.alloc (.cells #[x0,x1,x2,.pointer none,.slice none 0 0,.slice none 0 0] 167)) :=
 ⟨.pointer none,.inl rfl,kU w _,xx _ _ _ _,Ak,λ_=>rfl⟩
def ze4(b:Nat)(x0 x1 x2 st v:Value)(l:Wd)(w:z8):Prop :=
 w.heap[b]? = some (.cells #[x0,x1,x2,(b,3),v,st] 167 (0,0))/\w.ownsRow 0 5 1 v l.length (yx l)/\v.ownBlock≠some b/\(l=[]->v = .slice none 0 0)
def rC(h:qK b x0 x1 x2 st v l w) :
  zC Tryz.prog 119 #[(b,3)] w λe w'=>e = .returned (.tuple #[])/\ze4 b x0 x1 x2 st v l w'/\Fr (K3 b v) (K3 b v) w w':=by
 obtain⟨j,s,t⟩:=Option.map_eq_some_iff.1 rB;have A:=h.lt;obtain⟨p,h1,f,q,m,r⟩:=h;have h0:zu w b 3 p:=by rw[zw f];rfl
 have x:w.frozen? (b,3)=false:=uy f 3;have n:w.shape? b=some (167,6):=by simp[World.shape?,f]
 have c:(w.setCell (b,3) (b,3)).heap[b]? = some (.cells #[x0,x1,x2,(b,3),v,st] 167 (0,0)):=by
  simp[xg,vp,f]
 have d:Fr (λk=>k=b) (λk=>k=b) w (w.setCell (b,3) (b,3)):=(Fr.refl _ _).set _ (.inl rfl);have a:(w.setCell (b,3) (b,3)).ownsRow 0 5 1 v l.length (yx l):=d.own q (λg y e=>m (e▸y));have i:Fr (K3 b v) (K3 b v) w (w.setCell (b,3) (b,3)):=d.wide (λk z => .inl z);have HS:=Z (⟨c,a,m,r⟩:ze4 b x0 x1 x2 st v l (w.setCell (b,3) (b,3)));have HW:=Z i;rcases h1 with rfl|rfl
 .clear f q m r c a i d;go_enter func119,ntmps119;go_wp2;rw[xj9 w ⟨b,3,none⟩ underlying111 underlying118 s (by rw[t];decide) n (show 3<6 by decide)];simp only[ym];rw[jW];go_wp2;rw[run_callFunc_extern func157 yq yq yq (e:=YN) yq];rw[vz3];simp only[ym];rw[jW];go_wp2;rw[yeq w ⟨b,3,none⟩ underlying118 underlying111 s n yq];exact zd9
 .have u:=Z (⟨f,q,m,r⟩:ze4 b x0 x1 x2 st v l w);clear f q m r c a i d HS HW;go_enter func119,ntmps119;go_wp2;rw[yfu w _ underlying111 s];go_wp2;go_end0
  exact⟨rfl,u.o,Fr.refl _ _⟩
def Ng(t:Wd):xu5 ⟨t.toArray⟩=yx t:=rfl
def RM(a b:Wd):yx a++yx b=yx (a++b):=by simp[yx]
def C3(b:Nat)(x0 x1 x2 st v:Value)(l:Wd)(w w':z8):Prop:=∃v',qK b x0 x1 x2 st v' l w'/\Fr (K3 b v) (K3 b v') w w'
def Ge(t:Wd)(h:qK b x0 x1 x2 st v l w)(I:l.length+t.length<=1000000000) :
  zC Tryz.prog 105 #[(b,3),zM t] w λe w'=>(∃v,e = .returned v)/\C3 b x0 x1 x2 st v (l++t) w w':=by
 obtain⟨N,hi,F,G,H⟩:=JG;have B:=Z (rC h);have y:(⟨t.toArray⟩:ByteArray).size=t.length:=size_mk _;clear h;go_enter func105,ntmps105;go_wp2_with fail;refine B.o.mono ?_;rintro e w1 ⟨rfl,⟨Fc,i,x,m⟩,z⟩;have c0:zu w1 b 3 (zU b 3):=Gy;have c1:zu w1 b 4 v:=Gy;have E:b<(w1:Nat):=(yO.1 Fc).1;obtain⟨D,r,C,xgk,A,O⟩:=EZ z i x m Fc (zn i);clear z i x m Fc;go_wp2_with (at_builtin;refine QF rfl _ _ 34 9 rfl 5 N underlying34 underlying9 hi F G H v l.length (yx l) rfl r.o ⟨t.toArray⟩ rfl (by rw[y];unfold maxLen;omega) (by rw[y];omega) ?_);intro v' w2 a c hz;have K:¬zH v b:=λe=>C.o e
 have qY:w2.heap[b]? = some (.cells #[x0,x1,x2,(zU b 3),v,st] 167 (0,0)):=(c.keep b E K).trans A.o;have d1:zu w2 b 4 v:=Di;have f1:w2.frozen? (zU b 4)=false:=uy qY 4;rw[Ng,RM]at a;have a:w2.ownsRow 0 5 1 v' (l.length+t.length) (yx (l++t)):=a;have d:v'.ownBlock≠some b:=λe=>(c.fp b e).elim K (λq=>J)
 have n:(w2.setCell (b,4) v').heap[b]? = some (.cells #[x0,x1,x2,(b,3),v',st] 167 (0,0)):=by
  simp[xg,vp,qY]
 have p:Fr (λk=>k=b) (λk=>k=b) w2 (w2.setCell (b,4) v'):=(Fr.refl _ _).set _ (.inl rfl);have j:(w2.setCell (b,4) v').ownsRow 0 5 1 v' (l++t).length (yx (l++t)):=by
  rw[zy];exact p.own a (λg M e=>d (e▸M))
 have f:l++t=[]->v' = .slice none 0 0:=λe=>zvx
 have s:Fr (K3 b v) (K3 b v') w1 (w2.setCell (b,4) v'):=by
  have h1:Fr (K3 b v) (K3 b v) w1 w2:=c.wide (λk u => .inr u);have h2:Fr (K3 b v) (K3 b v) w2 (w2.setCell (b,4) v'):=p.wide (λk u => .inl u);exact(h1.trans h2).tg (λk u=>u.elim (λe => .inl (.inl e)) (λe=>(c.fp k e).elim (λq => .inl (.inr q)) .inr))
 have L:=Z (⟨v',⟨_,.inr rfl,n,j,d,f⟩,D.o.trans s⟩:C3 b x0 x1 x2 st v (l++t) w (w2.setCell (b,4) v'));obtain⟨P,cap,rfl⟩:=zn a;clear a c hz qY n j f d s p;go_wp2;go_ret2
 exact⟨⟨_,rfl⟩,L.o⟩
def rE(w:z8)(g n:Nat):Fr (λk=>k=g) (λk=>k=g) w (w.freeze ⟨g,0,none⟩ n):=by
 unfold World.freeze;split
 .exact Fr.refl _ _
 .exact⟨rfl,rfl,rfl,zZ,λk a hn=>by simp only[vp];rw[yz (λe=>hn e.symm)],λ_ q => .inl q⟩
def yuu(hB:∀g,zH v g->B<=g)(h:qK b x0 x1 x2 st v l w)(C:l.length<=1000000000) :
  zC Tryz.prog 42 #[(b,3)] w λe w'=>e = .returned (zM l)/\yD B w w'/\Fr (zH v) (zH v) w w':=by
 obtain⟨p,h1,c,uT,i,a⟩:=h;by_cases h0:l=[]
 .have hv:=a h0;subst hv h0;have c1:zu w.drew b 4 (.slice none 0 0):=by
   have:w.drew.heap[b]? = some (.cells #[x0,x1,x2,p,.slice none 0 0,st] 167 (0,0)):=c;exact M6
  have n:=λW q=>Lib.run_unsafeString_none (P:=Tryz.prog) W 222 3 9 q
  have m:(YM #[34] 222 #[.slice none 0 0]).run Tryz.prog w.drew = .ok (.pointer none) w.drew:=rfl;have f:Tryz.prog.follows Xv=true:=yq;clear uT c i a h1 hB;go_enter func42,ntmps42;go_wp2;go_region_o
  all_goals (go_wp2;go_ret;exact⟨rfl,kp (zv B w),(Fr.refl _ _).drew⟩)
 .have t:l.length≠0:=by simpa using h0
  obtain⟨g,cap,cur,rfl,hg,z,u,s,d⟩:∃g cap cur,v = .slice (some ⟨g,0,none⟩) l.length cap/\w.heap[g]? = some (.cells cur 5 (0,0))/\l.length<=cap/\cap<=maxLen/\cur.size=cap*1/\cur.toList.take (l.length*1)=yx l:=by
   rcases uT.2 with⟨_,A⟩|⟨g,cap,cur,hv,-,r⟩
   .exact absurd A t
   .exact⟨g,cap,cur,hv,r⟩
  have o:B<=g:=hB g rfl;have c1:zu w.drew b 4 (.slice (g,0) l.length cap):=by
   have:w.drew.heap[b]? = some (.cells #[x0,x1,x2,p,.slice (zU g 0) l.length cap,st] 167 (0,0)):=c;exact M6
  have m:(YM #[34] 222 #[.slice (g,0) l.length cap]).run Tryz.prog w.drew = .ok (g,0) w.drew :=
   Lib.run_unsafeSliceData_row _ _ _ _ _ _ J
  have n:(Builtin.unsafeString_ #[222,3] 9 #[(g,0),l.length]).run Tryz.prog w.drew = .ok (.string ⟨l.toArray⟩) (w.drew.freeze ⟨g,0,none⟩ l.length):=by
   refine Lib.run_unsafeString_row w.drew 222 3 9 5 underlying222 H8 g cur.size zf7 l h0 J J ?_;exact zd4
  have f:Tryz.prog.follows Xv=true:=yq;clear uT c i a h1 hg s d hB;go_enter func42,ntmps42;go_wp2;go_region_o
  all_goals (go_wp2;go_ret;exact⟨rfl,Lib.below_freeze (kp (zv B w)) (p:=(zU g 0)) o _,(rE w.drew g l.length).und.wide (λk y=>by rw[y];rfl)⟩)
end
def ze5(v:Value)(n:uL)(x:Nat)(w:z8){M:Nat->Prop}(h:fS M w v n)(hx:x<=1000000000) :
  zC Tryz.prog 113 #[v,x] w λe w'=>e = .returned (.bool (Ub n x))/\zP w w':=by
 have d:=h.num;obtain⟨l,b⟩:=n;obtain⟨g,o,cap,rfl,-⟩:=h;simp only at d|-;have a:∀i,yD w w (w.alloc i):=λi=>(zv _ _).alloc (Y _) _
 have j:=λi=>Z (FD _ b x (w.alloc i) (d.below (a i)) hx)
 clear d;cases l
 .obtain⟨cc,c⟩:=zr (GR b x);have k:=Z (show Ub (false,b) x=decide (cc=0)by unfold Ub;rw[c];rfl);rw[c]at j;clear c;go_enter func113,ntmps113;go_wp2_with fail;refine(j _).out.mono ?_;rintro e w1 ⟨rfl,f⟩;have hb:=(a (.cells #[.bool false,.slice (zU g o) (b.1.length+b.2.length) cap,.int .i64 b.2.length] 99)).trans (f.mono zZ);clear f a j;go_wp2;go_ret;rw[k.o];exact⟨by first|rfl|(congr 2;simp) ,hb⟩
 .have k:=Z (show Ub (true,b) x=false from rfl);have hb:=a (.cells #[.bool true,.slice (zU g o) (b.1.length+b.2.length) cap,.int .i64 b.2.length] 99);clear j a;go_enter func113,ntmps113;go_wp2;go_ret;exact⟨by rw[k.o];rfl,hb⟩
variable{cs xs:List Value}{c n size:Nat}
def ze6:Y7 Tryz.prog 163 253 (.agg #[.bool false,.slice none 0 0,.int .i64 0,.bool false,.slice none 0 0,.int .i64 0]) 6 80 :=
 ⟨underlying163,info_parts yq,rfl,zR,zR⟩
def Qj(nb:Bool)(g o n c k:Nat):List Value:=[.bool nb,.slice (g,o) n c,.int .i64 k]
abbrev RN(nb:Bool)(g o n c k:Nat):Value := .agg #[.bool nb,.slice (g,o) n c,k]
abbrev stF(b:Nat)(st:Value)(k:Nat):Prop:=k=b\/zH st k
section
variable {b:Nat} {x0 x1 x2 st v:Value} {l:Wd} {w w':z8}
def qK.stk(h:qK b x0 x1 x2 st v l w)(a:Value):qK b x0 x1 x2 a v l (w.setCell (b,5) a):=by
 obtain⟨p,h1,h2,d,c,f⟩:=h;exact⟨p,h1,by simp[xg,vp,h2],xp d (λe=>c e.symm) _,c,f⟩
def qK.c5(h:qK b x0 x1 x2 st v l w):zu w b 5 st:=h.cell.2.2.2.1
def qK.z(h:qK b x0 x1 x2 st v l w)(j:Nat):w.frozen? (b,j)=false:=h.cell.2.2.2.2 j
def RO(b:Nat)(x0 x1 x2 st v:Value)(l:Wd)(n:Nat)(cs:List Value)(w w':z8):Prop :=
 ∃st',qK b x0 x1 x2 st' v l w'/\w'.ownsRow 0 253 6 st' n cs/\st'.ownBlock≠some b/\(∀g,zH v g->¬zH st' g)/\Fr (stF b st) (stF b st') w w'
def ze7(h:qK b x0 x1 x2 st v l w)(p:w.ownsRow 0 253 6 st n cs)(V:st.ownBlock≠some b)(rH:∀g,zH v g->¬zH st g)(hn:n<=1000000)(F I:Bool)(g o m c k g' H m' c' k':Nat) :
  zC Tryz.prog 109 #[(b,5),.agg #[.bool F,.slice (g,o) m c,k,.bool I,.slice (g',H) m' c',k']] w λe w'=>e = .returned (.tuple #[])/\RO b x0 x1 x2 st v l (n+1) (cs++(Qj F g o m c k++Qj I g' H m' c' k')) w w':=by
 have HH:=Z h;have uo:=h.lt;obtain⟨W,hW⟩:=zr (w.alloc (.cells #[.bool F,.slice (zU g o) m c,k,.bool I,.slice (zU g' H) m' c',k'] 253));have hb:zP w W:=Wx;have i:Fr yH yH w W:=Fr.of hb;have A:(W:Nat)=(w:Nat)+1:=by rw[<-hW];simp
 have y:=h.fr i id (λ_ _ q=>q);have c5:=y.c5;have hc:∀j,W.cell? ⟨(w:Nat),j,none⟩=(#[gI F,.slice (zU g o) m c,k,.bool I,.slice (zU g' H) m' c',k']:Array Value)[j]? := λj=>by rw[<-hW];exact zf _ _ _ _ _
 have M:=hc 0;have N:=hc 1;have O:=hc 2;have P:=hc 3;have Q:=hc 4;have R:=hc 5;simp only[gV,qA,qa]at M N O P Q R;obtain⟨B,hB⟩:=zr (w:Nat);rw[hB]at M N O P Q R A uo;have U:=i.own p (λ_ _ q=>q);obtain⟨u,sc,rfl⟩:=zn p;obtain⟨HO,Vc,x,K,HSB,V6⟩:=EZ U i y rH V p;clear h hb i y hc p rH V U;go_enter func109,ntmps109;go_wp2_with fail;try rw[hB]
 have HWE:=Z hW;have mf:=Z hB;have HWS:=Z A;clear hW hB A;refine DN (λW':z8=>zu W' b 5 (.slice u n sc)/\zu W' B 0 (.bool F)/\zu W' B 1 (.slice (zU g o) m c)/\zu W' B 2 k/\zu W' B 3 (.bool I)/\zu W' B 4 (.slice (zU g' H) m' c')/\zu W' B 5 k') 10 [0,1,2,3,4,5] 5 ⟨c5,M,N,O,P,Q,R⟩ ?_;refine dJ 6 (λL s=>?_);go_simp;refine s.out _ _ ⟨yy c5 _,yy M _,yy N _,yy O _,yy P _,yy Q _,yy R _⟩ λ_=>?_
 clear s L;refine dJ 7 (λL s=>?_);rw[yV xV];change kd _ _ _ (W.drew.alloc (.cells [_,_,_,_,_,_].toArray _)) _ _
 refine jf ze6 [_,_,_,_,_,_] 1 (by exact HO.o) J ?_;intro v2 w2 C f;have f:=f.und;have r:¬zH (.slice u n sc) b:=λe=>HSB.o e
 have E:¬zH (.slice u n sc) B:=λe=>by have:=uj V6.o e;have:=mf.o;omega
 have f0:=f.cell c5 r;have f1:=f.cell M E;have f2:=f.cell N E;have f3:=f.cell O E;have f4:=f.cell P E;have f5:=f.cell Q E;have f6:=f.cell R E;have z2:w2.frozen? (b,5)=false:=(f.frozen (X _ _ c5) r).trans (x.o.z 5);have D:v2.ownBlock≠some b:=λe=>(f.fp b e).elim r (λq=>by have:=HWS.o;omega)
 have S:qK b x0 x1 x2 v2 v l (w2.setCell (b,5) v2):=(x.o.fr f r (λg hg=>K.o g hg)).stk v2;have t:Fr (stF b (.slice u n sc)) (stF b v2) w (w2.setCell (b,5) v2):=by
  have h1:Fr (stF b (.slice u n sc)) (stF b (.slice u n sc)) w w2:=(Vc.o.wide (G:=stF b (.slice u n sc)) (λ_ q=>q.elim)).trans (f.wide (λk T => .inr T));refine(h1.set (a:=(b,5)) v2 (.inl (.inl rfl))).tg (λk T=>?_);rcases T with rfl|T
  .exact .inl (.inl rfl)
  .exact(f.fp k T).elim (λq => .inl (.inr q)) (λq => .inr M0)
 have HQ:=Z (show RO b x0 x1 x2 (.slice u n sc) v l (n+1) (cs++(Qj F g o m c k++Qj I g' H m' c' k')) w (w2.setCell (b,5) v2) from
  ⟨v2,S,xp C (λe=>D e.symm) _,D,λg hg e=>(f.fp g e).elim (K.o g hg) (λq=>by have:=uj x.o.row hg;omega),t⟩)
 obtain⟨a2,cc2,rfl⟩:=zn C;clear C f S t D;go_simp;refine s.out _ _ ⟨f0,f1,f2,f3,f4,f5,f6⟩ λ_=>?_
 clear s L;refine jL [8,9] 1 rfl ZR yq yq ⟨f0,f1,f2,f3,f4,f5,f6⟩ ?_;(iterate 2 (refine ty ?_;try simp only[pl]))
 refine yS ?_;refine FT 10 (λL s=>?_);go_simp;refine s.out _ _ ?_;clear s L;refine FW ?_ _;go_wp2;go_end0
 exact⟨rfl,HQ.o⟩
def ze8{base e g:Nat}{w:z8}(h:w.ownsRow base e size (.slice (g,0) (n+1) c) (n+1) xs):w.ownsRow base e size (.slice (g,0) n c) n (xs.take (n*size)):=by
 rcases h with⟨h1,h2⟩;rcases h2 with⟨hv,_⟩|⟨g2,b,a,hv,k1,k2,k3,k4,d,f⟩
 .cases hv
 .cases hv;refine⟨by rw[uK,h1,Nat.succ_mul];omega,.inr ⟨g,c,a,rfl,k1,k2,J,k4,d,?_⟩⟩;rw[<-f,List.take_take,Nat.min_eq_left (qp _ J)]
def yuk(h:qK b x0 x1 x2 st v l w){tp:List Value}(d:w.ownsRow 0 253 6 st (n+1) (cs++tp))(j:cs.length=n*6)(k:st.ownBlock≠some b)(m:∀g,zH v g->¬zH st g)(hn:n<=1000000) :
  zC Tryz.prog 111 #[(b,5)] w λe w'=>e = .returned (.tuple #[])/\RO b x0 x1 x2 st v l n cs w w':=by
 obtain⟨g,c,rfl,-,p,-⟩:=xf d J;have c5:=h.c5;have D:=h.z 5;have q:=ze8 d;rw[<-j,oZ]at q;have i:n+1<=c:=by
  rcases d.2 with⟨hv,_⟩|⟨g2,s,A,hv,_,_,B,_⟩
  .cases hv
  .cases hv;exact B
 have f:b≠g:=λe=>k (by simp[yl,e])
 have u:=Z (show RO b x0 x1 x2 (.slice (g,0) (n+1) c) v l n cs w (w.setCell (b,5) (.slice (g,0) n c)) from
  ⟨_,h.stk _,xp q (by simpa[yl]using f) _,by simpa[yl]using Ne.symm f,m,(Fr.refl _ _).set (a:=(b,5)) _ (.inl (.inl rfl))⟩)
 have k1:((n:Int)+1) - 1=(n:Int):=J;have C:vH.wrap (n:Int)=(n:Int):=Yy;have k2:n<=c:=J;have k3:(n:Int)<=(c:Int):=J;clear h d q k m i j p;go_enter func111,ntmps111;go_wp2_with fail;refine DN (λW':z8=>zu W' b 5 (.slice (zU g 0) (n+1) c)) 14 (xB 14) 1 c5 ?_;refine FT 14 (λx t=>?_);go_simp;refine t.out _ _ ?_;clear t x;refine FW ?_ _;go_wp2;go_end0
 obtain⟨r,a1,a2,a3,a4,y⟩:=u.o;exact⟨rfl,r,a1,a2,a3,a4,y.drew⟩
def DJ(h:qK b x0 x1 x2 st v l w)(f p:Bool)(g o m c k g' i m' c' k':Nat)(d:w.ownsRow 0 253 6 st (n+1) (cs++(Qj f g o m c k++Qj p g' i m' c' k')))(a:cs.length=n*6)(hn:n<=1000000) :
  zC Tryz.prog 112 #[(b,5)] w λe w' =>
   e = .returned (.agg #[.bool f,.slice (g,o) m c,k,.bool p,.slice (g',i) m' c',k'])/\zP w w':=by
 obtain⟨q,H,rfl,-,z,hc⟩:=xf d J;have c5:=yy h.c5 (.cells #[.bool false,.slice none 0 0,.int .i64 0,.bool false,.slice none 0 0,.int .i64 0] 253);have cc:∀j,j<6->(w.alloc (.cells #[.bool false,.slice none 0 0,.int .i64 0,.bool false,.slice none 0 0,.int .i64 0] 253)).cell? ⟨q,n*6+j,none⟩=(Qj f g o m c k++Qj p g' i m' c' k')[j]? := λj K=>by
  rw[zc _ _ _ z,hc _ J,xq J,a,D9]
 have r:=cc 0 J;have s:=cc 1 J;have t:=cc 2 J;have u:=cc 3 J;have x:=cc 4 J;have y:=cc 5 J;simp only[Qj,xX,xK,qA,qa,Ej]at r s t u x y;have k1:((n:Int)+1) - 1=(n:Int):=J;have L:vH.wrap (n:Int)=(n:Int):=Yy;have k2:(n:Int)<(n:Int)+1:=J;obtain⟨W,hW⟩:=zr (w.alloc (.cells #[.bool false,.slice none 0 0,.int .i64 0,.bool false,.slice none 0 0,.int .i64 0] 253));rw[hW]at c5 r s t u x y;have hb:zP w W:=Wx;have hr:∀j,W.cell? ⟨(w:Nat),j,none⟩=(#[gI false,.slice none 0 0,.int .i64 0,.bool false,.slice none 0 0,.int .i64 0]:Array Value)[j]? := λj=>by rw[<-hW];exact zf _ _ _ _ _
 have I:∀j,W.frozen? ⟨(w:Nat),j,none⟩=false:=λj=>by rw[<-hW];simp
 clear h d hc cc a;go_enter func112,ntmps112;go_wp2_with fail;try rw[hW]
 obtain⟨B,hB⟩:=zr (w:Nat);rw[hB]at hr I hb|-;have C:=hr 0;have r1:=hr 1;have r2:=hr 2;have D:=hr 3;have E:=hr 4;have F:=hr 5;simp only[gV,qA,qa]at C r1 r2 D E F;clear hr hW;refine DN (λW':z8=>zu W' b 5 (.slice (zU q 0) (n+1) H)/\zu W' q (n*6) (.bool f)/\zu W' q (n*6+1) (.slice (zU g o) m c)/\zu W' q (n*6+2) k/\zu W' q (n*6+3) (.bool p)/\zu W' q (n*6+4) (.slice (zU g' i) m' c')/\zu W' q (n*6+5) k') 12 (xB 12) 1 ⟨c5,r,s,t,u,x,y⟩ ?_;refine FT 12 (λG A=>?_);go_simp;refine A.out _ _ ?_;clear A G;refine FW ?_ _;go_wp2;refine yK (v := .agg #[.bool f,.slice (zU g o) m c,k,.bool p,.slice (zU g' i) m' c',k']) ?_ rfl ?_
 .simp[yN,results112,go_sem,C,r1,r2,D,E,F]
 .refine⟨rfl,?_⟩;rw[hB];(repeat(first|(with_reducible exact hb)|(with_reducible refine kp ?_)|(with_reducible refine ZD ?_ ?_ _;rotate_left;focus(exact Y _))))
end
variable{s:MkS}{hi lo:Nat}{α:Type}
def MkS.qw(P:MkS->Prop)(g:MkS->α->MkS)(b:∀s a,P s->P (g s a)):∀(l:List α) (s:MkS),P s->P (l.foldl g s)
 |[],_,h=>h
 |a::l,s,h=>MkS.qw P g b l _ (b s a h)
structure qi(P:MkS->Prop):Prop where
 put:∀s op v k tg,P s->P (s.put op v k tg)
 const:∀s t,P s->P (s.const t)
 xH:∀s i j,P s->P (s.xH i j)
section
variable {P:MkS->Prop} (I:qi P)
include I
def qi.one(op:Nat)(t:Wd)(h:P s):P (s.one op t):=I.put _ _ _ _ _ (I.const _ _ h)
def qi.vN:∀(f:Fo) (s:MkS) (acc:List Nat),P s->P (MkS.vN f s acc).1
 |.xR k _ _ r,s,acc,h=>by
  rw[MkS.vN];split
  .exact qi.vN r s acc h
  .exact qi.vN r _ _ (I.const _ _ h)
 |.nil,_,_,h=>h
 |.text _ _,_,_,h=>h
 |.hash _,_,_,h=>h
 |.put _ _ _,_,_,h=>h
 |.num _ _ _,_,_,h=>h
 |.br _ _ _ _ _ _ _,_,_,h=>h
def qi.vq:∀(f:Fo) (s:MkS) (acc:List (Wd×Nat)),P s->P (MkS.vq f s acc).1
 |.xR k _ _ r,s,acc,h=>by
  rw[MkS.vq];split
  .exact qi.vq r _ _ (I.put _ _ _ _ _ h)
  .exact qi.vq r s acc h
 |.nil,_,_,h=>h
 |.text _ _,_,_,h=>h
 |.hash _,_,_,h=>h
 |.put _ _ _,_,_,h=>h
 |.num _ _ _,_,_,h=>h
 |.br _ _ _ _ _ _ _,_,_,h=>h
def qi.plu(n o:Wd)(bs:Fo)(s0:MkS)(k:Wd)(h:P s):P (MkS.kZ n o bs s0 k s):=zxy
def qi.go:∀(f:Fo) (a:Wd->MkS->MkS) (s:MkS) (ls:List Nat),(∀k s,P s->P (a k s))->P s->P (MkS.ur f a s ls).1
 |.nil,_,_,_,_,h=>h
 |.text t r,a,s,ls,hb,h=>qi.go r a _ ls hb (I.one _ _ h)
 |.hash r,a,s,ls,hb,h=>qi.go r a _ ls hb (I.put _ _ _ _ _ h)
 |.put n _ r,a,s,ls,hb,h=>qi.go r a _ ls hb (I.one _ _ h)
 |.num n _ r,a,s,ls,hb,h=>qi.go r a _ ls hb (I.one _ _ h)
 |.br n _ f o _ bs r,a,s,ls,hb,h=>by
  rw[MkS.ur];split
  .exact qi.go r a _ ls hb (MkS.qw P _ (λs i h=>I.xH _ _ _ h) _ _ (qi.go bs _ _ _ (λk x hx=>I.xH _ _ _ hx) (I.put _ _ _ _ _ (I.vN bs _ _ (I.const _ _ h)))))
  .exact qi.go r a _ ls hb (I.put _ _ _ _ _ (MkS.qw P _ (λs i h=>I.xH _ _ _ h) _ _ (qi.go bs _ _ _ (λk x hx=>I.plu n o bs s k hx) (I.put _ _ _ _ _ (I.vq bs _ _ (I.put _ _ _ _ _ (I.const _ _ h)))))))
 |.xR k _ m r,a,s,ls,hb,h=>qi.go r a _ _ hb (I.put _ _ _ _ _ (qi.go m _ _ _ (λ_ _ h=>h) (hb k s h)))
def qi.all(f:Fo)(h:P MkS.start):P (MkS.all f):=I.put _ _ _ _ _ (I.go f _ _ _ (λ_ _ h=>h) h)
end
def yuj:qi λs=>∀x∈s.code,x.pos<=s.pos:=by
 refine⟨λs op v k tg h x hx=>?_,λs t h=>?_,λs i j h x hx=>?_⟩
 .simp only[MkS.put,zS,zJ]at hx|-;rcases hx with hx|rfl
  .have:=h x hx;omega
  .show s.pos<=_;omega
 .obtain⟨-,z2,a⟩:=xM s t;rw[z2,a];exact h
 .simp only[MkS.xH]at hx|-;obtain⟨n,hn,e⟩:=ql.1 hx;have h1:(s.code.modify i λx=>{ x with tg:=x.tg.set j s.pos })[n]? = some x:=Li;rw[Ja]at h1;cases hc:s.code[n]? with
  |none=>rw[hc]at h1;cases h1
  |some y =>
   rw[hc]at h1;have:=h y (zW hc);simp at h1;subst h1;split<;>exact this
structure ug(q:Nat)(s:MkS)(vC vI:Value)(rs:List (Value×Value))(mb:Nat)(w:z8):Prop where
 q0:zu w q 0 vC
 q1:zu w q 1 vI
 q2:zu w q 2 (.map (some mb))
 cC:w.ownsRow 0 9 1 vC s.cs.length (s.cs.map zM)
 cI:w.ownsRow 0 87 5 vI s.code.length (dI s.code rs)
 rows:Uk w s.code rs
 mp:jR w mb s.code.length (qo s.code s.code.length)
def xl3(s:MkS)(w:z8)(e:xU)(w':z8):Prop:=∃q vC vI rs mb,e = .returned (.pointer (some ⟨q,0,none⟩))/\ug q s vC vI rs mb w'/\(w:Nat)<=q/\zP w w'
def ze9(w:z8):∃W,W=((w.alloc (.cells #[.slice none 0 0,.slice none 0 0,.map none] 84)).alloc (.map #[] 0)).alloc (.cells #[(w,0),.int .i64 0,.map (some ((w:Nat)+1))] 141) /\
  uZ ((w:Nat)+2) ⟨(w:Nat),(w:Nat),(w:Nat)+1,.slice none 0 0,.slice none 0 0,[]⟩ MkS.start W/\Fr yH yH w W:=by
 obtain⟨A,hA⟩:=zr (w.alloc (.cells #[.slice none 0 0,.slice none 0 0,.map none] 84));have g:(A:Nat)=(w:Nat)+1:=by rw[<-hA];simp
 have a:=λj=>zf w #[.slice none 0 0,.slice none 0 0,.map none] 84 (0,0) j
 have s:∀j,A.frozen? ⟨(w:Nat),j,none⟩=false:=by intro j;rw[<-hA];simp
 have tA:jh A (w:Nat)=some 84:=by rw[<-hA];exact bI _ _ _
 have o:Fr yH yH w A:=Hw;rw[hA]at a|-;clear hA;obtain⟨B,hB⟩:=zr (A.alloc (.map #[] 0));have c:(B:Nat)=(w:Nat)+2:=by rw[<-hB];simp[g]
 have e:=jU.made 3 A;have p:Fr yH yH A B:=WD;rw[hB,g]at e;rw[hB];clear hB;obtain⟨C,hC⟩:=zr (B.alloc (.cells #[(zU (w:Nat) 0),.int .i64 0,.map (some ((w:Nat)+1))] 141));have cC:=λj=>zf B #[(zU (w:Nat) 0),.int .i64 0,.map (some ((w:Nat)+1))] 141 (0,0) j
 have t:∀j,C.frozen? ⟨(w:Nat)+2,j,none⟩=false:=by intro j;rw[<-hC,<-c];simp
 have q:jh C ((w:Nat)+2)=some 141:=by rw[<-hC,<-c];exact bI _ _ _
 have d:Fr yH yH B C:=WB;rw[hC,c]at cC;rw[hC];clear hC;have f:=p.trans d;have l:ju []=λ_=>none:=by funext x;simp[ju]
 refine⟨C,rfl,⟨cC 0,cC 1,cC 2,f.cell (a 0) id,f.cell (a 1) id,f.cell (a 2) id,t,λj=>(f.frozen (show (w:Nat)<_ by omega) id).trans (s j),q,(yc (f.keep (w:Nat) J id)).trans tA,?_,xx _ _ _ _,xx _ _ _ _,⟨rfl,λn i r h=>by simp[MkS.start]at h,λn m r r' h=>by simp at h⟩,?_⟩,o.trans f⟩
 .show jU _ _ _ 0 (ju []);rw[l];exact e.fr d id
 .rintro k (rfl|rfl|rfl|b|b|⟨r,hr,-⟩)
  .show (w:Nat)<=(w:Nat)+2;omega
  .exact Yc
  .show (w:Nat)<=(w:Nat)+1;omega
  .cases b
  .cases b
  .cases hr
def zez(f:Fo)(w:z8)(a:Option yM)(c:Nat)(vs:List Value)(hr:U4 lo hi w a vs)(R:yd lo hi w vs f)(O:hi<=(w:Nat))(hm:f.yT=true)(hw:f.wf 2000000=true)(hc:f.YK)(hl:f.len<=2000000)(hs:f.cw<=890000)
  (hF:qj w) (hN:qx w):zC Tryz.prog 27 #[.slice a f.len c] w (xl3 (MkS.all f) w):=by
 have Em:=@run_makeMap Tryz.prog;obtain⟨W,hW,D,h⟩:=ze9 w;have g1:=X w _ (hF 0 J);have g2:=X w _ (hN 0 J);have m:XR lo hi w (w:Nat) W:=⟨⟨zj O h.size,λk h1 h2=>h.keep k J id⟩,O,hF.fr h (λ_ q=>q.elim) g1,λj hj=>h.cell (hN j hj) id,g1,g2⟩;obtain⟨i,E,p,Vc⟩:=hdd (yvb f _ _ MkS.start W a c vs D m hr R hm hw hc hl (by show 0+_<=_;omega)) m D h;clear hr R hm hw hc hl hF hN m D h;go_enter func27,ntmps27;go_wp2_with fail;rw[<-hW];obtain⟨P,hP⟩:=zr ((w:Nat)+2);rw[show (w:Nat)+1+1=P from hP];rw[hP]at i p;clear hP;refine i.o.mono ?_;rintro e w1 ⟨rfl,L1,z,⟨A,u⟩,y⟩;dsimp only at A u;obtain⟨s1,C⟩:=zr (MkS.Z7 f MkS.start);have V:=(aV f MkS.start).2;rw[C]at z V;have EV:s1.sz<=890000:=by have:MkS.start.sz=0:=rfl;omega
 unfold MkS.sz at EV;have v:XR lo hi w L1.B w1:=by rw[u];exact E.o.fr y p.o.lo
 have U:(xF ⟨0,s1.pos,0,[],[]⟩).length=1:=I6;have t:=Z (Z6 P L1 s1 0 0 [] [] (.slice none 0 0) (.slice none 0 0) w1 z (uq.nil _) (uq.nil _) (λg hg=>Vp) (λg hg=>by cases hg) (λg hg=>by cases hg) (λg hg=>WI)
  ⟨(by decide:0<12),zZ,zZ,zZ,zZ,rfl⟩ v.fo v.g1 J J (by rw[U];omega))
 have l:s1.put 0 0 [] []=MkS.all f:=by unfold MkS.all;rw[C]
 rw[l]at t;have K:=Z (yuj.all f (λx hx=>Qe));have hza:(MkS.all f).code.length<=900000/\(MkS.all f).pos<=900000:=by
  rw[<-l];have:=gh s1 0 0 [] [];rw[U]at this;unfold MkS.sz at this;omega
 have F:=Z y;clear hW z y i C V v l;go_wp2_with fail;refine t.o.mono ?_;rintro e w2 ⟨b9,c9,rfl,-,-,-,n,r,⟨S,Dj⟩,N,-,-⟩;have p0:=r.p0;obtain⟨H,b,VE,I⟩:=hdd (pR _ n (MkS.all f) w2 r J (λx hx=>by have:=K.o x hx;omega)) r N (show n.q=(w:Nat)from S.trans A);clear r N t A S u Dj;go_wp2_with fail;refine H.o.mono ?_;rintro e w3 ⟨rfl,mb,hmb,q0,q1,q2,Q,d⟩;have nq:∀g,n.has P g->jh w2 g≠some 84->g≠n.q:=by rintro g - hg rfl;exact hg b.o.tq
 have L:=d.own b.o.cC (λg hg=>(b.o.nC hg).2.1);have M:=d.own b.o.cI (λg hg=>(b.o.nI hg).2.1);have T:=b.o.rows.fr d (by rintro g rfl;rw[b.o.tq];simp);have p03:=d.cell p0 b.o.nP.1;have hqq:n.q=(w:Nat):=I.o;have s:zP w w3:=by
  have f12:Fr (λg=>(w:Nat)<=g) (λg=>(w:Nat)<=g) W w2:=((F.o.wide (G:=λg=>(w:Nat)<=g) (λg hg=>p.o.lo g hg)).trans (VE.o.wide (G:=λg=>(w:Nat)<=g) (λg hg=>by
   rcases hg with hg|hg|hg
   .have h1:=F.o.fp g hg;rcases h1 with h1|h1
    .exact p.o.lo g h1
    .exact M0
   .cases hg
   .cases hg)))
  have f13:=f12.trans (d.wide (G:=λg=>(w:Nat)<=g) (by rintro g rfl;show (w:Nat)<=n.q;omega));have:=((Vc.o.wide (G:=λg=>(w:Nat)<=g) (λ_ q=>q.elim)).trans f13);exact this.low (λk hk=>hk) (Y _)
 have HPA:=Z (show ug n.q (MkS.all f) n.vC n.vI n.rs mb w3 from⟨q0,q1,q2,L,M,T,Q⟩);have mf:=Z s;clear L M T s Q q0 q1 q2 d H nq hqq p0;go_wp2;go_ret;exact⟨_,_,_,_,mb,rfl,HPA.o,by rw[I.o];exact Y _,mf.o⟩
variable{j:Nat}{t:Wd}
structure zey(q k:Nat)(x:uG)(I n ic:Nat)(kv tv:Value)(w:z8):Prop where
 q1:zu w q 1 (.slice (I,0) n ic)
 lt:k<n
 op:zu w I (k*5) x.op
 v:zu w I (k*5+2) x.v
 kc:zu w I (k*5+3) kv
 tc:zu w I (k*5+4) tv
 kr:uq w kv x.k
 tr:uq w tv x.tg
section
variable {q mb k:Nat} {s:MkS} {vC vI:Value} {rs:List (Value×Value)} {w:z8}
def ug.ins{x:uG}(h:ug q s vC vI rs mb w)(hk:s.code[k]? = some x):∃I d kv tv,zey q k x I s.code.length d kv tv w:=by
 have a:=(zF.1 hk).1;obtain⟨⟨kv,tv⟩,hr⟩:∃r,rs[k]? = some r:=⟨_,zk GY⟩;obtain⟨h1,h2⟩:=h.rows.k k x _ hk hr;obtain⟨I,d,b,-,e,yn6⟩:=xf h.cI J;have c:∀j,j<5->w.cell? ⟨I,k*5+j,none⟩=(Jg x (kv,tv))[j]? := λj hj=>AU
 exact⟨I,d,kv,tv,by rw[h.q1,b],a,c 0 J,c 2 J,c 3 J,c 4 J,h1,h2⟩
def ug.con(h:ug q s vC vI rs mb w)(a:s.cs[j]? = some t):∃C cc,zu w q 0 (.slice (some ⟨C,0,none⟩) s.cs.length cc)/\zu w C j (zM t)/\j<s.cs.length:=by
 have b:=(zF.1 a).1;obtain⟨C,cc,hv,-,-,hc⟩:=xf h.cC J;exact⟨C,cc,by rw[h.q0,hv],by rw[hc j J,og,a];rfl,b⟩
def uq.at_{v:Value}{l:List Nat}{x:Nat}(h:uq w v l)(a:l[j]? = some x):∃g c,v = .slice (some ⟨g,0,none⟩) l.length c/\zu w g j x/\j<l.length:=by
 have b:=(zF.1 a).1;obtain⟨g,c,hv,-,-,hc⟩:=xf h J;exact⟨g,c,hv,by rw[hc j J];simp[bo,a],b⟩
end
section
variable {b q mb k:Nat} {s:MkS} {vC vI x1 x2 st v:Value} {rs:List (Value×Value)} {l:Wd} {w:z8} {x:uG}
def step_end(h:qK b (q,0) x1 x2 st v l w)(hp:ug q s vC vI rs mb w)(d:s.code[k]? = some x)(a:x.op=0)(hn:s.code.length<=1000000) :
  zC Tryz.prog 65 #[(b,0),k] w λe w'=>e = .returned (.int .i64 (-1))/\w=w':=by
 obtain⟨I,g,kv,tv,q1,lt,f,-⟩:=hp.ins d;obtain⟨n,c⟩:=zr s.code.length;rw[c]at q1 lt hn;rw[a]at f;have b0:=h.cell.1;have k1:(k:Int)<(n:Int):=J;clear h hp d a c;go_enter func65,ntmps65;go_wp2;go_ret;exact⟨rfl,rfl⟩
def rL(h:qK b (q,0) x1 x2 st v l w)(hp:ug q s vC vI rs mb w)(E:s.code[k]? = some x)(c:x.op=1)(D:x.k[0]? = some j)(F:s.cs[j]? = some t)(hn:s.code.length<=1000000)(hc:s.cs.length<=1000000)(a:l.length+t.length<=1000000000) :
  zC Tryz.prog 65 #[(b,0),k] w λe w'=>e = .returned ((k+1:Nat):Int)/\C3 b (q,0) x1 x2 st v (l++t) w w':=by
 obtain⟨I,O,kv,tv,q1,lt,M,-,G,-,kr,-⟩:=hp.ins E;obtain⟨C,cc,q0,L,g⟩:=hp.con F;obtain⟨K,kc,rfl,N,i⟩:=kr.at_ D;have p:=Z (Ge (w:=w.drew) t h a);obtain⟨n,A⟩:=zr s.code.length;obtain⟨m,y⟩:=zr s.cs.length;obtain⟨z,B⟩:=zr x.k.length;rw[A]at q1 lt hn;rw[y]at q0 g hc;rw[B]at G i;rw[c]at M;have b0:=h.cell.1;have k1:(k:Int)<(n:Int):=J;have k2:(j:Int)<(m:Int):=J;have k3:(0:Int)<(z:Int):=J;have P:(k:Int)<=1000000:=J;clear h hp E c A y B kr D F;go_enter func65,ntmps65;go_wp2_with fail;refine DN (λW':z8=>zu W' b 0 (zU q 0)/\zu W' q 0 (.slice (zU C 0) m cc)/\zu W' I (k*5+3) (.slice (zU K 0) z kc)/\zu W' K 0 j/\zu W' C j (zM t)) 18 (xB 18) 1 ⟨b0,q0,G,N,L⟩ ?_;refine FT 18 (λH r=>?_);go_simp;refine p.o.mono ?_;rintro e w2 ⟨⟨u,rfl⟩,d⟩;refine r.out _ _ ?_;clear r H;refine FW ?_ _;have f:=Z d;clear d p;go_wp2;go_ret;obtain⟨v',h1,h2⟩:=f.o;exact⟨Dm,v',h1,h2.und⟩
end
variable{A:Nat}{σ:Type}{u v:Value}{w w':z8}
abbrev kX(n:Nat):Value := .iface 28 n
def Nf(n:Nat)(w:z8):(zA (kX n) 20 28 true).run Tryz.prog w = .ok (.tuple #[n,.bool true]) w:=xV
def RP(w:z8):(zA .nilIface 20 28 true).run Tryz.prog w = .ok (.tuple #[.int .i64 0,.bool false]) w:=xV
def zex(A B:Nat)(w:z8):CallsD Tryz.prog 64 #[(A,0),(B,0)] .returning w λe c w'=>e = .returned (.tuple #[])/\c = .returning/\w'=w:=by
 refine EL func64 rfl λa cs b=>?_
 have ha:=RP;apply wpS_seq;apply wpS_region;simp[wpOpsS,go_sem,recoverD,b,ha,ntmps64,Fq];refine wpS_of_wp ?_;go_wp2;cases a;simp_all [bodyPostS,yN,results64]
def rM(A B n:Nat)(u v:Value)(a:List Eg)(w:z8)(hA:zu w A 0 u)(b:w.frozen? (A,0)=false)(hB:zu w B 0 v)(d:w.frozen? (B,0)=false)(hAB:B≠A) :
  CallsD Tryz.prog 64 #[(A,0),(B,0)] (.panicking ({ v:=kX n,recovered:=false }::a)) w λe g w' =>
   e = .returned (.tuple #[])/\g = .panicking ({ v:=kX n,recovered:=true }::a)/\w'=(w.setCell (A,0) (zM [])).setCell (B,0) (kX n):=by
 have ha:=Nf n;refine EL func64 rfl λh cs f=>?_
 apply wpS_seq;apply wpS_region;simp[wpOpsS,go_sem,recoverD,f,ha,ntmps64,Fq];refine wpS_of_wp ?_;simp only[xl,zX,QL,List.set_cons_zero,List.set_cons_succ,List.append_toArray,xX,xK,Act.put];have c:zu (w.setCell (zU A 0) (zM [])) B 0 v:=zvu;go_wp2;simp[bodyPostS,yN,results64]
def ae{σ:Type}(G:Nat->Prop)(I:Nat->σ->z8->Prop)(Jk K:σ->z8->Prop)(r:aI σ)(w:z8)(e:xU)(w':z8):Prop :=
 (match r with
  |.go k s=>e = .returned k/\I k s w'
  |.fin s=>e = .returned (.int .i64 (-1))/\Jk s w'
  |.err n s=>(∃ZI:List Eg,e = .panicked ({ v:=kX n,recovered:=false }::ZI)/\ZI.dropWhile (!·.goexit)=[])/\K s w'
  |.bad=>False)/\Fr G G w w'
def xl4{σ:Type}(G:Nat->Prop)(out:σ->Wd)(Zk:σ->z8->Prop)(r:Except (Nat×σ) σ)(w:z8)(e:xU)(w':z8):Prop :=
 (match r with
  |.ok s=>e = .returned (.tuple #[zM (out s),.nilIface])/\Zk s w'
  |.error (n,s)=>e = .returned (.tuple #[zM [],kX n])/\Zk s w')/\Fr G G w w'
def rN(w:z8)(p l g:Value):z8:=((w.alloc (.cells #[zM []] 9)).alloc (.cells #[.nilIface] 49)).alloc (.cells #[p,l,g,.pointer none,.slice none 0 0,.slice none 0 0] 167)
def rO(w:z8)(hA:(w:Nat)=A):kR A (zM []) .nilIface ((w.alloc (.cells #[zM []] 9)).alloc (.cells #[.nilIface] 49)):=by
 have h1:(w.alloc (.cells #[zM []] 9)).heap.size=A+1:=by simp[hA]
 have uo:A<(w.alloc (.cells #[zM []] 9)).heap.size:=J;exact yb2
def kR.fr(h:kR A u v w)(hf:Fr F F' w w')(ha:¬F A)(hb:¬F (A+1)):kR A u v w' :=
 h.keep λk a=>hf.keep k (by have:=h.lt;omega) (by rcases a with rfl|rfl<;>assumption)
def yrf{σ:Type}(G:Nat->Prop)(I:Nat->Nat->σ->z8->Prop)(Jk:σ->z8->Prop)(F:Nat->σ->aI σ)(r:Except (Nat×σ) σ)(A:Nat)(w:z8)(m:Nat)(kv:Value)(wr:z8):Prop :=
 ((∃k s,kv = .int .i64 (k:Nat)/\I m k s wr/\VQ F m k s=some r)\/∃s,kv = .int .i64 (-1)/\Jk s wr/\r = .ok s)/\kR A (zM []) .nilIface wr/\Fr G G w wr
def yug(G:Nat->Prop)(I:Nat->Nat->σ->z8->Prop)(Jk K Zk:σ->z8->Prop)(out:σ->Wd)(F:Nat->σ->aI σ)(fuel:Nat)(s0:σ)(r:Except (Nat×σ) σ)(w:z8)(pa la:Option yM)(S:Fn)(g1 g2:Array Value)
  (U:¬G (w:Nat)) (V:¬G ((w:Nat)+1)) (T:∀k,(w:Nat)+2<=k->G k) (h0:I fuel 0 s0 (rN w (.pointer pa) (.pointer la) (.func S g1 g2)))
  (u:∀s W,Jk s W->∃v x0 x1 x2 st,qK ((w:Nat)+2) x0 x1 x2 st v (out s) W/\(∀b,zH v b->(w:Nat)+2<=b)/\(out s).length<=1000000000/\∀W',Fr (λk=>k=(w:Nat)\/k=(w:Nat)+1\/zH v k) (λk=>k=(w:Nat)\/k=(w:Nat)+1\/zH v k) W W'->Zk s W')
  (hK:∀s W W',K s W->Fr (λk=>k=(w:Nat)\/k=(w:Nat)+1) (λk=>k=(w:Nat)\/k=(w:Nat)+1) W W'->Zk s W')
  (O:∀m k s W,I (m+1) k s W->F k s ≠ .bad->zC Tryz.prog 65 #[((w:Nat)+2,0),.int .i64 (k:Nat)] W (ae G (I m) Jk K (F k s) W))
  (hr:VQ F fuel 0 s0=some r):zC Tryz.prog 34 #[.pointer pa,.pointer la,.func S g1 g2] w (xl4 G out Zk r w):=by
 have hmf:∀(fn:Fn) (first cap:Array Value) (w:z8),(uV fn first cap).run Tryz.prog w = .ok (.func fn first cap) w:=λ_ _ _ _=>rfl
 obtain⟨A,hA⟩:=zr (w:Nat);rw[hA]at U V T u O hK;have z:=rO w hA;obtain⟨R,V6,HR,HKZ,P⟩:=Jl u O hr hK hA;have hW2:((w.alloc (.cells #[zM []] 9)).alloc (.cells #[.nilIface] 49)).heap.size=A+2:=by simp[hA]
 have M:Fr G G w (rN w (.pointer pa) (.pointer la) (.func S g1 g2)):=(((Fr.refl _ _).alloc _).alloc _).alloc _;have i:kR A (zM []) .nilIface (rN w (.pointer pa) (.pointer la) (.func S g1 g2)):=z.below ((zv _ _).alloc (Y _) _);obtain⟨W0,D⟩:=zr (rN w (.pointer pa) (.pointer la) (.func S g1 g2));rw[D]at M i h0;have HW0:=Z D;have H0:=Z h0;have HF0:=Z M;clear u O hr hK hA z D h0 M;go_enter_defers func34,ntmps34;go_wp2_with fail;rw[P.o];go_loopg [9] fuel (λm kv wr=>yrf G I Jk F r A w m kv wr)
 case atStart =>
  have e:=HW0.o;subst e;exact⟨.inl ⟨0,s0,rfl,H0.o,HR.o⟩,i,HF0.o⟩
 case round =>
  obtain⟨L,y,hfr⟩:=hrel;have j:=Z y;have C:=Z hfr;clear hW2 i hfr;rcases L with⟨k,s,rfl,hI,d⟩|⟨s,rfl,hI,Qf⟩
  .obtain⟨m,hm⟩:∃m,gk=m+1:=by
    refine⟨gk - 1,?_⟩;have:gk≠0:=λe=>by rw[e]at d;cases d
    omega
   rw[hm,VQ]at d;have HM:=Z hm;have g:=Z d;have iI:decide ((0:Int)<=(k:Int))=true:=zZ;have HS:=Z (V6.o m k s wr (by rw[<-hm];exact hI) (λe=>by rw[e]at d;cases d));clear hm d y hI;go_wp2_with fail;refine HS.o.mono ?_;rintro e w1 ⟨hq,hf⟩;have c:=j.o.fr hf U V;have l:=Z (C.o.trans hf);have d:=g.o;obtain⟨o,ho⟩:=zr (F k s);rw[ho]at hq d;clear ho hf HS g C j;cases o with
   |go k' s' =>
    obtain⟨rfl,p⟩:=hq;have HI:=Z p;have h:=Z c;have g:=Z (show VQ F m k' s'=some r from d);clear p c d;go_wp2;go_roundg m
    case measure=>have:=HM.o;omega
    case rel=>exact⟨.inl ⟨k',s',rfl,HI.o,g.o⟩,h.o,l.o⟩
   |fin s' =>
    obtain⟨rfl,p⟩:=hq;have HI:=Z p;have h:=Z c;have g:=Z (show(some (.ok s'):Option (Except (Nat×σ) σ))=some r from d);clear p c d;go_wp2;go_roundg m
    case measure=>have:=HM.o;omega
    case rel=>exact⟨.inr ⟨s',rfl,HI.o,(zL g.o).symm⟩,h.o,l.o⟩
   |bad=>exact hq.elim
   |err n s' =>
    obtain⟨⟨ZI,rfl,hold⟩,hk'⟩:=hq;have HK':=Z hk';clear hk';have Q:=Z hold;have g:=Z (show(some (.error (n,s')):Option (Except (Nat×σ) σ))=some r from d);clear hold d;go_wp2;refine qb (f:=64) (args:=#[(zU A 0),(zU (A+1) 0)]) zZ kL ?_;refine(rM A (A+1) _ _ _ _ _ c.c0 c.z0 c.c1 c.z1 J).mono ?_;rintro e u' Vk ⟨rfl,rfl,rfl⟩;have B:=(c.VX (x:=zM [])).Mn (x:=kX n);have E:=B.c0;have H:=B.c1;simp[UA,Eu,yN,results34,go_sem,E,H,Q.o];have hr:=zL g.o;rw[<-hr];exact⟨⟨rfl,HKZ.o s' _ _ HK'.o (((Fr.refl _ _).set (a:=(zU A 0)) _ (.inl (.inl rfl))).set (a:=(zU (A+1) 0)) _ (.inl (.inr rfl)))⟩,(l.o.set _ (.inr (by rw[P.o];exact Y _))).set _ (.inr (by rw[P.o];exact dK _))⟩
  .obtain⟨v,x0,x1,x2,st,ho,hv,hl,hz⟩:=R.o s wr hI;have HZ:=Z hz;have HG:=Z (yuu hv ho hl);have HRS:=Z Qf;clear hI Qf ho hv hl y hz;go_wp2_with fail;refine HG.o.mono ?_;rintro e w1 ⟨rfl,hb,hfv⟩;have HFV:=Z hfv;clear hfv;have c:=j.o.keep (λk hk=>hb.block k J);have uo:=j.o.lt;have Ue:Fr G G w w1:=C.o.trans ⟨hb.os,hb.tape,hb.output,hb.size,λk hk hn=>hb.block k (Nat.lt_of_not_le λq=>hn (T k q)),λ_ q => .inl q⟩;have l:=Z Ue;obtain⟨t,ht⟩:=zr (out s);rw[ht];have HT:=Z ht;have q0:=c.c0;have q1:=c.c1;have q2:=c.z0;have q3:=c.z1;have N:=c.VX (x:=zM t);have PV:=N.Mn (x := .nilIface);have q4:=N.c1;have q5:=N.z1;clear Ue hb ht HG;go_wp2;refine qb (f:=64) (args:=#[(zU A 0),(zU (A+1) 0)]) zZ kL ?_;refine(zex A (A+1) _).mono ?_;rintro e u' Vk ⟨rfl,rfl,rfl⟩;have E:=PV.c0;have H:=PV.c1;simp[UA,Eu,yN,results34,go_sem,E,H];rw[HRS.o];exact⟨⟨by rw[<-HT.o],HZ.o _ (((HFV.o.wide (λk hk => .inr (.inr hk))).set (a:=(zU A 0)) _ (.inl (.inl rfl))).set (a:=(zU (A+1) 0)) _ (.inl (.inr (.inl rfl))))⟩,(l.o.set _ (.inr (by rw[P.o];exact Y _))).set _ (.inr (by rw[P.o];exact dK _))⟩
variable{gv:Value}
def yrd(o:yru)(e:xU):Prop :=
 match o with
 |.no=>∃t b,e = .returned (.tuple #[.agg #[zM t,.bool b],.bool false])
 |.val t num=>t.length<=1000000/\e = .returned (.tuple #[.agg #[zM t,.bool num],.bool true])
 |.yrq=>False
section
variable {τ:Type}
def xl5(E:jd τ)(F S:τ->Nat->Prop)(Inv:τ->z8->Prop)(n:Wd)(s:τ)(w:z8)(e:xU)(w':z8):Prop :=
 yrd (E.get n s).1 e/\Inv (E.get n s).2 w'/\Fr (F s) (F (E.get n s).2) w w'/\∀k,S (E.get n s).2 k->S s k\/(w:Nat)<=k
structure Nd(gv:Value)(E:jd τ)(F S:τ->Nat->Prop)(Inv:τ->z8->Prop):Prop where
 call:∃K cp,gv = .func (.func K) #[] cp/\(∀args w,(callFunc K args).run Tryz.prog w = .ok (.enter K args) w)/\∀W s n,Inv s W->n.length<=5000000->zC Tryz.prog K (#[zM n]++cp) W (xl5 E F S Inv n s W)
 sub:∀s k,F s k->S s k
 Nb:∀s W k,Inv s W->S s k->k<W.heap.size
 keep:∀s W W',Inv s W->W.heap.size<=W'.heap.size->(∀k,S s k->W'.heap[k]? = W.heap[k]?)->Inv s W'
def Nd.fr{E:jd τ}{F S:τ->Nat->Prop}{Inv:τ->z8->Prop}(h:Nd gv E F S Inv){s:τ}{D b:Nat->Prop}(hi:Inv s w)(hf:Fr D b w w')(hd:∀k,D k->¬S s k):Inv s w' :=
 h.keep s w w' hi hf.size (λk a=>hf.keep k (h.Nb s w k hi a) (λq=>hd k q a))
def ai(A:Nat)(w:z8)(hA:zu w A 0 (.bool true)):CallsD Tryz.prog 191 #[(A,0)] .returning w λe c w'=>e = .returned (.tuple #[])/\c = .returning/\w'=w:=by
 refine EL func191 rfl λa cs b=>?_
 apply wpS_seq;apply wpS_region;simp[wpOpsS,go_sem,b,hA,ntmps191,Fq];refine wpS_of_wp ?_;go_wp2;cases a;simp_all [bodyPostS,yN,results191]
def yuf{E:jd τ}{F S:τ->Nat->Prop}{Inv:τ->z8->Prop}(C:Nd gv E F S Inv)(b:Nat)(n:Wd)(s:τ)(w:z8)(c2:zu w b 2 gv)(hi:Inv s w)(hn:n.length<=5000000) :
  zC Tryz.prog 146 #[(b,0),zM n] w (xl5 E F S Inv n s w):=by
 obtain⟨K,cp,rfl,ot,g⟩:=C.call;have hmf:∀(fn:Fn) (first cap:Array Value) (w:z8),(uV fn first cap).run Tryz.prog w = .ok (.func fn first cap) w:=λ_ _ _ _=>rfl
 obtain⟨A,hA⟩:=zr (w:Nat);obtain⟨V,hV⟩:=zr (((w.alloc (.cells #[.string ⟨#[]⟩,.bool false] 65)).alloc (.cells #[.bool false] 4)));obtain⟨W,p⟩:=zr (V.setCell (A+1,0) (.bool false));have s1:(w.alloc (.cells #[.string ⟨#[]⟩,.bool false] 65)).heap.size=A+1:=by simp[hA]
 have r:Fr yH yH w W:=by
  rw[<-p,<-hV];exact(((Fr.refl _ _).alloc _).alloc _).set _ (.inr (by rw[hA];exact dK _))
 have c2W:=r.cell c2 id;have I:(W:Nat)=A+2:=by rw[<-p,<-hV];simp[hA,xg]
 have v0:zu V A 0 (.string ⟨#[]⟩):=zv1;have v1:zu V A 1 (.bool false):=zv1;have v2:zu V (A+1) 0 (.bool false):=by rw[<-hV,<-s1];exact zf _ _ _ _ _
 have y0:∀j,V.frozen? ⟨A,j,none⟩=false:=λj=>by rw[<-hV,zV (xZ _ _ _ (by show A<_;omega)),<-hA];simp
 have y2:∀j,V.frozen? ⟨A+1,j,none⟩=false:=λj=>by rw[<-hV,<-s1];simp
 have a0:zu W A 0 (.string ⟨#[]⟩):=by rw[<-p];exact uH v0 _ (by show A+1≠A;omega)
 have a1:zu W A 1 (.bool false):=by rw[<-p];exact uH v1 _ (by show A+1≠A;omega)
 have a2:zu W (A+1) 0 (.bool false):=by rw[<-p];exact yw v2 _
 have z0:∀j,W.frozen? ⟨A,j,none⟩=false:=λj=>by rw[<-p,zO];exact y0 j
 have z2:∀j,W.frozen? ⟨A+1,j,none⟩=false:=λj=>by rw[<-p,zO];exact y2 j
 have R:zu V b 2 (.func (.func K) #[] cp):=by
  have:Fr yH yH w V:=by rw[<-hV];exact((Fr.refl _ _).alloc _).alloc _
  exact this.cell c2 id
 have U:(V:Nat)=A+2:=by rw[<-hV];simp[hA]
 have H:=C.fr hi r (λ_ q=>q.elim);obtain⟨HC,P,HG,Q,D,N,l⟩:=EY (g W s n H hn) r C (λk (x:S s k)=>C.Nb s w k hi x) C.sub hA I;clear r g H c2 hi C s1 I;go_enter_defers func146,ntmps146;go_wp2_with fail;try rw[p]
 clear p hV v0 v1 v2 y0 y2 U R hA;refine HC.o.mono ?_;rintro e w1 ⟨hr,u,c,i⟩;have m:∀k,A<=k->¬S s k:=λk x q=>by have:=Q.o k q;have:=N.o;omega
 have M:¬F s A:=λq=>m A (Y _) (D.o _ _ q)
 have y:¬F s (A+1):=λq=>m (A+1) J (D.o _ _ q)
 have b0:=c.cell a0 M;have b1:=c.cell a1 M;have b2:=c.cell a2 y;have k0:∀j,w1.frozen? ⟨A,j,none⟩=false:=λj=>(c.frozen (a:=⟨A,j,none⟩) (by show A<_;have:=l.o;omega) M).trans (z0 j)
 have k2:∀j,w1.frozen? ⟨A+1,j,none⟩=false:=λj=>(c.frozen (a:=⟨A+1,j,none⟩) (by show A+1<_;have:=l.o;omega) y).trans (z2 j)
 obtain⟨t,z,ok,rfl⟩:∃t z ok,e = .returned (.tuple #[.agg #[zM t,.bool z],.bool ok]):=by
  unfold yrd at hr;split at hr
  .obtain⟨t,b,h⟩:=hr;exact⟨t,b,_,h⟩
  .exact⟨_,_,_,hr.2⟩
  .exact hr.elim
 have HR:=Z hr;have HI:=Z (zg u (zg c i));have O:=Z m;clear hr u c i m M y a0 a1 a2 z0 z2 HC;go_wp2_with fail;obtain⟨L,B⟩:=zr ((((((w1.setCell (zU A 0) (zM t)).setCell (zU A 1) (.bool z)).setCell (zU (A+1) 0) (.bool true)).setCell (zU A 0) (zM t)).setCell (zU A 1) (.bool z)));rw[B];have n01:(⟨A,0,none⟩:yM)≠⟨A,1,none⟩:=zZ;have e2:zu L (A+1) 0 (.bool true):=by
  rw[<-B];exact uH (uH (yw (uH (uH b2 _ zZ) _ zZ) _) _ zZ) _ zZ
 have e0:zu L A 0 (zM t):=by
  rw[<-B,zo,yz zZ];refine yw (v:=zM t) ?_ _;refine uH ?_ _ zZ;rw[zo,yz zZ];exact yw b0 _
 have e1:zu L A 1 (.bool z):=by
  rw[<-B];refine yw (v := .bool z) ?_ _;rw[zo,yz zZ];refine uH ?_ _ zZ;refine yw (v := .bool false) ?_ _;rw[zo,yz zZ];exact b1
 have d:Fr (λk=>k=A\/k=A+1) (λk=>k=A\/k=A+1) w1 L:=by
  rw[<-B];exact(((((Fr.refl _ _).set _ (.inl (.inl rfl))).set _ (.inl (.inl rfl))).set _ (.inl (.inr rfl))).set _ (.inl (.inl rfl))).set _ (.inl (.inl rfl))
 clear B;refine qb (f:=191) (args:=#[(A+1,0)]) zZ kL ?_;refine(ai (A+1) _ e2).mono ?_;rintro e u' Vk ⟨rfl,rfl,rfl⟩;simp[UA,Eu,yN,results146,go_sem,e0,e1];obtain⟨u,c,i⟩:=HI.o;have T:∀k,(k=A\/k=A+1)->¬S (E.get n s).2 k:=by
  intro k x q;rcases i k q with q|q
  .exact O.o k J q
  .have:=l.o;omega
 refine⟨HR.o,HG.o.fr u d T,?_,λk x=>(i k x).imp id (λq=>by have:=l.o;have:=N.o;omega)⟩;have h1:Fr (F s) (F (E.get n s).2) w w1:=((P.o.wide (G:=F s) (λ_ q=>q.elim)).trans c);exact⟨d.os.trans h1.os,d.tape.trans h1.tape,d.output.trans h1.output,zj h1.size d.size,λk x hn=>(d.keep k (zD x h1.size) (λq=>by have:=N.o;omega)).trans (h1.keep k x hn),h1.fp⟩
end
def IM(t:Wd)(num:Bool)(w:z8)(i:t.length<=1000000) :
  zC Tryz.prog 62 #[.agg #[zM t,.bool num]] w λe w'=>e = .returned (.bool (bj t num))/\zP w w':=by
 have hb:∀d,yD w w (w.alloc d):=λd=>(zv _ _).alloc (Y _) _
 have g:(⟨t.toArray⟩:ByteArray).size=t.length:=size_mk _;cases num
 .have k1:((t.length:Int)<=60)=(t.length<=60):=by simp only[eq_iff_iff];omega
  have f:=Z (show bj t false=decide (t.length<=60)from rfl);have c:=Z (hb (.cells #[zM t,.bool false] 65));clear hb;go_enter func62,ntmps62;go_wp2;go_ret;rw[f.o];exact⟨zZ,c.o⟩
 .have f:=Z (show bj t true=ue t from rfl);have h:=λd=>Z (Yt ⟨t.toArray⟩ (w.alloc d) (by rw[g];exact i))
  go_enter func62,ntmps62;go_wp2_with fail;refine(h _).out.mono ?_;rintro e w1 ⟨b,v,k,rfl,⟨va,l,j,rfl⟩,a,-⟩;have c:=Z ((hb _).trans (a.mono zZ));clear hb a h;go_wp2;go_ret;rw[f.o];exact⟨rfl,c.o.alloc c.o.size _⟩
variable{q:Nat}{w1 w2:z8}
structure H9(b q j:Nat)(n:Wd)(w:z8):Prop where
 b0:zu w b 0 (q,0)
 c:∃C m cc,zu w q 0 (.slice (some ⟨C,0,none⟩) m cc)/\zu w C j (zM n)/\j<m/\m<=1000000
def H9.fr{b:Nat}{n:Wd}{D a:Nat->Prop}(h:H9 b q j n w)(hf:Fr D a w w')(hd:∀k,¬D k):H9 b q j n w':=by
 obtain⟨b0,C,m,cc,h1,h2,c⟩:=h;exact⟨hf.cell b0 (hd _),C,m,cc,hf.cell h1 (hd _),hf.cell h2 (hd _),c⟩
def yrb(n:Nat)(e:xU):Prop:=∃ZI:List Eg,e = .panicked ({ v:=kX n,recovered:=false }::ZI)/\ZI.dropWhile (!·.goexit)=[]
section
variable {τ:Type}
def QR{α:Type}(F S:τ->Nat->Prop)(Inv:τ->z8->Prop)(s:τ)(w:z8)(ok:α->τ->z8->xU->Prop)(r:Except (Nat×τ) (α×τ))(e:xU)(w':z8):Prop :=
 match r with
 |.ok (a,s')=>ok a s' w' e/\Inv s' w'/\Fr (F s) (F s') w w'/\∀k,S s' k->S s k\/(w:Nat)<=k
 |.error (n,s')=>yrb n e/\Inv s' w'/\Fr (F s) (F s') w w'/\∀k,S s' k->S s k\/(w:Nat)<=k
def QR.more{E:jd τ}{F S:τ->Nat->Prop}{Inv:τ->z8->Prop}(c:Nd gv E F S Inv){s s':τ}{D b:Nat->Prop}(h:Inv s' w1/\Fr (F s) (F s') w w1/\∀k,S s' k->S s k\/(w:Nat)<=k)(hf:Fr D b w1 w2)(hd:∀k,D k->¬S s' k/\(w:Nat)<=k):Inv s' w2/\Fr (F s) (F s') w w2/\∀k,S s' k->S s k\/(w:Nat)<=k :=
 ⟨c.fr h.1 hf (λk q=>(hd k q).1),⟨hf.os.trans h.2.1.os,hf.tape.trans h.2.1.tape,hf.output.trans h.2.1.output,zj h.2.1.size hf.size,λk a hn=>(hf.keep k (zD a h.2.1.size) (λq=>by have:=(hd k q).2;omega)).trans (h.2.1.keep k a hn),h.2.1.fp⟩,h.2.2⟩
def vc3(a:Wd×Bool)(_:τ)(_:z8)(e:xU):Prop:=a.1.length<=1000000/\e = .returned (.agg #[zM a.1,.bool a.2])
def NY{E:jd τ}{F S:τ->Nat->Prop}{Inv:τ->z8->Prop}(O:Nd gv E F S Inv)(b q j:Nat)(n:Wd)(s:τ)(w:z8)(c2:zu w b 2 gv)(hc:H9 b q j n w)(hi:Inv s w)(hn:n.length<=5000000) :
  zC Tryz.prog 106 #[(b,0),j] w (QR F S Inv s w vc3 (VK E n s)):=by
 obtain⟨W,hW⟩:=zr (w.alloc (.cells #[.string ⟨#[]⟩,.bool false] 65));have f:Fr yH yH w W:=by rw[<-hW];exact(Fr.refl _ _).alloc _
 obtain⟨A,hA⟩:=zr (w:Nat);have a0:zu W A 0 (.string ⟨#[]⟩):=WU;have a1:zu W A 1 (.bool false):=WU;have z0:∀j,W.frozen? ⟨A,j,none⟩=false:=λj=>by rw[<-hW,<-hA];simp
 have R:(W:Nat)=A+1:=by rw[<-hW];simp[hA]
 have r:∀k,S s k->k<A:=λk Q=>by rw[<-hA];exact O.Nb s w k hi Q
 have P:=O.fr hi f (λ_ q=>q.elim);obtain⟨b0,C,m,cc,q0,cj,hjm,hm⟩:=hc.fr f (λ_ q=>q);have z:=Z (yuf O b n s W (f.cell c2 id) P hn);have k1:(j:Int)<(m:Int):=J;obtain⟨Vc,HG,H,I⟩:=hdd f O r R;clear f P c2 hc hi O r R;go_enter func106,ntmps106;go_wp2_with fail;refine z.o.mono ?_;rintro e w1 ⟨hr,x,c,h⟩;have T:¬F s A:=λq=>by have:=H.o A (HG.o.sub _ _ q);omega
 have u:=c.cell a0 T;have K:=c.cell a1 T;have y0:∀j,w1.frozen? ⟨A,j,none⟩=false:=λj=>(c.frozen (a:=⟨A,j,none⟩) (by show A<_;have:=I.o;omega) T).trans (z0 j)
 obtain⟨⟨o,s'⟩,ho⟩:∃p,E.get n s=p:=⟨_,rfl⟩;rw[ho]at hr x c h;have M:Fr (F s) (F s') w w1:=(Vc.o.wide (G:=F s) (λ_ q=>q.elim)).trans c;have N:∀k,S s' k->S s k\/(w:Nat)<=k:=λk Q=>(h k Q).imp id (λq=>M0)
 have V:=Z ho;have HI:=Z (zg x (zg M N));have l:¬S s' A:=λq=>(h A q).elim (λq=>by have:=H.o A q;omega) (λq=>by have:=I.o;omega)
 have U:=Z l;clear x c h M N ho z a0 a1 z0 b0 q0 cj T l;cases o with
 |yrq=>exact hr.elim
 |no =>
  obtain⟨t,bb,rfl⟩:=hr;have B:=Z (show VK E n s = .error (12,s')by unfold VK;rw[V.o]);go_wp2;refine⟨rfl,?_⟩;rw[B.o];exact zyd
 |val t num =>
  obtain⟨ht,rfl⟩:=hr;have HT:=Z ht;have HV:=λW=>Z (IM t num W ht)
  go_wp2_with fail;refine(HV _).out.mono ?_;rintro e w2 ⟨rfl,g⟩;have lA:A<(w1:Nat):=X w1 _ u;have d:Fr yH yH w1 w2:=((Fr.refl _ _).alloc _).trans (Fr.of g);have d0:=d.cell u id;have d1:=d.cell K id;have d2:∀j,w2.frozen? ⟨A,j,none⟩=false:=λj=>(d.frozen (a:=⟨A,j,none⟩) lA id).trans (y0 j)
  have e0:zu w2 (w1:Nat) 0 (zM t):=(g.cell zZ).trans (zf _ _ _ _ 0);have e1:zu w2 (w1:Nat) 1 (.bool num):=(g.cell zZ).trans (zf _ _ _ _ 1);have HFZ:=Z d;have ue8:¬((w1:Nat)=A):=λe=>J
  have L:=QR.more HG.o HI.o d (λ_ q=>q.elim);have y:=Z L;clear g d u K y0 HV L;cases i:bj t num
  .have B:=Z (show VK E n s = .error (11,s')by unfold VK;rw[V.o];simp only[i];rfl);clear i;go_wp2;refine⟨rfl,?_⟩;rw[B.o];exact⟨⟨[],rfl,rfl⟩,y.o⟩
  .have B:=Z (show VK E n s = .ok ((t,num),s')by unfold VK;rw[V.o];simp only[i];rfl);clear i;go_wp2;refine yK (v := .agg #[zM t,.bool num]) ?_ rfl ?_
   .simp[yN,results106,go_sem,d0,d1]
   .rw[B.o];exact⟨⟨HT.o,rfl⟩,QR.more HG.o y.o (D:=λk=>k=A) (((Fr.refl (λk=>k=A) _).set (a:=(zU A 0)) _ (.inl rfl)).set (a:=(zU A 1)) _ (.inl rfl)) (λk Q=>by subst Q;exact⟨U.o,J⟩)⟩
end
end Go.Proofs.YtpggmjffejgakaaGreatDoor
namespace Go.Proofs.YtpggmjffejgakaaGreatDoor
open Go Go.RowKit Go.Extern.Stop Go.Stop Go.Extern
set_option maxRecDepth 10000
abbrev uR(t:Nat):Value := .pointer (12,t)
def rlm(z:Sem Value)(f:xm->yM->Nat->Nat->Sem Value)(v:Value) :
  ReflectliteValue.method z f #[v]=(do match <-ReflectliteValue.parts v with|none=>z|some (t,a,fl)=>f t a fl (fl % 32)):=rfl
def rls(v x:Value):ReflectliteValue.set #[v,x]=(do
  let (some (dst,a,fl),some (src,b,_)):=(<-ReflectliteValue.parts v,<-ReflectliteValue.parts x)
   |yfq (.noEntry "extern/(internal/reflectlite.Value).Set.zeroValue")
  if fl / ReflectliteValue.flagAddr % 2==0 then yfq (.noEntry "extern/(internal/reflectlite.Value).Set.unaddressable")
  let val <-Hm src b
  if <-Rtype.directlyAssignable dst src then iz dst a val
  else if <-Rtype.implements dst src then
   if (<-Rtype.kind src)==20 then
    match val with
    |.nilIface=>yfq (.noEntry "extern/reflectlite: a nil value of one interface type handed on as a value of another")
    |_=>iz dst a val
   else iz dst a (.iface src val)
  else panicString ("reflectlite.Set: value of type " ++ (<-Rtype.spelt src) ++ " is not assignable to type " ++ (<-Rtype.spelt dst))
  pure (.tuple #[])):=rfl
def K4(h:Value)(w:z8):(iy 496 224 (.agg #[h]) "Kind").run Tryz.prog w = .ok (278,h) w:=yq
def K5(h:Value)(w:z8):(iy 496 224 (.agg #[h]) "Elem").run Tryz.prog w = .ok (296,.agg #[h]) w:=yq
def bZ(h:Value)(w:z8):(iy 496 224 (.agg #[h]) "Implements").run Tryz.prog w = .ok (297,.agg #[h]) w:=yq
def fx(h:Value)(w:z8):(iy 496 224 (.agg #[h]) "AssignableTo").run Tryz.prog w = .ok (294,.agg #[h]) w:=yq
def IN(t:yM)(w:z8):(ReflectliteValue.unpack (.iface 74 (.pointer (some t)))).run Tryz.prog w
  = .ok (.agg #[uR 74,(w,0),.int .u64 150]) (w.alloc (.cells #[.pointer (some t)] 74)):=yq
def zev(a:yM)(w:z8):(ReflectliteValue.methodAny (ReflectliteValue.valueError "reflectlite.Value.Type" 0) (λt _ _ _=>ReflectliteType.toType t) #[.agg #[uR 74,.pointer (some a),.int .u64 150]]).run Tryz.prog w
  = .ok (.iface 224 (.agg #[uR 74])) w:=yq
def mZ(w:z8):((ReflectliteType.abiMethod λt=>(λa:Nat=>yb KU (a:Int)) <$> Rtype.kind t) #[uR 74]).run Tryz.prog w = .ok (.int .u8 22) w:=yq
def mY(w:z8):((ReflectliteType.abiMethod λt=>(λa:Nat=>yb KU (a:Int)) <$> Rtype.kind t) #[uR 72]).run Tryz.prog w = .ok (.int .u8 22) w:=yq
def mX(a:yM)(w:z8):(ReflectliteValue.parts (.agg #[uR 74,.pointer (some a),.int .u64 150])).run Tryz.prog w = .ok (some (74,a,150)) w:=yq
def mV(a p:yM)(W:z8)(ha:W.cell? a=some (.pointer (some p))) :
  (ReflectliteValue.method (ReflectliteValue.valueError "reflectlite.Value.IsNil" 0) ReflectliteValue.isNil #[.agg #[uR 74,.pointer (some a),.int .u64 150]]).run Tryz.prog W = .ok (.bool false) W:=by
 rw[rlm];simp only[js,mX,ym];simp[ReflectliteValue.isNil,Hm,xjz,KQ,underlying74,ha,ym]
def zeu(w:z8):(ReflectliteType.method ReflectliteType.elem #[.agg #[uR 74]]).run Tryz.prog w = .ok (.iface 224 (.agg #[uR 72])) w:=yq
def zeq(w:z8):(ReflectliteType.relation "Implements" ReflectliteType.implements_ #[.agg #[uR 72],.iface 224 (.agg #[uR 49])]).run Tryz.prog w = .ok (.bool true) w:=yq
def zek(w:z8):(Rtype.elem? 74).run Tryz.prog w = .ok (some 72) w:=yq
def vc5(p:yM)(w:z8):(ReflectliteValue.mk 72 p ReflectliteValue.flagAddr).run Tryz.prog w = .ok (.agg #[uR 72,.pointer (some p),.int .u64 406]) w:=yq
def yud(a p:yM)(W:z8)(ha:W.cell? a=some (.pointer (some p))) :
  (ReflectliteValue.method (ReflectliteValue.valueError "reflectlite.Value.Elem" 0) ReflectliteValue.elem #[.agg #[uR 74,.pointer (some a),.int .u64 150]]).run Tryz.prog W
   = .ok (.agg #[uR 72,.pointer (some p),.int .u64 406]) W:=by
 rw[rlm];simp only[js,mX,ym];simp[ReflectliteValue.elem,Hm,xjz,KQ,underlying74,ha,ym,zek,vc5]
def zej(a:yM)(w:z8):(ReflectliteValue.parts (.agg #[uR 72,.pointer (some a),.int .u64 406])).run Tryz.prog w = .ok (some (72,a,406)) w:=yq
def rP(t:yM)(w:z8):(ReflectliteValue.unpack (.iface 77 (.pointer (some t)))).run Tryz.prog w
  = .ok (.agg #[uR 77,(w,0),.int .u64 150]) (w.alloc (.cells #[.pointer (some t)] 77)):=yq
def xz0(a:yM)(w:z8):(ReflectliteValue.methodAny (ReflectliteValue.valueError "reflectlite.Value.Type" 0) (λt _ _ _=>ReflectliteType.toType t) #[.agg #[uR 77,.pointer (some a),.int .u64 150]]).run Tryz.prog w
  = .ok (.iface 224 (.agg #[uR 77])) w:=yq
def yub(w:z8):((ReflectliteType.abiMethod λt=>(λa:Nat=>yb KU (a:Int)) <$> Rtype.kind t) #[uR 77]).run Tryz.prog w = .ok (.int .u8 22) w:=yq
def yq0(w:z8):((ReflectliteType.abiMethod λt=>(λa:Nat=>yb KU (a:Int)) <$> Rtype.kind t) #[uR 28]).run Tryz.prog w = .ok (.int .u8 2) w:=yq
def mU(a:yM)(w:z8):(ReflectliteValue.parts (.agg #[uR 77,.pointer (some a),.int .u64 150])).run Tryz.prog w = .ok (some (77,a,150)) w:=yq
def yq1(a p:yM)(W:z8)(ha:W.cell? a=some (.pointer (some p))) :
  (ReflectliteValue.method (ReflectliteValue.valueError "reflectlite.Value.IsNil" 0) ReflectliteValue.isNil #[.agg #[uR 77,.pointer (some a),.int .u64 150]]).run Tryz.prog W = .ok (.bool false) W:=by
 rw[rlm];simp only[js,mU,ym];simp[ReflectliteValue.isNil,Hm,xjz,KQ,underlying77,ha,ym]
def xz1(w:z8):(ReflectliteType.method ReflectliteType.elem #[.agg #[uR 77]]).run Tryz.prog w = .ok (.iface 224 (.agg #[uR 28])) w:=yq
def xz2(w:z8):(ReflectliteType.relation "Implements" ReflectliteType.implements_ #[.agg #[uR 28],.iface 224 (.agg #[uR 49])]).run Tryz.prog w = .ok (.bool true) w:=yq
def zeg(w:z8):(Rtype.elem? 77).run Tryz.prog w = .ok (some 28) w:=yq
def vc6(p:yM)(w:z8):(ReflectliteValue.mk 28 p ReflectliteValue.flagAddr).run Tryz.prog w = .ok (.agg #[uR 28,.pointer (some p),.int .u64 386]) w:=yq
def yq2(a p:yM)(W:z8)(ha:W.cell? a=some (.pointer (some p))) :
  (ReflectliteValue.method (ReflectliteValue.valueError "reflectlite.Value.Elem" 0) ReflectliteValue.elem #[.agg #[uR 77,.pointer (some a),.int .u64 150]]).run Tryz.prog W
   = .ok (.agg #[uR 28,.pointer (some p),.int .u64 386]) W:=by
 rw[rlm];simp only[js,mU,ym];simp[ReflectliteValue.elem,Hm,xjz,KQ,underlying77,ha,ym,zeg,vc6]
def zef(a:yM)(w:z8):(ReflectliteValue.parts (.agg #[uR 28,.pointer (some a),.int .u64 386])).run Tryz.prog w = .ok (some (28,a,386)) w:=yq
def zed(v:Value)(w:z8):(ReflectliteType.typeOf #[.iface 72 v]).run Tryz.prog w = .ok (.iface 224 (.agg #[uR 72])) w:=yq
def zeb(w:z8):(ReflectliteType.relation "AssignableTo" ReflectliteType.assignableTo #[.agg #[uR 72],.iface 224 (.agg #[uR 72])]).run Tryz.prog w = .ok (.bool true) w:=yq
def ao(e:yM)(w:z8):(ReflectliteValue.unpack (.iface 72 (.pointer (some e)))).run Tryz.prog w
  = .ok (.agg #[uR 72,(w,0),.int .u64 150]) (w.alloc (.cells #[.pointer (some e)] 72)):=yq
def zi0(a:yM)(w:z8):(ReflectliteValue.parts (.agg #[uR 72,.pointer (some a),.int .u64 150])).run Tryz.prog w = .ok (some (72,a,150)) w:=yq
def zi1(w:z8):(Rtype.directlyAssignable 72 72).run Tryz.prog w = .ok true w:=yq
def xl6(ta b:yM)(e:yM)(Oe:Value)(W:z8)(hb:W.cell? b=some (.pointer (some e)))(ht:W.cell? ta=some Oe)(hf:W.frozen? ta=false) :
  (ReflectliteValue.set #[.agg #[uR 72,.pointer (some ta),.int .u64 406],.agg #[uR 72,.pointer (some b),.int .u64 150]]).run Tryz.prog W
   = .ok (.tuple #[]) (W.setCell ta (.pointer (some e))):=by
 rw[rls];simp only[js,zej,zi0,ym];simp[ReflectliteValue.flagAddr,Hm,xjz,KQ,underlying72,hb,ym,zi1,iz,Jc,storeCells,bW];rw[run_store Tryz.prog W ta _ _ xV];simp[ht,hf]
def RR(v:Value)(w:z8):(ReflectliteType.typeOf #[.iface 28 v]).run Tryz.prog w = .ok (.iface 224 (.agg #[uR 28])) w:=yq
def zi2(w:z8):(ReflectliteType.relation "AssignableTo" ReflectliteType.assignableTo #[.agg #[uR 28],.iface 224 (.agg #[uR 28])]).run Tryz.prog w = .ok (.bool true) w:=yq
def ar(e:Int)(w:z8):(ReflectliteValue.unpack (.iface 28 e)).run Tryz.prog w
  = .ok (.agg #[uR 28,(w,0),.int .u64 130]) (w.alloc (.cells #[e] 28)):=yq
def zi3(a:yM)(w:z8):(ReflectliteValue.parts (.agg #[uR 28,.pointer (some a),.int .u64 130])).run Tryz.prog w = .ok (some (28,a,130)) w:=yq
def zi4(w:z8):(Rtype.directlyAssignable 28 28).run Tryz.prog w = .ok true w:=yq
def xl7(ta b:yM)(e:Int)(Oe:Value)(W:z8)(hb:W.cell? b=some (.int .i64 e))(ht:W.cell? ta=some Oe)(hf:W.frozen? ta=false) :
  (ReflectliteValue.set #[.agg #[uR 28,.pointer (some ta),.int .u64 386],.agg #[uR 28,.pointer (some b),.int .u64 130]]).run Tryz.prog W
   = .ok (.tuple #[]) (W.setCell ta e):=by
 rw[rls];simp only[js,zef,zi3,ym];simp[ReflectliteValue.flagAddr,Hm,xjz,KQ,underlying28,hb,ym,zi4,iz,Jc,storeCells,bW];rw[run_store Tryz.prog W ta _ _ xV];simp[ht,hf]
def RS(w:z8):(ReflectliteType.relation "AssignableTo" ReflectliteType.assignableTo #[.agg #[uR 28],.iface 224 (.agg #[uR 72])]).run Tryz.prog w = .ok (.bool false) w:=yq
def xz3(v:Value)(xT:xm)(w:z8):(zA (.iface 28 v) xT 229 true).run Tryz.prog w = .ok (.tuple #[.nilIface,.bool false]) w:=Ji underlying229 yq yq v xT w
def ah(v:Value)(xT:xm)(w:z8):(zA (.iface 28 v) xT 232 true).run Tryz.prog w = .ok (.tuple #[.nilIface,.bool false]) w:=Ji underlying232 yq yq v xT w
def RA(v:Value)(xT:xm)(w:z8):(zA (.iface 28 v) xT 234 true).run Tryz.prog w = .ok (.tuple #[.nilIface,.bool false]) w:=Ji underlying234 yq yq v xT w
def zi5(e t:yM)(Oe:Value)(w:z8)(hg:zu w 1 0 (.iface 224 (.agg #[uR 49])))(ht0:w.cell? t=some Oe)(hf0:w.frozen? t=false) :
  zC Tryz.prog 25 #[.iface 72 (.pointer (some e)),.iface 74 (.pointer (some t))] w λev w'=>ev = .returned (.bool true)/\∃o1 o2 o3 o4:Obj,w'=((((w.alloc o1).alloc o2).alloc o3).alloc o4).setCell t (.pointer (some e)):=by
 have h0:=@run_callFunc_extern Tryz.prog 43 _ (λargs=>ReflectliteValue.unpack (args.getD 0 (.tuple #[]))) func43 yq yq yq yq;have h1:=@run_callFunc_extern Tryz.prog 44 _ (ReflectliteValue.methodAny (ReflectliteValue.valueError "reflectlite.Value.Type" 0) (λt _ _ _=>ReflectliteType.toType t)) func44 yq (by kernel_rfl) (by kernel_rfl) (by kernel_rfl);have h2:=@run_callFunc_extern Tryz.prog 45 _ (ReflectliteValue.method (ReflectliteValue.valueError "reflectlite.Value.IsNil" 0) ReflectliteValue.isNil) func45 (by kernel_rfl) (by kernel_rfl) (by kernel_rfl) (by kernel_rfl);have h3:=@run_callFunc_extern Tryz.prog 278 _ (ReflectliteType.abiMethod λt=>do pure (.int .u8 (<-Rtype.kind t))) func278 (by kernel_rfl) (by kernel_rfl) (by kernel_rfl) (by kernel_rfl);have h4:=@run_callFunc_extern Tryz.prog 296 _ (ReflectliteType.method ReflectliteType.elem) func296 (by kernel_rfl) (by kernel_rfl) (by kernel_rfl) (by kernel_rfl);have h5:=@run_callFunc_extern Tryz.prog 297 _ (ReflectliteType.relation "Implements" ReflectliteType.implements_) func297 (by kernel_rfl) (by kernel_rfl) (by kernel_rfl) (by kernel_rfl);have h6:=@run_callFunc_extern Tryz.prog 92 _ (ReflectliteType.typeOf) func92 (by kernel_rfl) (by kernel_rfl) (by kernel_rfl) (by kernel_rfl);have h7:=@run_callFunc_extern Tryz.prog 294 _ (ReflectliteType.relation "AssignableTo" ReflectliteType.assignableTo) func294 (by kernel_rfl) (by kernel_rfl) (by kernel_rfl) (by kernel_rfl);have h8:=@run_callFunc_extern Tryz.prog 93 _ (ReflectliteValue.method (ReflectliteValue.valueError "reflectlite.Value.Elem" 0) ReflectliteValue.elem) func93 (by kernel_rfl) (by kernel_rfl) (by kernel_rfl) (by kernel_rfl);have h9:=@run_callFunc_extern Tryz.prog 94 _ (ReflectliteValue.set) func94 (by kernel_rfl) (by kernel_rfl) (by kernel_rfl) (by kernel_rfl);have mK:=K4;have mE:=K5;have mI:=bZ;have mA:=fx;have f1:=IN;have f2:=zev;have f3:=mZ;have f4:=mY;have f5:=zeu;have f6:=zeq;have n8:=mV ⟨(w:Nat),0,none⟩ t ((w.alloc (.cells #[.pointer (some t)] 74)).alloc (.cells #[uR 74,(w,0),.int .u64 150] 121)) zZ;have uo:1<(w:Nat):=AH;have I7:zu ((w.alloc (.cells #[.pointer (some t)] 74)).alloc (.cells #[uR 74,(w,0),.int .u64 150] 121)) 1 0 (.iface 224 (.agg #[uR 49])):=zyu;have htl:t.block<(w:Nat):=zyk;have el:=yud ⟨(w:Nat),0,none⟩ t (((w.alloc (.cells #[.pointer (some t)] 74)).alloc (.cells #[uR 74,(zU (w:Nat) 0),.int .u64 150] 121)).alloc (.cells #[uR 74,(zU (w:Nat) 0),.int .u64 150] 121)) zjf;have tO:=zed;have aT:=zeb;have vT:=ao;have st:=xl6 t ⟨(w:Nat)+1+1+1,0,none⟩ e Oe ((((w.alloc (.cells #[.pointer (some t)] 74)).alloc (.cells #[uR 74,(zU (w:Nat) 0),.int .u64 150] 121)).alloc (.cells #[uR 74,(zU (w:Nat) 0),.int .u64 150] 121)).alloc (.cells #[.pointer (some e)] 72))
  zg8
  zd0
  zfb
 go_enter func25,ntmps25;go_wp2;refine gY 1 ?_;rw[xL];go_wp2;go_ret;exact⟨rfl,_,_,_,_,rfl⟩
def zi6(e:Int)(t:yM)(Oe:Value)(w:z8)(hg:zu w 1 0 (.iface 224 (.agg #[uR 49])))(ht0:w.cell? t=some Oe)(hf0:w.frozen? t=false) :
  zC Tryz.prog 25 #[.iface 28 e,.iface 77 (.pointer (some t))] w λev w'=>ev = .returned (.bool true)/\∃o1 o2 o3 o4:Obj,w'=((((w.alloc o1).alloc o2).alloc o3).alloc o4).setCell t e:=by
 have h0:=@run_callFunc_extern Tryz.prog 43 _ (λargs=>ReflectliteValue.unpack (args.getD 0 (.tuple #[]))) func43 yq yq yq yq;have h1:=@run_callFunc_extern Tryz.prog 44 _ (ReflectliteValue.methodAny (ReflectliteValue.valueError "reflectlite.Value.Type" 0) (λt _ _ _=>ReflectliteType.toType t)) func44 yq (by kernel_rfl) (by kernel_rfl) (by kernel_rfl);have h2:=@run_callFunc_extern Tryz.prog 45 _ (ReflectliteValue.method (ReflectliteValue.valueError "reflectlite.Value.IsNil" 0) ReflectliteValue.isNil) func45 (by kernel_rfl) (by kernel_rfl) (by kernel_rfl) (by kernel_rfl);have h3:=@run_callFunc_extern Tryz.prog 278 _ (ReflectliteType.abiMethod λt=>do pure (.int .u8 (<-Rtype.kind t))) func278 (by kernel_rfl) (by kernel_rfl) (by kernel_rfl) (by kernel_rfl);have h4:=@run_callFunc_extern Tryz.prog 296 _ (ReflectliteType.method ReflectliteType.elem) func296 (by kernel_rfl) (by kernel_rfl) (by kernel_rfl) (by kernel_rfl);have h5:=@run_callFunc_extern Tryz.prog 297 _ (ReflectliteType.relation "Implements" ReflectliteType.implements_) func297 (by kernel_rfl) (by kernel_rfl) (by kernel_rfl) (by kernel_rfl);have h6:=@run_callFunc_extern Tryz.prog 92 _ (ReflectliteType.typeOf) func92 (by kernel_rfl) (by kernel_rfl) (by kernel_rfl) (by kernel_rfl);have h7:=@run_callFunc_extern Tryz.prog 294 _ (ReflectliteType.relation "AssignableTo" ReflectliteType.assignableTo) func294 (by kernel_rfl) (by kernel_rfl) (by kernel_rfl) (by kernel_rfl);have h8:=@run_callFunc_extern Tryz.prog 93 _ (ReflectliteValue.method (ReflectliteValue.valueError "reflectlite.Value.Elem" 0) ReflectliteValue.elem) func93 (by kernel_rfl) (by kernel_rfl) (by kernel_rfl) (by kernel_rfl);have h9:=@run_callFunc_extern Tryz.prog 94 _ (ReflectliteValue.set) func94 (by kernel_rfl) (by kernel_rfl) (by kernel_rfl) (by kernel_rfl);have mK:=K4;have mE:=K5;have mI:=bZ;have mA:=fx;have f1:=rP;have f2:=xz0;have f3:=yub;have f4:=yq0;have f5:=xz1;have f6:=xz2;have n8:=yq1 ⟨(w:Nat),0,none⟩ t ((w.alloc (.cells #[.pointer (some t)] 77)).alloc (.cells #[uR 77,(w,0),.int .u64 150] 121)) zZ;have uo:1<(w:Nat):=AH;have I7:zu ((w.alloc (.cells #[.pointer (some t)] 77)).alloc (.cells #[uR 77,(w,0),.int .u64 150] 121)) 1 0 (.iface 224 (.agg #[uR 49])):=zyu;have htl:t.block<(w:Nat):=zyk;have el:=yq2 ⟨(w:Nat),0,none⟩ t (((w.alloc (.cells #[.pointer (some t)] 77)).alloc (.cells #[uR 77,(zU (w:Nat) 0),.int .u64 150] 121)).alloc (.cells #[uR 77,(zU (w:Nat) 0),.int .u64 150] 121)) zjf;have tO:=RR;have aT:=zi2;have vT:=ar;have st:=xl7 t ⟨(w:Nat)+1+1+1,0,none⟩ e Oe ((((w.alloc (.cells #[.pointer (some t)] 77)).alloc (.cells #[uR 77,(zU (w:Nat) 0),.int .u64 150] 121)).alloc (.cells #[uR 77,(zU (w:Nat) 0),.int .u64 150] 121)).alloc (.cells #[e] 28))
  zg8
  zd0
  zfb
 go_enter func25,ntmps25;go_wp2;refine gY 1 ?_;rw[xL];go_wp2;go_ret;exact⟨rfl,_,_,_,_,rfl⟩
def yq3(e:Int)(t:yM)(Oe:Value)(w:z8)(hg:zu w 1 0 (.iface 224 (.agg #[uR 49])))(ht0:w.cell? t=some Oe)(hf0:w.frozen? t=false) :
  zC Tryz.prog 25 #[.iface 28 e,.iface 74 (.pointer (some t))] w λev w'=>ev = .returned (.bool false)/\∃o1 o2 o3:Obj,w'=((w.alloc o1).alloc o2).alloc o3:=by
 have h0:=@run_callFunc_extern Tryz.prog 43 _ (λargs=>ReflectliteValue.unpack (args.getD 0 (.tuple #[]))) func43 yq yq yq yq;have h1:=@run_callFunc_extern Tryz.prog 44 _ (ReflectliteValue.methodAny (ReflectliteValue.valueError "reflectlite.Value.Type" 0) (λt _ _ _=>ReflectliteType.toType t)) func44 yq (by kernel_rfl) (by kernel_rfl) (by kernel_rfl);have h2:=@run_callFunc_extern Tryz.prog 45 _ (ReflectliteValue.method (ReflectliteValue.valueError "reflectlite.Value.IsNil" 0) ReflectliteValue.isNil) func45 (by kernel_rfl) (by kernel_rfl) (by kernel_rfl) (by kernel_rfl);have h3:=@run_callFunc_extern Tryz.prog 278 _ (ReflectliteType.abiMethod λt=>do pure (.int .u8 (<-Rtype.kind t))) func278 (by kernel_rfl) (by kernel_rfl) (by kernel_rfl) (by kernel_rfl);have h4:=@run_callFunc_extern Tryz.prog 296 _ (ReflectliteType.method ReflectliteType.elem) func296 (by kernel_rfl) (by kernel_rfl) (by kernel_rfl) (by kernel_rfl);have h5:=@run_callFunc_extern Tryz.prog 297 _ (ReflectliteType.relation "Implements" ReflectliteType.implements_) func297 (by kernel_rfl) (by kernel_rfl) (by kernel_rfl) (by kernel_rfl);have h6:=@run_callFunc_extern Tryz.prog 92 _ (ReflectliteType.typeOf) func92 (by kernel_rfl) (by kernel_rfl) (by kernel_rfl) (by kernel_rfl);have h7:=@run_callFunc_extern Tryz.prog 294 _ (ReflectliteType.relation "AssignableTo" ReflectliteType.assignableTo) func294 (by kernel_rfl) (by kernel_rfl) (by kernel_rfl) (by kernel_rfl);have h8:=@run_callFunc_extern Tryz.prog 93 _ (ReflectliteValue.method (ReflectliteValue.valueError "reflectlite.Value.Elem" 0) ReflectliteValue.elem) func93 (by kernel_rfl) (by kernel_rfl) (by kernel_rfl) (by kernel_rfl);have h9:=@run_callFunc_extern Tryz.prog 94 _ (ReflectliteValue.set) func94 (by kernel_rfl) (by kernel_rfl) (by kernel_rfl) (by kernel_rfl);have mK:=K4;have mE:=K5;have mI:=bZ;have mA:=fx;have f1:=IN;have f2:=zev;have f3:=mZ;have f4:=mY;have f5:=zeu;have f6:=zeq;have n8:=mV ⟨(w:Nat),0,none⟩ t ((w.alloc (.cells #[.pointer (some t)] 74)).alloc (.cells #[uR 74,(w,0),.int .u64 150] 121)) zZ;have uo:1<(w:Nat):=AH;have I7:zu ((w.alloc (.cells #[.pointer (some t)] 74)).alloc (.cells #[uR 74,(w,0),.int .u64 150] 121)) 1 0 (.iface 224 (.agg #[uR 49])):=zyu;have htl:t.block<(w:Nat):=zyk;have tO:=RR;have aT:=RS;have n1:=xz3;have n2:=ah;have n3:=RA;go_enter func25,ntmps25;go_wp2;refine gY 1 ?_;rw[xL];go_wp2;go_ret;exact⟨rfl,_,_,_,rfl⟩
end Go.Proofs.YtpggmjffejgakaaGreatDoor
namespace Go.Proofs.YtpggmjffejgakaaGreatDoor
open Go Go.RowKit
set_option maxRecDepth 10000
variable{w w':z8}
def JF(w:z8):Prop:=w.cell? (1,0)=some (.iface 224 (.agg #[uR 49]))
def JF.below(h:JF w)(hb:zP w w'):JF w':=by
 have a:=X w _ h;unfold JF;rw[hb.cell (p:=(zU 1 0)) a];exact h
def aw(n:Int):Value:=if n=0 then .nilIface else .iface 28 n
def UQ(n at_:Int)(w:z8)(e:xU)(w':z8):Prop:=e = .returned (.tuple #[n,at_])/\zP w w'
def UK(w:z8):zC Tryz.prog 15 #[.nilIface] w (UQ 0 0 w):=by
 go_enter func15,ntmps15;go_wp2;go_ret2
 exact zg3
def zi7(n:Int)(w:z8)(h:JF w):zC Tryz.prog 15 #[.iface 28 n] w (UQ n 0 w):=by
 have g:=Z h;clear h;go_enter func15,ntmps15;go_wp2_with fail;refine yo ?_;intro W hW;have hb:zP w W:=Mk;have i:(w:Nat)+2<=(W:Nat):=by rw[hW];simp
 have hA:zu W (w:Nat) 0 (.pointer none)/\W.frozen? (zU (w:Nat) 0)=false:=WN;have hB:zu W ((w:Nat)+1) 0 (.int .i64 0)/\W.frozen? (zU ((w:Nat)+1) 0)=false:=WN;clear hW;refine(yq3 n ⟨(w:Nat),0,none⟩ _ W (g.o.below hb) hA.1 hA.2).mono ?_;rintro e w1 ⟨rfl,l,m,p,f⟩;have qE:zP W w1:=by rw[f];exact(((zv _ _).alloc (Y _) _).alloc zZ _).alloc yJ _
 have a:zu w1 ((w:Nat)+1) 0 (.int .i64 0)/\w1.frozen? ((w:Nat)+1,0)=false :=
  ⟨by rw[qE.cell yJ];exact hB.1,by rw[qE.frozen yJ];exact hB.2⟩
 have b:=hb.trans (qE.mono J);have j:(w:Nat)+2<=(w1:Nat):=A7;clear f hA hB qE i;go_wp2_with fail;refine(zi6 n ⟨(w:Nat)+1,0,none⟩ _ w1 (g.o.below b) a.1 a.2).mono ?_;rintro e w2 ⟨rfl,p1,p2,q,r,hw2⟩;have d:yD ((w:Nat)+1) w1 w2:=zd1;have c:=b.trans (d.mono J);have k:zu w2 ((w:Nat)+1) 0 n:=by
  rw[hw2,zo,yV rfl];rw[zc _ _ _ yJ,zc _ _ _ yJ,zc _ _ _ yJ,zc _ _ _ (by show (w:Nat)+1<_;omega),a.1];rfl
 clear hw2 d a;go_wp2;go_ret2
 exact⟨rfl,c⟩
def C4(n:Int)(w:z8)(a:JF w):zC Tryz.prog 15 #[aw n] w (UQ n 0 w):=by
 unfold aw;by_cases h:n=0
 .subst h;rw[yV rfl];exact UK w
 .rw[yz h];exact zi7 n w a
def NV:(Tryz.prog.info? 113).map (λj=>j.size)=some 2:=yq
def Hz(B b:Nat)(bs:List Value)(w:z8)(h:xP 113 5 B b bs w) :
  zC Tryz.prog 119 #[(b,0)] w λe w'=>e = .returned (.tuple #[])/\TU 113 5 B b (b,0) bs w'/\yD B w w':=by
 obtain⟨j,c,d⟩:=Option.map_eq_some_iff.1 NV;rcases h with h|h
 .have h0:=h.cell0;have a:=h.shape;have f:=h.frozen0;have H:=Z h;clear h;go_enter func119,ntmps119;go_wp2;rw[xj9 w ⟨b,0,none⟩ underlying111 underlying118 c (by rw[d];decide) a (Nat.zero_lt_succ 1)];simp only[ym];rw[jW];go_wp2;rw[run_callFunc_extern func157 yq yq yq (e:=YN) yq];rw[vz3];simp only[ym];rw[jW];go_wp2;rw[yeq w ⟨b,0,none⟩ underlying118 underlying111 c a yq];simp only[ym];rw[jW];go_wp2;go_end0
  exact⟨rfl,H.o.used _,(zv B w).setCell (p:=(b,0)) H.o.1 _⟩
 .have h0:=h.cell0;have H:=Z h;clear h;go_enter func119,ntmps119;go_wp2;rw[yfu w _ underlying111 c];go_wp2;go_end0
  exact⟨rfl,H.o,zv B _⟩
def Hy(B b:Nat)(bs:List Value)(r:Int)(q : -2147483648<=r)(s:r<=2147483647)(w:z8)(h:xP 113 5 B b bs w)(i:bs.length+4<=140737488355328)(x:B<=(w:Nat)) :
  zC Tryz.prog 70 #[(b,0),.int .i32 r] w λe w'=>(∃v,e = .returned v)/\xP 113 5 B b (bs++wk r) w'/\yD B w w':=by
 have z:=yfk r;go_enter func70,ntmps70;go_wp2_with fail;refine(Hz B b bs _ h).mono ?_;rintro e w1 ⟨rfl,h1,qE⟩;obtain⟨hB,v,Fc,c,f⟩:=h1;obtain⟨l,cap,rfl⟩:=zn c;have c0:zu w1 b 0 (zU b 0):=Gy;have c1:zu w1 b 1 (.slice l bs.length cap):=Gy;have n:b<(w1:Nat):=by
  rcases uM b (w1:Nat)with m |m
  .exact m
  .simp[Zu m]at Fc
 go_wp2_with fail;refine(Tryz.utf8_AppendRune_plain B _ bs.length bs r q s _ c i A7).mono ?_;rintro e w2 ⟨v',rfl,a,o,d⟩;have qY:w2.heap[b]? = some (.cells #[(b,0),.slice l bs.length cap] 113 (0,0)):=by
  rw[d.block b yJ (λe=>f e.symm),xZ w1 _ b n];exact Fc
 have d0:zu w2 b 0 (zU b 0):=Di;have d1:zu w2 b 1 (.slice l bs.length cap):=Di;have f1:w2.frozen? (b,1)=false:=uy qY 1;have g:=zn a;obtain⟨a',t,rfl⟩:=g;have u:=Z c;have j:=Z a;have A:=Z f;clear c a f;go_wp2;go_ret2
 refine⟨⟨_,rfl⟩,.inr ?_,?_⟩
 .exact vz4 (T:=113) (e:=5) hB qY (bs':=bs++wk r) (by simpa using j.o) zR
 .exact((qE.alloc A7 _).grown d (by have:=qE.size;simp;omega) (λk y=>(u.o.lt k y).1)).setCell (p:=(b,1)) hB _
structure Hx(w:z8)(g:Nat)(mi po gr fi ne:Int)(ds:List Int):Prop where
 c2:zu w g 2 (.int .i32 mi)
 c3:zu w g 3 (.int .i32 po)
 c4:zu w g 4 (.int .i32 gr)
 c5:zu w g 5 fi
 c6:zu w g 6 ne
 len:ds.length=10
 c7:∀j (h:j<ds.length),zu w g (7+j) (.int .i32 ds[j])
def Yl(gr fi ne:Int)(left:Nat):Bool:=gr !=0 && decide (0<fi) && decide (fi<=(left:Int)) && (((left:Int) - fi) % ne==0)
def Wm(g:Nat)(mi po gr:Int)(fi ne:Nat)(ds:List Int)(left:Nat)(w:z8)(h:Hx w g mi po gr fi ne ds)(p:left<=1000000)(hf:fi<=255)(hn:0<fi->0<ne)(j:ne<=255) :
  zC Tryz.prog 72 #[(g,0),left] w λe w'=>e = .returned (.bool (Yl gr fi ne left))/\∃n,w'=w.drewN n:=by
 have c4:=h.c4;have c5:=h.c5;have c6:=h.c6;clear h;by_cases h1:(gr !=0)=true
 .by_cases h2:(0:Int)<(fi:Int)
  .by_cases m:(fi:Int)<=(left:Int)
   .have b:0<fi:=(by omega);have c:fi<=left:=J;have a:Yl gr fi ne left=(((left:Int) - fi) % ne==0):=(by simp[Yl,h1,b,c]);have HF:=Z a;clear a;have k:0<ne:=hn J;have f:¬((ne:Int)=0):=J;have l:(0:Int)<=(left:Int) - (fi:Int):=J;exact Mq
   .have b:0<fi:=(by omega);have c:¬fi<=left:=J;have i:(left:Int)<(fi:Int):=J;have a:Yl gr fi ne left=false:=(by simp[Yl];omega);have HF:=Z a;clear a;exact Mq
  .have b:fi=0:=(by omega);subst b;clear h2;have a:Yl gr (0:Nat) ne left=false:=(by simp[Yl]);have HF:=Z a;clear a;exact Mq
 .have d:(gr !=0)=false:=by simpa using h1
  have a:Yl gr fi ne left=false:=by simp[Yl,d]
  have HF:=Z a;clear a h1;exact Mq
variable{gr mi po:Int}{B:Nat}{e:xm}
def yU.KL{a:Option yM}{l:List Int}(h:yU w a l)(hb:yD B w w')(e:∀q,a=some q->q.block<B):yU w' a l:=λj d=>by
 obtain⟨b,c,hc⟩:=h j d;refine⟨b,c,?_⟩;rw[hb.cell (by rw[addr_add];exact e b c)];exact hc
def Hx.below{g:Nat}{fi ne:Int}{ds:List Int}(h:Hx w g mi po gr fi ne ds)(hb:yD B w w')(a:g<B):Hx w' g mi po gr fi ne ds where
 c2:=by rw[hb.cell (p:=(zU g 2)) a];exact h.c2
 c3:=by rw[hb.cell (p:=(zU g 3)) a];exact h.c3
 c4:=by rw[hb.cell (p:=(zU g 4)) a];exact h.c4
 c5:=by rw[hb.cell (p:=(zU g 5)) a];exact h.c5
 c6:=by rw[hb.cell (p:=(zU g 6)) a];exact h.c6
 len:=h.len
 c7:=λj b=>by rw[hb.cell (p:=⟨g,7+j,none⟩) a];exact h.c7 j b
abbrev I32(r:Int):Prop:=-2147483648<=r/\r<=2147483647
def De(ds l:List Int)(i:Nat):List UInt8:=yA (ds.getD (l.getD i 0).toNat 0)
def VY(gr:Int)(fi ne:Nat)(ds l:List Int)(k:Nat):List UInt8 :=
 (xB k).flatMap λi=>(if 0<i && Yl gr fi ne (l.length - i)then yA gr else [])++De ds l i
def fO(po:Int)(ds l:List Int)(k:Nat):List UInt8 :=
 (xB k).flatMap λi=>(if i==0 then yA po else [])++De ds l i
def VS(neg:Bool)(l:List Int)(sc:Nat)(mi po gr:Int)(fi ne:Nat)(ds:List Int):List UInt8 :=
 (if neg then yA mi else [])++VY gr fi ne ds (l.take (l.length - sc)) (l.length - sc)++fO po ds (l.drop (l.length - sc)) sc
def I8(gr:Int)(fi ne:Nat)(ds l:List Int)(k:Nat):VY gr fi ne ds l (k+1)=VY gr fi ne ds l k++((if 0<k && Yl gr fi ne (l.length - k)then yA gr else [])++De ds l k):=by
 simp[VY,List.range_succ]
def B0(po:Int)(ds l:List Int)(k:Nat):fO po ds l (k+1)=fO po ds l k++((if k==0 then yA po else [])++De ds l k):=by
 simp[fO,List.range_succ]
def byteCells_append(a b:List UInt8):yx (a++b)=yx a++yx b:=by simp[yx]
def Vl(B b:Nat)(acc:List UInt8)(r:Int)(hr:I32 r)(w:z8)(h:xP 113 5 B b (yx acc) w)(c:acc.length<=1000000)(a:B<=(w:Nat)) :
  zC Tryz.prog 70 #[(b,0),.int .i32 r] w λe w'=>(∃v,e = .returned v)/\xP 113 5 B b (yx (acc++yA r)) w'/\yD B w w':=by
 rw[byteCells_append,Lib.byteCells_encodeRune];exact Hy B b _ r hr.1 hr.2 w h (by simp[yx];omega) a
def Ye(r:Int):(yA r).length<=4:=by
 have:=(yfk r).2;rw[Lib.runeCells_length]at this;exact this
def Pk(gr:Int)(fi ne:Nat)(ds l:List Int):∀k,(VY gr fi ne ds l k).length<=8*k
 | 0=>by simp[VY]
 |k+1=>by
  rw[I8];have:=Pk gr fi ne ds l k;have h1:=Ye gr;exact zv6
def I9(po:Int)(ds l:List Int):∀k,(fO po ds l k).length<=8*k
 | 0=>by simp[fO]
 |k+1=>by
  rw[B0];have:=I9 po ds l k;have h1:=Ye po;exact zv6
def IsBuilder.later{T:xm}{b:Nat}{bs:List Value}(h:xP T e B b bs w)(hb:zP w w'):xP T e B b bs w':=by
 have key:∀p,TU T e B b p bs w->TU T e B b p bs w':=λp h=>by
  have a:=h.lt;obtain⟨h1,v,h2,c,d⟩:=h;exact⟨h1,v,by rw[hb.block b a];exact h2,di c hb,d⟩
 exact h.elim (λx => .inl (key _ x)) (λx => .inr (key _ x))
def Ra(w:z8)(B:Nat)(hB:B<=(w:Nat)):xP 113 5 B (w:Nat) (yx []) (w.alloc (.cells #[.pointer none,.slice none 0 0] 113)) :=
 .inl ⟨hB,.slice none 0 0,Wf,xx _ _ _ _,Ak⟩
def KA{x:Int}(h:0<=x/\x<=9):∃m:Nat,x=(m:Int)/\m<10:=⟨x.toNat,J,J⟩
def IP(g gd od cap sc n:Nat)(b:Bool)(l:List Int)(mi po gr:Int)(fi ne:Nat)(ds:List Int)(w:z8)
  (hX:Hx w g mi po gr fi ne ds) (hg:g<(w:Nat)) (hB:yU w (some ⟨gd,od,none⟩) l) (hgd:gd<(w:Nat)) (hl:l.length=n) (hs:sc<=n) (Pf:n<=cap) (hn:n<=10000)
  (hd:∀x∈l,0<=x/\x<=9) (d:I32 mi/\I32 po/\I32 gr/\∀x∈ds,I32 x) (hfi:fi<=255) (gM:0<fi->0<ne) (vk0:ne<=255) :
  zC Tryz.prog 36 #[(g,0),.agg #[.bool b,.slice (gd,od) n cap,sc]] w λe w' =>
   e = .returned (zM (VS b l sc mi po gr fi ne ds))/\zP w w':=by
 have c2:=hX.c2;have G:¬((w:Nat)=g):=J;go_enter func36,ntmps36;have c:∀W:z8,W=((w.alloc (.cells #[.bool b,.slice (gd,od) n cap,sc] 99)).alloc (.cells #[.pointer none,.slice none 0 0] 113)) ->
   zP w W/\(W:Nat)=(w:Nat)+2/\zu W (w:Nat) 0 (.bool b)/\zu W (w:Nat) 1 (.slice (gd,od) n cap)/\W.cell? (w,2)=some (.int .i64 sc) /\
   xP 113 5 ((w:Nat)+1) ((w:Nat)+1) (yx []) W:=by
  intro W F;subst F;refine⟨((zv _ _).alloc (Y _) _).alloc zZ _,zZ,uU,uU,by go_simp,?_⟩;have:=Ra (w.alloc (.cells #[.bool b,.slice (gd,od) n cap,sc] 99)) ((w:Nat)+1) zZ;simpa using this
 have B:=d.1;have hpo:=d.2.1;have Pd:=d.2.2.1;have hds:=d.2.2.2;obtain⟨Ee,f⟩:∃a:List UInt8,a=if b then yA mi else []:=⟨_,rfl⟩;have HA:=Z f;have E:Ee.length<=4:=by rw[f];split;exact Ye mi;simp
 clear f d;cases b
 .go_wp2_with fail;refine yo ?_;intro r z;obtain⟨qE,D,YZ,Vj,Xq,iH⟩:=c r z;have ym1:xP 113 5 ((w:Nat)+1) ((w:Nat)+1) (yx Ee) r:=by rw[HA.o];exact iH
  clear z c iH;have xf2:(w:Nat)+2<=(r:Nat):=J;clear D;obtain⟨bb,OB⟩:∃bb:Bool,bb=false:=⟨_,rfl⟩;exact zqf
 .go_wp2_with fail;refine yo ?_;intro W0 y;obtain⟨A,C,s,t,u,iH⟩:=c W0 y;clear y c;refine(Vl _ _ _ _ B _ iH zZ J).mono ?_;rintro e r ⟨⟨v,rfl⟩,h,XB⟩;have ym1:xP 113 5 ((w:Nat)+1) ((w:Nat)+1) (yx Ee) r:=by rw[HA.o];exact h
  have qE:zP w r:=A.trans (XB.mono J);have xf2:(w:Nat)+2<=(r:Nat):=by have:=XB.size;omega
  have YZ:zu r (w:Nat) 0 (.bool true):=by rw[XB.cell zZ];exact s
  have Vj:zu r (w:Nat) 1 (.slice (zU gd od) n cap):=by rw[XB.cell zZ];exact t
  have Xq:zu r (w:Nat) 2 sc:=by rw[XB.cell zZ];exact u
  clear A C s t u iH h XB;go_wp2_with fail;obtain⟨bb,OB⟩:∃bb:Bool,bb=true:=⟨_,rfl⟩;exact zqf
def mQ(lo hi:Nat)(A B:z8):Prop:=(A:Nat)<=(B:Nat)/\∀j,j<lo\/(hi<=j/\j<(A:Nat))->B.heap[j]? = A.heap[j]?
def qe(w:z8)(c:Value)(r:Bool)(Q:z8->Value->Prop):Prop :=
 ∀W,zP w W->zC Tryz.prog 37 #[c] W λe W'=>(∃a n k,e = .returned (.tuple #[.slice a n k,.bool r])/\∀W2,mQ (w:Nat) W.heap.size W' W2->Q W2 (.slice a n k))/\zP W W'
abbrev Hv(c o:Value)(mi po gr fi ne:Int)(dg:ByteArray):Value :=
 .agg #[c,o,.int .i32 mi,.int .i32 po,.int .i32 gr,.int .u8 fi,.int .u8 ne,.string dg]
variable{o:Value}
structure C5(w:z8)(b:Nat)(c o:Value)(mi po gr fi ne:Int)(dg:ByteArray):Prop where
 c0:zu w b 0 c
 c1:zu w b 1 o
 c2:zu w b 2 (.int .i32 mi)
 c3:zu w b 3 (.int .i32 po)
 c4:zu w b 4 (.int .i32 gr)
 c5:zu w b 5 (.int .u8 fi)
 c6:zu w b 6 (.int .u8 ne)
 c7:zu w b 7 (.string dg)
def C5.below{b:Nat}{c:Value}{fi ne:Int}{dg:ByteArray}(h:C5 w b c o mi po gr fi ne dg)(hb:yD B w w')(a:b<B):C5 w' b c o mi po gr fi ne dg :=
 ⟨(hb.cell (p:=(b,0)) a).trans h.c0,(hb.cell (p:=(b,1)) a).trans h.c1,(hb.cell (p:=(b,2)) a).trans h.c2,(hb.cell (p:=(b,3)) a).trans h.c3,
  (hb.cell (p:=(b,4)) a).trans h.c4,(hb.cell (p:=(b,5)) a).trans h.c5,(hb.cell (p:=(b,6)) a).trans h.c6,(hb.cell (p:=(b,7)) a).trans h.c7⟩
def C5.drew{b:Nat}{c:Value}{fi ne:Int}{dg:ByteArray}(h:C5 w b c o mi po gr fi ne dg):C5 w.drew b c o mi po gr fi ne dg :=
 ⟨h.c0,h.c1,h.c2,h.c3,h.c4,h.c5,h.c6,h.c7⟩
def toList_eq(s:ByteArray):s.toList=s.data.toList:=by
 exact yfx s
def xS(ra rb:Bool)(mi po gr fi ne:Int)(dg:List UInt8):Bool :=
 ra && (rb && (dH mi && (dH po && (dH gr && (!(mi==0) && (!(po==0) && (decide (((qV dg).2:Int)=(dg.length:Int)) && ((decide (¬0<dg.length) || !(((qV dg).1.length:Int) !=10)) && (decide (fi<=9) && decide (ne<=9))))))))))
variable{ra rb:Bool}{nx:Int}{rs:List Int}{dg:List UInt8}{fi hi j pos:Nat}{cv ov:Value}{W W':z8}
def vc7:List UInt8:=[48,49,50,51,52,53,54,55,56,57]
def Kp(dg:List UInt8):List UInt8:=if dg=[]then vc7 else dg
def Rc(ra rb:Bool)(mi po gr:Int)(fi ne:Nat)(dg:List UInt8)(Qc Qo:z8->Value->Prop)(w:z8)(e:xU)(w':z8):Prop :=
 zP w w' /\
 if xS ra rb mi po gr fi ne dg then ∃(g:Nat) (cv ov:Value),e = .returned (g,0)/\(w:Nat)<=g/\g<(w':Nat) /\
   Hx w' g mi po gr fi ((if ne=0 then fi else ne:Nat):Int) (xz (Kp dg))/\zu w' g 0 cv/\w'.cell? (g,1)=some ov /\
   (∀W,zP w' W->Qc W cv)/\(∀W,zP w' W->Qo W ov)
 else e = .returned (.pointer none)
def V2(b:Nat)(A B:z8):Prop:=(A:Nat)<=(B:Nat)/\∀j,j≠b->j≠b+1->j<(A:Nat)->B.heap[j]? = A.heap[j]?
def V2.refl(b:Nat)(A:z8):V2 b A A:=⟨Y _,λ_ _ _ _=>rfl⟩
def V2.trans{b:Nat}{A B C:z8}(h:V2 b A B)(k:V2 b B C):V2 b A C :=
 ⟨zj h.1 k.1,λj h1 h2 a=>(k.2 j h1 h2 (zD a h.1)).trans (h.2 j h1 h2 a)⟩
def V2.below{b:Nat}{A B:z8}(h:zP A B):V2 b A B:=⟨h.size,λj _ _ a=>h.block j a⟩
def V2.set{b:Nat}{A B:z8}(h:V2 b A B)(p:yM)(v:Value)(hp:p.block=b\/p.block=b+1):V2 b A (B.setCell p v) :=
 h.trans ⟨zZ,λj h1 h2 _=>yZ _ _ _ _ J⟩
def V2.agree{b:Nat}{A B C:z8}(h:V2 b A B)(c:b+2<=hi)(hb:b+2<=(A:Nat))(k:zP B C):mQ b hi A C :=
 ⟨zj h.1 k.size,λj d=>by
  have a:j<(A:Nat):=J;rw[k.block j (zD a h.1)];exact h.2 j J J a⟩
def rR(h:Array Obj)(a b:Obj):((h.push a).push b)[h.size+1]? = some b:=by
 have e:h.size+1=(h.push a).size:=zZ;rw[e];exact Array.getElem?_push_size
def K6(r:Int):Lib.validRune r=dH r:=by
 unfold Lib.validRune dH;rw[decide_eq_decide];omega
def zi8{ne:Nat}(h:¬(ra=true/\rb=true/\max (fi:Int) (ne:Int)<=9/\¬mi=0/\¬po=0)):xS ra rb mi po gr fi ne dg=false:=by
 rw[<-VG];intro a;simp only[xS,zx,qu,beq_eq_false_iff_ne,vJ]at a;exact h ⟨a.1,a.2.1,J,a.2.2.2.2.2.1,a.2.2.2.2.2.2.1⟩
def Gi{ne:Nat}(h:dH mi=false\/dH po=false\/dH gr=false):xS ra rb mi po gr fi ne dg=false:=by
 rw[<-VG];intro a;simp only[xS,zx]at a;rcases h with h|h|h
 .rw[a.2.2.1]at h;cases h
 .rw[a.2.2.2.1]at h;cases h
 .rw[a.2.2.2.2.1]at h;cases h
def DO(h:du 3 4 w)(hb:zP w W):du 3 4 W:=ydu
def oT{ne:Nat}(h:zpf dg=false):xS ra rb mi po gr fi ne dg=false:=by
 rw[<-VG];intro a;simp only[xS,zx,vJ]at a;have h1:(qV dg).2=dg.length:=by have:=a.2.2.2.2.2.2.2.1;omega
 rw[(Jw dg).2 h1]at h;cases h
def P5{o:Obj}{a:yM}(h:a.block<(w:Nat)):(w.alloc o).cell? a=w.cell? a:=zc w o a h
def oS:(qV (⟨#[48,49,50,51,52,53,54,55,56,57]⟩:ByteArray).data.toList).1.length=10:=by
 have h:=(YR ⟨#[48,49,50,51,52,53,54,55,56,57]⟩ 10 0 zR zR (by rw[qR,(Jw _).1 zR];decide)).1;rw[qR]at h;rw[<-h];decide
def oW{ne:Nat}(hd:¬dg=[])(h:¬(qV dg).1.length=10):xS ra rb mi po gr fi ne dg=false:=by
 rw[<-VG];intro a;simp only[xS,zx,vR,vJ]at a;rcases a.2.2.2.2.2.2.2.2.1 with h1|h1
 .exact h1 (yv.2 hd)
 .refine h ?_;simp at h1;omega
def DR(B:Nat)(w:z8)(s:ByteArray)(pos:Nat):B<=(w:Nat)->yD B w (w.iter s pos):=λhB=>(zv _ _).alloc hB _
def heap_set{b:Nat}{cs:Array Value}{T:xm}{fr:Nat×Nat}(h:w.heap[b]? = some (.cells cs T fr))(v:Value):(w.setCell (b,j) v).heap[b]? = some (.cells (cs.setIfInBounds j v) T fr):=by
 simp[xg,vp,h]
structure RW(b:Nat)(c o cv ov:Value)(mi po gr fi ne nx:Int)(dg:ByteArray)(W:z8):Prop where
 hA:W.heap[b]? = some (.cells #[c,o,.int .i32 mi,.int .i32 po,.int .i32 gr,.int .u8 fi,.int .u8 ne,.string dg] 26 (0,0))
 hB:W.heap[b+1]? = some (.cells #[cv,ov,.int .i32 mi,.int .i32 po,.int .i32 gr,fi,nx,.int .i32 0,.int .i32 0,.int .i32 0,.int .i32 0,.int .i32 0,.int .i32 0,.int .i32 0,.int .i32 0,.int .i32 0,.int .i32 0] 132 (0,0))
def RW.below{b:Nat}{c:Value}{fi ne:Int}{dg:ByteArray}(h:RW b c o cv ov mi po gr fi ne nx dg W)(hb:yD B W W')(a:b+1<B):RW b c o cv ov mi po gr fi ne nx dg W' :=
 ⟨by rw[hb.block b J];exact h.hA,by rw[hb.block (b+1) a];exact h.hB⟩
def RW.a{b:Nat}{c:Value}{fi ne:Int}{dg:ByteArray}(h:RW b c o cv ov mi po gr fi ne nx dg W) :
  W.cell? (b,0)=some c/\zu W b 1 o/\zu W b 2 (.int .i32 mi)/\zu W b 3 (.int .i32 po)/\W.cell? (b,4)=some (.int .i32 gr) /\
  W.cell? (b,5)=some (.int .u8 fi)/\zu W b 6 (.int .u8 ne)/\zu W b 7 (.string dg)/\W.frozen? (b,7)=false :=
 ⟨zw h.hA 0,zw h.hA 1,zw h.hA 2,zw h.hA 3,zw h.hA 4,zw h.hA 5,zw h.hA 6,zw h.hA 7,uy h.hA 7⟩
def RW.b{b:Nat}{c:Value}{fi ne:Int}{dg:ByteArray}(h:RW b c o cv ov mi po gr fi ne nx dg W) :
  W.cell? (b+1,0)=some cv/\zu W (b+1) 1 ov/\zu W (b+1) 5 fi/\W.cell? (b+1,6)=some (.int .i64 nx) /\
  W.frozen? (b+1,0)=false/\W.frozen? (b+1,1)=false/\W.frozen? (b+1,6)=false :=
 ⟨zw h.hB 0,zw h.hB 1,zw h.hB 5,zw h.hB 6,uy h.hB 0,uy h.hB 1,uy h.hB 6⟩
def RW.VX{b:Nat}{c:Value}{fi ne:Int}{dg:ByteArray}(h:RW b c o cv ov mi po gr fi ne nx dg W)(v:Value):RW b c o v ov mi po gr fi ne nx dg (W.setCell (b+1,0) v) :=
 ⟨A3,AV⟩
def RW.Mn{b:Nat}{c:Value}{fi ne:Int}{dg:ByteArray}(h:RW b c o cv ov mi po gr fi ne nx dg W)(v:Value):RW b c o cv v mi po gr fi ne nx dg (W.setCell (b+1,1) v) :=
 ⟨A3,AV⟩
def RW.xl8{b:Nat}{c:Value}{fi ne:Int}{dg:ByteArray}(h:RW b c o cv ov mi po gr fi ne nx dg W)(v:Int):RW b c o cv ov mi po gr fi ne v dg (W.setCell (b+1,6) v) :=
 ⟨A3,AV⟩
def RW.xl9{b:Nat}{c:Value}{fi ne:Int}{dg:ByteArray}(h:RW b c o cv ov mi po gr fi ne nx dg W)(d:ByteArray):RW b c o cv ov mi po gr fi ne nx d (W.setCell (b,7) (.string d)) :=
 ⟨by rw[heap_set h.hA];rfl,by rw[yZ _ _ _ _ zZ];exact h.hB⟩
def rS(V:z8)(cs:List Value)(r:Array Value)(T:xm)(j:Nat)(v:Value)(h:cs[j]? = some v) :
  (V.alloc (.cells (cs.toArray++r) T)).drew.drew.cell? ((⟨(V:Nat),0,none⟩:yM).add j)=some v:=by
 have h1:(V.alloc (.cells (cs.toArray++r) T)).drew.drew.heap[(V:Nat)]? = some (.cells (cs.toArray++r) T):=by
  show(V.heap.push _)[(V:Nat)]? = _;simp
 have uo:j<cs.length:=by
  rcases uM j cs.length with a|a
  .exact a
  .rw[qT a]at h;cases h
 rw[vS,zw h1 j,Array.getElem?_append_left QS];simpa using h
def IW{V:z8}{g:Nat}{cs:Array Value}{T:xm}(h:V.heap[g]? = some (.cells cs T (0,0)))(hs:cs.size=17)(n:Nat)(hn:n=10) :
  (∀j,j<n->(V.cell? ⟨g,7+j,none⟩).isSome=true)/\∀j,j<n->V.frozen? ⟨g,7+j,none⟩=false:=by
 subst hn;refine⟨λj a=>?_,λj a=>uy h _⟩;rw[zw h (7+j)];have:7+j<cs.size:=J;simp[this]
def V2.setCells{b:Nat}{A:z8}:∀(vs:List Value) (B:z8) (o:Nat),V2 b A B->V2 b A (B.setCells (b+1) o vs)
 |[],_,_,h=>h
 |v::vs,B,o,h=>by
  unfold yfj;exact V2.setCells vs _ _ (h.set _ _ (.inr rfl))
def UJ{b:Nat}{A:z8}:∀(vs:List Value) (B:z8) (o:Nat),yD b A B->yD b A (B.setCells (b+1) o vs)
 |[],_,_,h=>h
 |v::vs,B,o,h=>by
  unfold yfj;exact UJ vs _ _ (h.setCell (dK b) _)
def yy0{ne:Nat}{D:List UInt8}(a:D=Kp dg)(f:max (fi:Int) (ne:Int)<=9)(b:¬mi=0)(c:¬po=0)(p1:dH mi=true)(p2:dH po=true)(d:dH gr=true)
  (hp:(qV D).2=D.length) (hc:(qV D).1.length=10):xS true true mi po gr fi ne dg=true:=by
 unfold Kp at a;by_cases h:dg=[]
 .subst h;have e:(qV []).2=0:=by rw[kN]
  simp[xS,p1,p2,d,b,c,e];omega
 .rw[yz h]at a;subst a;simp[xS,p1,p2,d,b,c,hp,hc];omega
def zy6{g i a:z8}{D:ByteArray}{d:Obj}{c z:Value}{ne nx e f:Nat}{p q:z8->Value->Prop}
  (h:RW (w:Nat) c z cv ov mi po gr fi ne (nx:Int) D a) (hb:zP w a) (G:(w:Nat)+2<=(a:Nat)) (s:rs.length=10) (n:nx=if ne=0 then fi else ne)
  (Qf:rs=xz D.data.toList) (r:D.data.toList=Kp dg) (x:xS true true mi po gr fi ne dg=true)
  (C:V2 (w:Nat) g a) (E:V2 (w:Nat) i a) (h1:(w:Nat)+2<=e) (t:(w:Nat)+2<=f) (z1:(w:Nat)+2<=(g:Nat)) (F:(w:Nat)+2<=(i:Nat))
  (q1:∀W,mQ (w:Nat) e g W->p W cv) (B:∀W,mQ (w:Nat) f i W->q W ov) :
  Rc true true mi po gr fi ne dg p q w (.returned ((w:Nat)+1,0)) (((a.iter D pos).alloc d).drew.drew.setCells ((w:Nat)+1) 7 (rs.map (yb .i32))):=by
 have u:((a.iter D pos).alloc d).drew.drew.heap[(w:Nat)+1]? = a.heap[(w:Nat)+1]? := by
  show((a.alloc _).alloc _).heap[(w:Nat)+1]? = _;rw[xZ _ _ _ yJ,xZ _ _ _ J]
 have b:=u.trans h.hB;have o:∀{A:z8},V2 (w:Nat) A a->V2 (w:Nat) A (((a.iter D pos).alloc d).drew.drew.setCells ((w:Nat)+1) 7 (rs.map (yb .i32))):=by
  intro A hA;refine V2.setCells _ _ _ (hA.trans ⟨?_,λj _ _ hj=>?_⟩)
  .show (a:Nat)<=((a.alloc _).alloc _).heap.size;simp;omega
  .show((a.alloc _).alloc _).heap[j]? = _;rw[xZ _ _ _ yJ,xZ _ _ _ hj]
 have l:yD w w (((a.iter D pos).alloc d).drew.drew.setCells ((w:Nat)+1) 7 (rs.map (yb .i32))):=by
  refine UJ _ _ _ ?_;have h1:yD w w ((a.iter D pos).alloc d):=(hb.trans (DR _ _ _ _ J)).alloc (by show _<=(a.alloc _).heap.size;simp;omega) _;exact⟨h1.os,h1.tape,h1.output,h1.size,h1.block⟩
 have y:=(o (V2.refl _ a)).1;generalize v:((a.iter D pos).alloc d).drew.drew=V at *;have out:∀j,j<7->(V.setCells ((w:Nat)+1) 7 (rs.map (yb .i32))).cell? ⟨(w:Nat)+1,j,none⟩=V.cell? ⟨(w:Nat)+1,j,none⟩:=λj hj=>Of _ _ _ _ _ (λ_ _ => .inl hj)
 refine⟨l,?_⟩;rw[yV x];refine⟨(w:Nat)+1,cv,ov,rfl,dK _,J,⟨?_,?_,?_,?_,?_,?_,?_⟩,?_,?_,λW k=>q1 W ((o C).agree h1 z1 k),λW k=>B W ((o E).agree t F k)⟩
 .rw[out 2 zR];exact zw b 2
 .rw[out 3 zR];exact zw b 3
 .rw[out 4 zR];exact zw b 4
 .rw[out 5 zR];exact zw b 5
 .rw[out 6 zR,<-n];exact zw b 6
 .rw[<-r,<-Qf];exact s
 .rw[<-r,<-Qf];intro j hj;have m:=World.cell?_setCells_in ((w:Nat)+1) (rs.map (yb .i32)) 7 V (by rw[vg];exact(IW b rfl _ s).1) j M4;rw[m,yzu]
 .rw[out 0 zR];exact zw b 0
 .rw[out 1 zR];exact zw b 1
def zy5(V:z8)(rs:List Int)(r:Array Value)(cap b:Nat){cs:Array Value}{T:xm}(d:rs.length=10)
  (c:(V.alloc (.cells ((rs.map (yb .i32)).toArray++r) 21)).drew.drew.heap[b]? = some (.cells cs T (0,0))) (hs:cs.size=17) :
  (Builtin.copy_ #[137,137] 3 #[.slice (b,7) 10 10,.slice (V,0) 10 cap]).run Tryz.prog (V.alloc (.cells ((rs.map (yb .i32)).toArray++r) 21)).drew.drew =
   .ok (goInt (rs.map (yb .i32)).length) ((V.alloc (.cells ((rs.map (yb .i32)).toArray++r) 21)).drew.drew.setCells b 7 (rs.map (yb .i32))):=by
 have hd:=IW c hs (rs.map (yb .i32)).length (by simp[d]);have a:=rS V (rs.map (yb .i32)) r 21;generalize (V.alloc (.cells ((rs.map (yb .i32)).toArray++r) 21)).drew.drew=W at *;exact run_copy_cells W 137 137 3 21 b 7 10 10 ⟨(V:Nat),0,none⟩ 10 cap (rs.map (yb .i32)) underlying137 yq (by simp[d]) a hd.1 hd.2 (by intro v hv;simp at hv;obtain⟨x,_,rfl⟩:=hv;rfl)
def C6(c o:Value)(ra rb:Bool)(mi po gr:Int)(fi ne:Nat)(dg:ByteArray)(Qc Qo:z8->Value->Prop)(w:z8)(hd:dg.size<=1000000)(hfi:fi<=255)(gM:ne<=255)
  (hc:qe w c ra Qc) (ho:qe w o rb Qo) (R:(∃a n k,c = .slice a n k)/\∃a n k,o = .slice a n k) (hT:du 3 4 w) :
  zC Tryz.prog 26 #[Hv c o mi po gr fi ne dg] w (Rc ra rb mi po gr fi ne dg.data.toList Qc Qo w):=by
 obtain⟨⟨ca,cn,s,rfl⟩,y,on,ok,rfl⟩:=R;have xlz:∀W:z8,(Y2 133 (.agg #[.int .i32 mi,.int .i32 po,.int .i32 gr]) (.int .i64 0)).run Tryz.prog W = .ok (.int .i32 mi) W:=λW=>yq
 have xly:∀W:z8,(Y2 133 (.agg #[.int .i32 mi,.int .i32 po,.int .i32 gr]) (.int .i64 1)).run Tryz.prog W = .ok (.int .i32 po) W:=λW=>yq
 have xlx:∀W:z8,(Y2 133 (.agg #[.int .i32 mi,.int .i32 po,.int .i32 gr]) (.int .i64 2)).run Tryz.prog W = .ok (.int .i32 gr) W:=λW=>yq
 obtain⟨L,O⟩:=zr dg.data.toList;rw[O];have HL:=Z O;clear O;have HC:=Z hc;have HO:=Z ho;clear hc ho;go_enter func26,ntmps26;go_wp2_with fail;refine yo ?_;intro W hW;have hR:RW (w:Nat) (.slice ca cn s) (.slice y on ok) (.slice none 0 0) (.slice none 0 0) mi po gr fi ne ne dg W:=by
  rw[hW];refine⟨?_,?_⟩
  .rw[xZ _ _ _ zZ];show(w.heap.push _)[(w:Nat)]? = _;simp
  .show((w.heap.push _).push _)[(w:Nat)+1]? = _;exact rR _ _ _
 have x:zP w W:=Mk;have H:(w:Nat)+2<=(W:Nat):=by rw[hW];simp
 clear hW;have HZW:=Z H;refine(HC.o W x).mono ?_;rintro e N ⟨⟨a1,n1,k1,rfl,E⟩,l⟩;have t:=hR.below l J;have G:zP w N:=x.trans (l.mono J);have hz1:(w:Nat)+2<=(N:Nat):=by have:=l.size;omega
 clear hR x H l;obtain⟨g0,g1,g2,g3,g4,g5,g6⟩:=t.b;obtain⟨a0,a1',a2,a3,a4,a5,a6,a7,a8⟩:=t.a;have HQ1:=Z E;clear E;go_wp2_with fail;refine yo ?_;intro z j;have Q:RW (w:Nat) (.slice ca cn s) (.slice y on ok) (.slice a1 n1 k1) (.slice none 0 0) mi po gr fi ne ne dg z:=by rw[j];exact t.VX _
 have m:zP w z:=by rw[j];exact G.setCell (p:=(zU ((w:Nat)+1) 0)) zZ _
 have Wl:yD w N z:=by rw[j];exact(zv _ _).setCell (p:=(zU ((w:Nat)+1) 0)) zZ _
 have EV:(w:Nat)+2<=(z:Nat):=by rw[j];simpa using hz1
 have s12:V2 (w:Nat) N z:=by rw[j];exact(V2.refl _ _).set _ _ (.inr rfl)
 clear j;refine(HO.o z m).mono ?_;rintro e W3 ⟨⟨C,M,I,rfl,F⟩,dD⟩;have u:=Q.below dD J;have q:zP w W3:=m.trans (dD.mono J);have Te:(w:Nat)+2<=(W3:Nat):=by have:=dD.size;omega
 have s13:=s12.trans (V2.below (b:=(w:Nat)) dD);clear a0 a1' a2 a3 a4 a5 a6 a7 a8 g0 g1 g2 g3 g4 g5 g6;obtain⟨g0,g1,g2,g3,g4,g5,g6⟩:=u.b;obtain⟨a0,a1',a2,a3,a4,a5,a6,a7,a8⟩:=u.a;have HQ3:=Z F;clear F;by_cases g:ra=true/\rb=true/\max (fi:Int) (ne:Int)<=9/\¬mi=0/\¬po=0
 .obtain⟨r1,r2,r3,r4,r5⟩:=g;have hmi:(mi==0)=false:=by simpa using r4
  have hpo:(po==0)=false:=by simpa using r5
  go_wp2_with fail;refine Js ?_;intro A f;have d:RW (w:Nat) (.slice ca cn s) (.slice y on ok) (.slice a1 n1 k1) (.slice C M I) mi po gr fi ne ne dg A:=by rw[f];exact u.Mn _
  have EN:zP w A:=by rw[f];exact q.setCell (p:=(zU ((w:Nat)+1) 1)) zZ _
  have uez:yD ((w:Nat)+1) W3 A:=by rw[f];exact(zv _ _).setCell (p:=(zU ((w:Nat)+1) 1)) zZ _
  have hz4:(w:Nat)+2<=(A:Nat):=by rw[f];simpa using Te
  have s34:V2 (w:Nat) W3 A:=by rw[f];exact(V2.refl _ _).set _ _ (.inr rfl)
  have HW4:=Z f;clear f;clear a0 a1' a2 a3 a4 a5 a6 a7 a8 g0 g1 g2 g3 g4 g5 g6;go_loopw [71] (λi wr=>∃k:Nat,k<=3/\i = .int .i64 k/\wr=A/\(0<k->dH mi=true)/\(1<k->dH po=true)/\(2<k->dH gr=true)) (λi _=>3 - (intOf i).toNat)
  case atStart=>exact⟨0,J,rfl,rfl,λh=>J,λh=>J,λh=>J⟩
  case round =>
   obtain⟨k,hk,rfl,EB,p1,p2,p3⟩:=hrel;subst EB;have KJ:k=0\/k=1\/k=2\/k=3:=J;rcases KJ with S|T|U|V
   .subst S;go_wp2_with fail;refine(Tryz.utf8_ValidRune mi _).mono ?_;rintro e w' ⟨rfl,rfl⟩;rw[K6];cases hp:dH mi
    .have HF:=Z (Gi (ra:=ra) (rb:=rb) (fi:=fi) (ne:=ne) (dg:=L) (mi:=mi) (po:=po) (gr:=gr) (.inl hp));exact WZ
    .have B:=Z hp;clear hp;go_wp2;go_roundw
     case rel=>exact⟨1,J,uN,by first|rfl|trivial,λ_=>B.o,λh=>J,λh=>J⟩
     case measure=>simp[intOf]
   .subst T;go_wp2_with fail;refine(Tryz.utf8_ValidRune po _).mono ?_;rintro e w' ⟨rfl,rfl⟩;rw[K6];cases hp:dH po
    .have HF:=Z (Gi (ra:=ra) (rb:=rb) (fi:=fi) (ne:=ne) (dg:=L) (mi:=mi) (po:=po) (gr:=gr) (.inr (.inl hp)));exact WZ
    .have B:=Z hp;clear hp;go_wp2;go_roundw
     case rel=>exact⟨2,J,uN,by first|rfl|trivial,λ_=>p1 J,λ_=>B.o,λh=>J⟩
     case measure=>simp[intOf]
   .subst U;go_wp2_with fail;refine(Tryz.utf8_ValidRune gr _).mono ?_;rintro e w' ⟨rfl,rfl⟩;rw[K6];cases hp:dH gr
    .have HF:=Z (Gi (ra:=ra) (rb:=rb) (fi:=fi) (ne:=ne) (dg:=L) (mi:=mi) (po:=po) (gr:=gr) (.inr (.inr hp)));exact WZ
    .have B:=Z hp;clear hp;go_wp2;go_roundw
     case rel=>exact⟨3,J,uN,by first|rfl|trivial,λ_=>p1 J,λ_=>p2 J,λ_=>B.o⟩
     case measure=>simp[intOf]
   .subst V;by_cases n0:ne=0
    .have n0':((ne:Int)==0)=true:=(by simp[n0]);by_cases d0:L=[]
     .have d0':dg.toList.isEmpty=true:=(by rw[toList_eq,HL.o,d0];rfl);obtain⟨g0,g1,g2,g3,g4,g5,g6⟩:=d.b;obtain⟨a0,a1',a2,a3,a4,a5,a6,a7,a8⟩:=d.a;go_wp2_with fail;refine yo ?_;intro W6 EM;obtain⟨D,hD⟩:∃D:ByteArray,D=⟨#[48,49,50,51,52,53,54,55,56,57]⟩:=⟨_,rfl⟩;obtain⟨nx,HNX,hnx⟩:∃nx:Nat,Hid (nx=if ne=0 then fi else ne)/\nx=fi:=⟨_,Z (by rw[yV n0]),rfl⟩;have hR6:RW (w:Nat) (.slice ca cn s) (.slice y on ok) (.slice a1 n1 k1) (.slice C M I) mi po gr fi ne (nx:Int) D W6:=(by rw[EM,hD,hnx];exact((d.xl8 _).xl9 _));have zy2:yD w wr W6:=iX;have s46:V2 (w:Nat) wr W6:=(by rw[EM];exact(((V2.refl _ _).set _ _ (.inr rfl)).set _ _ (.inl rfl)));exact zkg
     .have d0':dg.toList.isEmpty=false:=(by rw[toList_eq,HL.o];simpa using d0);obtain⟨g0,g1,g2,g3,g4,g5,g6⟩:=d.b;obtain⟨a0,a1',a2,a3,a4,a5,a6,a7,a8⟩:=d.a;go_wp2_with fail;refine yo ?_;intro W6 EM;obtain⟨D,hD⟩:∃D:ByteArray,D=dg:=⟨_,rfl⟩;obtain⟨nx,HNX,hnx⟩:∃nx:Nat,Hid (nx=if ne=0 then fi else ne)/\nx=fi:=⟨_,Z (by rw[yV n0]),rfl⟩;have hR6:RW (w:Nat) (.slice ca cn s) (.slice y on ok) (.slice a1 n1 k1) (.slice C M I) mi po gr fi ne (nx:Int) D W6:=(by rw[EM,hD,hnx];exact(d.xl8 _));have zy2:yD w wr W6:=iX;have s46:V2 (w:Nat) wr W6:=(by rw[EM];exact((V2.refl _ _).set _ _ (.inr rfl)));exact zkf
    .have n0':((ne:Int)==0)=false:=(by simpa using n0);by_cases d0:L=[]
     .have d0':dg.toList.isEmpty=true:=(by rw[toList_eq,HL.o,d0];rfl);obtain⟨g0,g1,g2,g3,g4,g5,g6⟩:=d.b;obtain⟨a0,a1',a2,a3,a4,a5,a6,a7,a8⟩:=d.a;go_wp2_with fail;refine yo ?_;intro W6 EM;obtain⟨D,hD⟩:∃D:ByteArray,D=⟨#[48,49,50,51,52,53,54,55,56,57]⟩:=⟨_,rfl⟩;obtain⟨nx,HNX,hnx⟩:∃nx:Nat,Hid (nx=if ne=0 then fi else ne)/\nx=ne:=⟨_,Z (by rw[yz n0]),rfl⟩;have hR6:RW (w:Nat) (.slice ca cn s) (.slice y on ok) (.slice a1 n1 k1) (.slice C M I) mi po gr fi ne (nx:Int) D W6:=(by rw[EM,hD,hnx];exact(d.xl9 _));have zy2:yD w wr W6:=iX;have s46:V2 (w:Nat) wr W6:=(by rw[EM];exact((V2.refl _ _).set _ _ (.inl rfl)));exact zkg
     .have d0':dg.toList.isEmpty=false:=(by rw[toList_eq,HL.o];simpa using d0);obtain⟨g0,g1,g2,g3,g4,g5,g6⟩:=d.b;obtain⟨a0,a1',a2,a3,a4,a5,a6,a7,a8⟩:=d.a;go_wp2_with fail;refine yo ?_;intro W6 EM;obtain⟨D,hD⟩:∃D:ByteArray,D=dg:=⟨_,rfl⟩;obtain⟨nx,HNX,hnx⟩:∃nx:Nat,Hid (nx=if ne=0 then fi else ne)/\nx=ne:=⟨_,Z (by rw[yz n0]),rfl⟩;have hR6:RW (w:Nat) (.slice ca cn s) (.slice y on ok) (.slice a1 n1 k1) (.slice C M I) mi po gr fi ne (nx:Int) D W6:=(by rw[EM,hD,hnx];exact d);have zy2:yD w wr W6:=iX;have s46:V2 (w:Nat) wr W6:=(by rw[EM];exact(V2.refl _ _));exact zkf
 .have HF:=Z (zi8 (gr:=gr) (dg:=L) g);go_wp2;all_goals first
   |(exfalso;refine g ⟨by assumption,by assumption,by assumption,by assumption,?_⟩;rename_i hh;simp_all;done)
   |(refine yK (v := .pointer none) ?_ rfl ?_
     focus(simp[yN,results26,go_sem, *])
     refine⟨q.trans ((zv _ _).setCell (p:=((w:Nat)+1,1)) zZ _),?_⟩;first
      |rw[HF.o]
      |(have hf:=HF.o;rw[‹ra=true›,‹rb=true›]at hf;rw[hf])
     exact rfl)
def yq4(l:List UInt8):(b8 l).1<=1114111:=by
 have hb:=(l.getD 0 0).toNat_lt;unfold b8 jI;repeat' split
 all_goals (simp only[];omega)
def K7:∀(n:Nat) (l:List UInt8),l.length<=n->∀x∈xz l,I32 x
 | 0,l,h,x,hx=>by
  have:l=[]:=zN J;subst this;rw[jN]at hx;cases hx
 |n+1,l,h,x,hx=>by
  by_cases a:l=[]\/xY l=0
  .rw[xz,dif_pos a]at hx;cases hx
  .simp only[not_or]at a;rw[jO a.1 a.2]at hx;have hp:=yv.2 a.1;rcases yX.1 hx with rfl|hx
   .have:=yq4 l;exact⟨J,J⟩
   .exact K7 n _ yJ x hx
def rT(c:UInt8)(h:yG c=true):48<=c.toNat/\c.toNat<=57:=by
 have:=(xr c).1 h;omega
variable{l:List UInt8}{xs:List Value}{n size:Nat}{v:Value}{w1:z8}
def qe.later{c:Value}{r:Bool}{Q:z8->Value->Prop}(h:qe w c r Q)(hb:zP w w1):qe w1 c r Q:=by
 intro W i;refine(h W (hb.trans (i.mono hb.size))).mono ?_;rintro e m ⟨⟨a,n,k,he,g⟩,b⟩;exact⟨⟨a,n,k,he,λf d=>g f ⟨d.1,λj l=>d.2 j (l.imp (λq=>zD q hb.size) id)⟩⟩,b⟩
def wrX(l:List UInt8)(mi po gr:Int)(fi ne:Nat)(dg:List UInt8):List UInt8:=VS (XA l) (xG (vQ l++ud l)) (ud l).length mi po gr fi (if ne=0 then fi else ne) (xz (Kp dg))
def QD(kn:Bool)(l:List UInt8)(mi po gr:Int)(fi ne:Nat)(dg:List UInt8):List UInt8 :=
 if kn && ue l then wrX l mi po gr fi ne dg else []
def QB(kn:Bool)(l:List UInt8):Int:=if kn then if ue l then 0 else 10 else 8
def mJ{base:Nat}(h:w.ownsRow base e size v n xs)(hn:0<n) :
  ∃g cap,v = .slice (some ⟨g,0,none⟩) n cap/\base<=g/\g<(w:Nat)/\n<=cap/\∀j,j<n*size->w.cell? ⟨g,j,none⟩=xs[j]? := by
 have a:=h.lt;rcases h.2 with⟨_,h0⟩|⟨g,cap,b,hv,c,f,h1,_,_,i⟩
 .omega
 .subst hv;exact⟨g,cap,rfl,c,(a g rfl).2,h1,λj d=>h.cellAt j d⟩
def zi9(l:List UInt8)(h:l.all yG=true):∀x∈xG l,0<=x/\x<=9:=by
 intro x hx;obtain⟨c,hc,rfl⟩:=uQ.1 hx;have:=rT c (zi.1 h c hc);omega
def Gl(h:ue l=true):(vQ l).all yG=true/\(ud l).all yG=true/\0<(vQ l).length/\(vQ l).length+(ud l).length<=30:=zku
def Re{ne:Nat}(h:xS ra rb mi po gr fi ne dg=true) :
  dH mi=true/\dH po=true/\dH gr=true/\(dg=[]\/(qV dg).1.length=10)/\fi<=9/\ne<=9:=by
 simp only[xS,zx,vR,vJ]at h;refine⟨h.2.2.1,h.2.2.2.1,h.2.2.2.2.1,?_,J,J⟩;rcases h.2.2.2.2.2.2.2.2.1 with h1|h1
 .exact .inl (zN J)
 .refine .inr ?_;simp at h1;omega
def c8{r:Int}(h:dH r=true):I32 r:=by
 have h1:(0<=r/\r<=1114111)/\(r<55296\/57343<r):=by unfold dH at h;simp at h;omega
 exact⟨J,J⟩
def cy(g:Nat)(v:Value)(l:List UInt8)(mi po gr:Int)(fi ne:Nat)(dg:List UInt8)(w:z8)(B:Nat)(ra rb:Bool)
  (o:xS ra rb mi po gr fi ne dg=true) (hn:ue l=true) (k:Hx w g mi po gr fi ((if ne=0 then fi else ne:Nat):Int) (xz (Kp dg))) (m:g<(w:Nat))
  (p:w.ownsRow B 5 1 v ((vQ l).length+(ud l).length) (vz (vQ l++ud l))) :
  zC Tryz.prog 36 #[(g,0),.agg #[.bool (XA l),v,((ud l).length:Int)]] w λe w' =>
   e = .returned (zM (wrX l mi po gr fi ne dg))/\zP w w':=by
 obtain⟨p1,p2,q,hd,f1,f2⟩:=Re o;obtain⟨d1,d2,hw,i⟩:=Gl hn;obtain⟨gd,cap,rfl,_,d,b,hc⟩:=mJ p J;unfold wrX;have a:(vQ l++ud l).all yG=true:=by rw[uJ,d1,d2];rfl
 refine IP g gd 0 cap (ud l).length _ (XA l) (xG (vQ l++ud l)) mi po gr fi (if ne=0 then fi else ne) (xz (Kp dg)) w k m ?_ d GV J b J
  (zi9 _ a) ⟨c8 p1,c8 p2,c8 q,λx hx=>K7 _ _ (Y _) x hx⟩ J (by intro h;split<;>omega) (by split<;>omega)
 intro j f;refine⟨_,rfl,?_⟩;have c:j<(vQ l++ud l).length:=by simpa[xG]using f
 rw[vS,hc j (by simp at c;omega)];have n:j<(xG (vQ l++ud l)).length:=f;simp only[vz,xG,og,yzu];rw[zk c];rfl
def C7(t:List UInt8)(v:Value)(w:z8)(e:xU)(w':z8):Prop:=e = .returned (.tuple #[zM t,v])/\zP w w'
structure cu(w:z8):Prop where
 rW:du 3 4 w
 err:JF w
def cu.below(h:cu w)(hb:zP w w'):cu w':=⟨DO h.rW hb,h.err.below hb⟩
def Ri(s:ByteArray)(c o:Value)(ra rb:Bool)(mi po gr:Int)(fi ne:Nat)(dg:ByteArray)(K L:z8->Value->Prop)(w:z8)(hs:s.size<=1000000)(hd:dg.size<=1000000)(H:fi<=255)(I:ne<=255)
  (hc:qe w c ra K) (P:qe w o rb L) (B:(∃a n k,c = .slice a n k)/\∃a n k,o = .slice a n k) (N:cu w) :
  zC Tryz.prog 21 #[.string s,Hv c o mi po gr fi ne dg] w
   (C7 (QD (xS ra rb mi po gr fi ne dg.data.toList) s.data.toList mi po gr fi ne dg.data.toList) (aw (QB (xS ra rb mi po gr fi ne dg.data.toList) s.data.toList)) w):=by
 obtain⟨Q,S,E,T⟩:=hdd hc P B N;clear hc P B N;go_enter func21,ntmps21;go_wp2_with fail;refine yo ?_;intro W hW;have hb:zP w W:=Qd;clear hW;refine(C6 c o ra rb mi po gr fi ne dg K L W hd H I (Q.o.later hb) (S.o.later hb) E.o (T.o.below hb).rW).mono ?_;rintro e w1 ⟨q,d⟩;have m:zP w w1:=hb.trans (q.mono hb.size);cases y:xS ra rb mi po gr fi ne dg.data.toList
 .rw[y,yz zZ]at d;subst d;have u:QD (xS ra rb mi po gr fi ne dg.data.toList) s.data.toList mi po gr fi ne dg.data.toList=[]:=by rw[y];rfl
  have i:QB (xS ra rb mi po gr fi ne dg.data.toList) s.data.toList=8:=by rw[y];rfl
  have l:=Z u;have j:=Z i;clear u i y hb q;go_wp2;go_ret2
  refine⟨?_,m⟩;rw[l.o,j.o];rfl
 .rw[y,yV rfl]at d;obtain⟨g,cv,ov,rfl,V,C,O,-⟩:=d;have U:=Z O;have z:=Z y;clear O y;go_wp2_with fail;refine(Yt s _ hs).mono ?_;rintro e w2 ⟨b,v,k,rfl,⟨va,vn,vk,rfl⟩,p,d⟩;have f:=m.trans (p.mono m.size);have x:=U.o.below p C;have D:g<(w2:Nat):=zD C p.size;cases hn:ue s.data.toList
  .have u:QD (xS ra rb mi po gr fi ne dg.data.toList) s.data.toList mi po gr fi ne dg.data.toList=[]:=(by unfold QD;rw[z.o,hn];rfl);have i:QB (xS ra rb mi po gr fi ne dg.data.toList) s.data.toList=10:=(by unfold QB;rw[z.o,hn];rfl);have l:=Z u;have j:=Z i;clear u i hn d p hb q x;go_wp2;go_ret2
   refine⟨?_,f.alloc (f.size) _⟩;rw[l.o,j.o];rfl
  .have u:QD (xS ra rb mi po gr fi ne dg.data.toList) s.data.toList mi po gr fi ne dg.data.toList=wrX s.data.toList mi po gr fi ne dg.data.toList:=(by unfold QD;rw[z.o,hn];rfl);have i:QB (xS ra rb mi po gr fi ne dg.data.toList) s.data.toList=0:=(by unfold QB;rw[z.o,hn];rfl);have l:=Z u;have j:=Z i;obtain⟨rfl,rfl,t⟩:=d hn;have R:=Z hn;have F:=Z t;have G:=Z x;clear u i hn d hb q x t;go_wp2_with fail;refine yo ?_;intro M YW;have h:zP w2 M:=DW;clear YW;refine(cy g (.slice va vn vk) s.data.toList mi po gr fi ne dg.data.toList M _ ra rb z.o R.o (G.o.below h D) (zD D h.size) (di F.o h)).mono ?_;rintro e w4 ⟨rfl,r⟩;have A:=(f.trans (h.mono f.size)).trans (r.mono (zj f.size h.size));clear h r f p;go_wp2;go_ret2
   refine⟨?_,A⟩;rw[l.o,j.o];rfl
def Rl(s:ByteArray)(c o:Value)(ra rb:Bool)(mi po gr:Int)(fi ne:Nat)(dg:ByteArray)(q r:z8->Value->Prop)(w:z8)(hs:s.size<=1000000)(hd:dg.size<=1000000)(l:fi<=255)(m:ne<=255)
  (hc:qe w c ra q) (u:qe w o rb r) (g:(∃a n k,c = .slice a n k)/\∃a n k,o = .slice a n k) (t:cu w) :
  zC Tryz.prog 11 #[.string s,Hv c o mi po gr fi ne dg] w
   (C7 (QD (xS ra rb mi po gr fi ne dg.data.toList) s.data.toList mi po gr fi ne dg.data.toList) (.int .i64 (QB (xS ra rb mi po gr fi ne dg.data.toList) s.data.toList)) w):=by
 have d:=λW h1 h2 A=>Ri s c o ra rb mi po gr fi ne dg q r W hs hd l m h1 h2 g A
 generalize QD (xS ra rb mi po gr fi ne dg.data.toList) s.data.toList mi po gr fi ne dg.data.toList=B at *;generalize QB (xS ra rb mi po gr fi ne dg.data.toList) s.data.toList=z at *;have f:=Z d;clear d;obtain⟨v,y,x,p⟩:=hdd hc u g t;clear hc u g t;go_enter func11,ntmps11;go_wp2_with fail;refine yo ?_;intro W hW;have hb:zP w W:=Qd;clear hW;refine(f.o W (v.o.later hb) (y.o.later hb) (p.o.below hb)).mono ?_;rintro e w1 ⟨rfl,i⟩;have b:zP w w1:=hb.trans (i.mono hb.size);clear hb i;go_wp2_with fail;refine(C4 z _ (p.o.below b).err).mono ?_;rintro e w2 ⟨rfl,j⟩;have h:=b.trans (j.mono b.size);clear j b;go_wp2;go_ret2
 exact⟨rfl,h⟩
variable{gv:Value}{t:Wd}
def mG{wh fr:Wd}(b:Bool)(ho:w.ownsRow B 5 1 v (wh.length+fr.length) (vz (wh++fr)))(h1:wh.all yG=true)(h2:fr.all yG=true)(c:0<wh.length)(d:wh.length+fr.length<=30) :
  fS (λk=>k<B) w (.agg #[.bool b,v,fr.length]) (b,(wh,fr)):=by
 obtain⟨g,cap,rfl,f,-,-⟩:=xf ho J;have a:wh.length+fr.length<=cap/\cap<=maxLen:=zjv;exact⟨g,0,cap,rfl,a.1,a.2,J,⟨_,Xa ho (m:=0) yJ zZ⟩,j6 ho zZ,⟨h1,h2,λe=>by have:=congrArg xD e;simp at this;simp[this]at c,by show wh.length<=100;omega,by show fr.length<=100;omega⟩⟩
section
variable {τ:Type}
def IA{E:jd τ}{n:Wd}{num:Bool}{s s':τ}(h:VK E n s = .ok ((t,num),s')):bj t num=true:=by
 unfold VK at h;split at h
 .cases h
 .cases h
 .split at h
  .cases h;assumption
  .cases h
def xlv(S:τ->Nat->Prop)(w:z8)(n:uL)(s':τ)(w':z8)(e:xU):Prop:=∃v,e = .returned v/\fS (λk=>k<(w:Nat)\/S s' k) w' v n/\n.2.1.length+n.2.2.length<=30
def WdP(t:Wd)(_:τ)(_:z8)(e:xU):Prop:=t.length<=1000000/\e = .returned (zM t)
def ziz{E:jd τ}{F S:τ->Nat->Prop}{Inv:τ->z8->Prop}(h:Nd gv E F S Inv)(b q j:Nat)(n:Wd)(s:τ)(w:z8)(c2:zu w b 2 gv)(hc:H9 b q j n w)(hi:Inv s w)(hn:n.length<=5000000) :
  zC Tryz.prog 153 #[(b,0),j] w (QR F S Inv s w WdP (TI E n s)):=by
 have d:=Z (NY h b q j n s w c2 hc hi hn);obtain⟨r,hr⟩:=zr (VK E n s);rw[hr]at d;have f:=Z hr;have HG:=Z h;clear h c2 hc hi hr;go_enter func153,ntmps153;go_wp2_with fail;refine d.o.mono ?_;intro e w1 i;cases r with
 |error l =>
  obtain⟨m,s'⟩:=l;obtain⟨⟨a,rfl,hold⟩,c⟩:=i;have HQ:=Z (show QR F S Inv s w WdP (TI E n s) (.panicked ({ v:=kX m,recovered:=false }::a)) w1 by
   unfold TI;rw[f.o];exact⟨⟨a,rfl,hold⟩,c⟩)
  clear hold c d;exact Lp
 |ok p =>
  obtain⟨⟨t,num⟩,s'⟩:=p;obtain⟨⟨u,rfl⟩,c⟩:=i;have HI:=Z c;have k:=Z u;clear c d;cases num
  .have g:=Z (show TI E n s = .ok (t,s')by unfold TI;rw[f.o];rfl);go_wp2;go_ret;rw[g.o];exact⟨⟨k.o,rfl⟩,QR.more HG.o HI.o ((Fr.refl yH _).alloc _) (λ_ q=>q.elim)⟩
  .have g:=Z (show TI E n s = .error (13,s')by unfold TI;rw[f.o];rfl);go_wp2;refine⟨rfl,?_⟩;rw[g.o];exact zyd
def Rm{E:jd τ}{F S:τ->Nat->Prop}{Inv:τ->z8->Prop}(hg:Nd gv E F S Inv)(b q j:Nat)(n:Wd)(s:τ)(w:z8)(c2:zu w b 2 gv)(hc:H9 b q j n w)(hi:Inv s w)(hn:n.length<=5000000) :
  zC Tryz.prog 108 #[(b,0),j] w (QR F S Inv s w (xlv S w) (Qk E n s)):=by
 obtain⟨W,hW⟩:=zr (w.alloc (.cells #[.bool false,.slice none 0 0,.int .i64 0] 99));have i:Fr yH yH w W:=by rw[<-hW];exact(Fr.refl _ _).alloc _
 obtain⟨A,hA⟩:=zr (w:Nat);have hR:bM W A:=by rw[<-hW,<-hA];exact⟨zf _ _ _ _ _,zf _ _ _ _ _,zf _ _ _ _ _,zZ,zZ,zZ,zZ⟩
 have hsW:(W:Nat)=A+1:=by rw[<-hW];simp[hA]
 have B:∀k,S s k->k<A:=λk x=>by rw[<-hA];exact hg.Nb s w k hi x
 have hiW:=hg.fr hi i (λ_ q=>q.elim);have y:=Z (NY hg b q j n s W (i.cell c2 id) (hc.fr i (λ_ q=>q)) hiW hn);obtain⟨r,hr⟩:=zr (VK E n s);rw[hr]at y;obtain⟨z,HG,Vc,N,O,M⟩:=EZ hr hg i B hsW hR;clear hg c2 hc hi hr i B hiW hsW hR;go_enter func108,ntmps108;go_wp2_with fail;refine y.o.mono ?_;intro e w1 hq;have conv:∀{s':τ},(Inv s' w1/\Fr (F s) (F s') W w1/\∀k,S s' k->S s k\/(W:Nat)<=k)->(Inv s' w1/\Fr (F s) (F s') w w1/\∀k,S s' k->S s k\/(w:Nat)<=k):=λh=>⟨h.1,(Vc.o.wide (G:=F s) (λ_ q=>q.elim)).trans h.2.1,λk x=>(h.2.2 k x).imp id (λq=>M0)⟩
 cases r with
 |error er =>
  obtain⟨m,s'⟩:=er;obtain⟨⟨u,rfl,hold⟩,H⟩:=hq;have HQ:=Z (show QR F S Inv s w (xlv S w) (Qk E n s) (.panicked ({ v:=kX m,recovered:=false }::u)) w1 by
   unfold Qk;rw[z.o];exact⟨⟨u,rfl,hold⟩,conv H⟩)
  clear hold H y conv;exact Lp
 |ok p =>
  obtain⟨⟨t,num⟩,s'⟩:=p;obtain⟨⟨ht,rfl⟩,H⟩:=hq;have HI:=Z (conv H);have K:¬F s A:=λq=>by have:=N.o A (HG.o.sub _ _ q);omega
  have U:¬S s' A:=λq=>(H.2.2 A q).elim (λq=>by have:=N.o A q;omega) (λq=>by have:=O.o;omega)
  have g:=H.2.1;have lA:A<(W:Nat):=by have:=O.o;omega
  have T:bM w1 A:=⟨g.cell M.o.c0 K,g.cell M.o.c1 K,g.cell M.o.c2 K,(g.frozen (a:=(A,0)) lA K).trans M.o.z0,(g.frozen (a:=(A,1)) lA K).trans M.o.z1,(g.frozen (a:=(A,2)) lA K).trans M.o.z2,zD lA g.size⟩;have c:=Z T;have HSA:=Z U;have HT:=Z ht;clear H y conv g T U K lA;cases num
  .have HW:=Z (show Qk E n s = .error (13,s')by unfold Qk;rw[z.o];rfl);go_wp2;refine⟨rfl,?_⟩;rw[HW.o];exact zyd
  .have HW:=Z (show Qk E n s = .ok (numOf t,s')by unfold Qk;rw[z.o];rfl);have C:ue t=true:=(by have:=IA z.o;exact this);have HN:=Z C;have bh:(⟨t.toArray⟩:ByteArray).size=t.length:=size_mk _;have HP:=λW=>Z (Yt ⟨t.toArray⟩ W (by rw[bh];exact ht))
   clear C;go_wp2_with fail;refine(HP _).out.mono ?_;rintro e w2 ⟨bb,v,k,rfl,⟨va,vn,vk,rfl⟩,V,D⟩;obtain⟨rfl,rfl,l⟩:=D HN.o;have d:Fr yH yH w1 w2:=((Fr.refl _ _).alloc _).trans (Fr.of V);have f:bM w2 A:=⟨d.cell c.o.c0 id,d.cell c.o.c1 id,d.cell c.o.c2 id,(d.frozen (a:=(A,0)) c.o.lt id).trans c.o.z0,(d.frozen (a:=(A,1)) c.o.lt id).trans c.o.z1,(d.frozen (a:=(A,2)) c.o.lt id).trans c.o.z2,zD c.o.lt d.size⟩;have r0:=f.c0;have r1:=f.c1;have r2:=f.c2;have y0:=f.z0;have y1:=f.z1;have y2:=f.z2;have hAw:A<(w2:Nat):=f.lt;have hw1:A<(w1:Nat):=c.o.lt;have R:(w1.alloc (.cells #[zM t,.bool true] 65)).heap.size=(w1:Nat)+1:=zZ;rw[R]at l;have HO:=Z l;have HFZ:=Z d;clear l D V d f R HP;go_wp2;obtain⟨P,I⟩:=zr (((w2.setCell (zU A 0) (.bool (XA t))).setCell (zU A 1) (.slice va vn vk)).setCell (zU A 2) ((ud t).length:Nat));have x0:zu P A 0 (.bool (XA t)):=by
    rw[<-I,zo,yz zZ,zo,yz zZ];exact yw r0 _
   have x1:zu P A 1 (.slice va vn vk):=by
    rw[<-I,zo,yz zZ];refine yw (v := .slice none 0 0) ?_ _;rw[zo,yz zZ];exact r1
   have x2:zu P A 2 ((ud t).length:Nat):=by
    rw[<-I];refine yw (v := .int .i64 0) ?_ _;rw[zo,yz zZ,zo,yz zZ];exact r2
   have Y9:P.ownsRow ((w1:Nat)+1) 5 1 (.slice va vn vk) ((vQ t).length+(ud t).length) (vz (vQ t++ud t)):=by
    rw[<-I];exact xp (xp (xp HO.o (p:=(zU A 0)) (λe=>by have:=(HO.o.lt A e.symm).1;omega) _) (p:=(zU A 1)) (λe=>by have:=(HO.o.lt A e.symm).1;omega) _) (p:=(zU A 2)) (λe=>by have:=(HO.o.lt A e.symm).1;omega) _
   have hfX:Fr (λk=>k=A) (λk=>k=A) w1 P:=by
    rw[<-I];exact(((HFZ.o.wide (G:=λk=>k=A) (λ_ q=>q.elim)).set (a:=(zU A 0)) _ (.inl rfl)).set (a:=(zU A 1)) _ (.inl rfl)).set (a:=(zU A 2)) _ (.inl rfl)
   rw[I];have f0:=λL=>yy x0 L
   have f1:=λL=>yy x1 L
   have f2:=λL=>yy x2 L
   clear I;refine yK (v := .agg #[.bool (XA t),.slice va vn vk,((ud t).length:Nat)]) ?_ rfl ?_
   .simp[yN,results108,go_sem,f0,f1,f2]
   .rw[HW.o];obtain⟨d1,d2,hw,Q⟩:=Gl HN.o;have hn:=λL=>mG (XA t) (Y9.alloc L) d1 d2 hw Q
    refine⟨⟨_,rfl,?_,Q⟩,QR.more HG.o HI.o (hfX.alloc _) (λk x=>by subst x;exact⟨HSA.o,J⟩)⟩;refine(hn _).fr (Fr.refl yH _) (λ_ q=>q.elim) (λk x => .inl ?_);rcases x with x|x
    .show k<(w1:Nat)+1;omega
    .have:=HG.o.Nb s' w1 k HI.o.1 x;show k<(w1:Nat)+1;omega
end
def C8(o:Option Nat):Int:=match o with|some k=>((k:Nat):Int)|none=>-1
def Gm(q mb n p:Nat)(f:Nat->Option Nat)(w:z8)(q2:zu w q 2 (.map (some mb)))(hm:jR w mb n f)(hp:p<=4000000000) :
  zC Tryz.prog 102 #[(q,0),p] w λe w'=>e = .returned (.int .i64 (C8 (f p)))/\w=w':=by
 have a:=hm.look p hp;obtain⟨o,b⟩:=zr (f p);rw[b]at a|-;clear b hm;cases o with
 |none =>
  go_enter func102,ntmps102;exact DA
 |some k =>
  go_enter func102,ntmps102;exact DA
section
variable {b:Nat} {x0 x2 st v:Value} {l:Wd} {w:z8}
def rA{g:Nat}{I:Value}{n:uL}(h:qK b x0 (g,0) x2 st v l w)(hn:fS (λ_=>False) w I n)(hw:∀W,zP w W->zC Tryz.prog 36 #[(g,0),I] W λe w'=>e = .returned (zM t)/\zP W w')(r:l.length+t.length<=1000000000) :
  zC Tryz.prog 107 #[(b,0),I] w λe w'=>e = .returned (.tuple #[])/\C3 b x0 (g,0) x2 st v (l++t) w w':=by
 obtain⟨gd,o,cap,rfl,-⟩:=hn;obtain⟨L,K⟩:=zr (n.2.1.length+n.2.2.length);obtain⟨k,M⟩:=zr n.2.2.length;rw[K,M]at hw|-;obtain⟨A,hA⟩:=zr (w:Nat);obtain⟨W,hW⟩:=zr (w.alloc (.cells #[.bool n.1,.slice (zU gd o) L cap,k] 99));have hb:zP w W:=Wx;have f:Fr yH yH w W:=Fr.of hb;have hc:∀j,W.cell? ⟨A,j,none⟩=(#[gI n.1,.slice (zU gd o) L cap,k]:Array Value)[j]? := λj=>WU
 have y:=hc 0;have F:=hc 1;have H:=hc 2;simp only[gV,qA,qa]at y F H;have d:=h.fr f id (λ_ _ q=>q);have b1:=d.cell.2.1;have c:=Z (hw W.drew (hb.trans ⟨rfl,rfl,rfl,Y _,λ_ _=>rfl⟩));have C:=Z d;have B:=Z f;obtain⟨N,s⟩:=zr n.1;rw[s]at y hW c|-;clear h hw hb hc d f K M s;go_enter func107,ntmps107;go_wp2_with fail;try rw[hW]
 clear hW hA;refine DN (λW':z8=>zu W' b 1 (zU g 0)/\zu W' A 0 (.bool N)/\zu W' A 1 (.slice (zU gd o) L cap)/\zu W' A 2 k) 9 (xB 8) 2 ⟨b1,y,F,H⟩ ?_;refine dJ 8 (λE m=>?_);go_simp;refine c.o.mono ?_;rintro e w1 ⟨rfl,p⟩;have a:Fr yH yH W w1:=(Fr.of p).und;refine m.out _ _ ⟨a.cell b1 id,a.cell y id,a.cell F id,a.cell H id⟩ λ_=>?_
 clear m E;have i:=Z (Ge t (C.o.fr a id (λ_ _ q=>q)) r);have z:=Z a;clear a p c;refine FT 9 (λE m=>?_);go_simp;refine i.o.mono ?_;rintro e w2 ⟨⟨u,rfl⟩,x⟩;refine m.out _ _ ?_;clear m E;refine FW ?_ _;have D:=Z x;clear x i;go_wp2;go_end0
 obtain⟨v',h1,h2⟩:=D.o;exact⟨rfl,v',h1,((B.o.trans z.o).wide (G:=K3 b v) (λ_ q=>q.elim)).trans h2⟩
end
variable{cs:List Value}{c k' m:Nat}{F' M:Nat->Prop}{tp:uL×uL}
def dM(M:Nat->Prop)(w:z8):List (uL×uL)->List Value->Prop
 |[],cs=>cs=[]
 |(n,z)::r,cs=>∃nb g o m c k zb g' o' m' c' k' t,cs=(Qj nb g o m c k++Qj zb g' o' m' c' k')++t/\fS M w (RN nb g o m c k) n/\fS M w (RN zb g' o' m' c' k') z/\dM M w r t
def dM.len:∀{r:List (uL×uL)} {cs:List Value},dM M w r cs->cs.length=r.length*6
 |[],cs,h=>by rw[show cs=[]from h];rfl
 |p::r,cs,h=>by
  obtain⟨b,g,o,m,c,k,e,g',d,m',c',k',t,rfl,_,_,a⟩:=h;have:=dM.len a;simp[Qj,this];omega
def dM.fr{M' F:Nat->Prop}(hf:Fr F F' w w')(hF:∀k,F k->M k)(a:∀k,M' k->M k\/(w:Nat)<=k):∀{r:List (uL×uL)} {cs:List Value},dM M w r cs->dM M' w' r cs
 |[],cs,h=>h
 |p::r,cs,h=>by
  obtain⟨d,g,o,m,c,k,f,g',e,m',c',k',t,rfl,h1,h2,b⟩:=h;exact⟨d,g,o,m,c,k,f,g',e,m',c',k',t,rfl,h1.fr hf hF a,h2.fr hf hF a,dM.fr hf hF a b⟩
def dM.snoc{n z:uL}{a e:Bool}{g o k g' d m' c':Nat}(h1:fS M w (RN a g o m c k) n)(h2:fS M w (RN e g' d m' c' k') z):∀{r:List (uL×uL)} {cs:List Value},dM M w r cs->dM M w (r++[(n,z)]) (cs++(Qj a g o m c k++Qj e g' d m' c' k'))
 |[],cs,h=>by rw[show cs=[]from h];exact⟨a,g,o,m,c,k,e,g',d,m',c',k',[],zZ,h1,h2,rfl⟩
 |p::r,cs,h=>by
  obtain⟨b,g1,q,j,c1,k1,f,g2,s,l,c2,k2,t,rfl,a1,a2,i⟩:=h;exact⟨b,g1,q,j,c1,k1,f,g2,s,l,c2,k2,_,by rw[yk],a1,a2,dM.snoc h1 h2 i⟩
def dM.last{n z:uL}:∀{r:List (uL×uL)} {cs:List Value},dM M w (r++[(n,z)]) cs->∃a b g o m c k e g' d m' c' k',cs=a++(Qj b g o m c k++Qj e g' d m' c' k')/\dM M w r a/\fS M w (RN b g o m c k) n/\fS M w (RN e g' d m' c' k') z
 |[],cs,h=>by
  obtain⟨b,g,o,m,c,k,e,g',d,m',c',k',t,rfl,h1,h2,f⟩:=h;rw[show t=[]from f];exact⟨[],b,g,o,m,c,k,e,g',d,m',c',k',zZ,rfl,h1,h2⟩
 |p::r,cs,h=>by
  obtain⟨b,g,o,m,c,k,e,g',d,m',c',k',t,rfl,h1,h2,f⟩:=h;obtain⟨a,i,g1,s,l,c1,k1,j,g2,u,q,c2,k2,rfl,a0,a1,a2⟩:=dM.last f;exact⟨_,i,g1,s,l,c1,k1,j,g2,u,q,c2,k2,by simp only[yk],⟨b,g,o,m,c,k,e,g',d,m',c',k',a,rfl,h1,h2,a0⟩,a1,a2⟩
abbrev C9(b:Nat)(v st:Value)(Sx:Nat->Prop)(k:Nat):Prop:=k=b\/zH v k\/zH st k\/Sx k
section
variable {τ:Type}
def vw(b A0 q g:Nat)(gv:Value)(G:Nat->Prop)(F S:τ->Nat->Prop)(Inv:τ->z8->Prop)(r:ZU τ)(w:z8):Prop :=
 ∃v st cs,qK b (q,0) (g,0) gv st v r.out w/\w.ownsRow 0 253 6 st r.stk.length cs/\dM (C9 b v st (S r.gs)) w r.stk cs/\Inv r.gs w /\
  st.ownBlock≠some b/\(∀k,zH v k->¬zH st k)/\(∀k,S r.gs k->(k+2<b\/b<k)/\¬zH v k/\¬zH st k)/\(∀k,zH v k\/zH st k->A0<=k)/\∀k,F r.gs k->G k
structure Z9(w0:z8)(A0 b:Nat)(G:Nat->Prop)(q mb g:Nat)(s:MkS)(vC vI:Value)(rs:List (Value×Value))(gv:Value)(E:jd τ)(F S:τ->Nat->Prop)(Inv:τ->z8->Prop):Prop where
 prog:∀W,Fr G G w0 W->ug q s vC vI rs mb W
 wr:∀W nv n,Fr G G w0 W->fS (λ_=>False) W nv n->zC Tryz.prog 36 #[(g,0),nv] W λe w'=>e = .returned (zM (E.wr n))/\zP W w'
 wrl:∀n:uL,Ny n.2->(E.wr n).length<=5000
 set:∃cv ov,(∀W,Fr G G w0 W->zu W g 0 cv/\zu W g 1 ov) /\
  (∀W nv d,Fr G G w0 W->uh W nv d->zC Tryz.prog 38 #[cv,nv] W λe w'=>e = .returned (.int .i64 (E.sort false d))/\zP W w') /\
  ∀W nv d,Fr G G w0 W->uh W nv d->zC Tryz.prog 38 #[ov,nv] W λe w'=>e = .returned (.int .i64 (E.sort true d))/\zP W w'
 srt:∀b d,E.sort b d<6
 get:Nd gv E F S Inv
 n1:s.code.length<=1000000
 n2:s.cs.length<=1000000
 n3:∀t∈s.cs,t.length<=5000
 n4:∀x∈s.code,x.v<=1000000000/\∀y∈x.tg,y<=4000000000
 gA:∀k,A0<=k->G k
 gb:A0<=b
def VmQ(b A0 q g:Nat)(gv:Value)(G:Nat->Prop)(F S:τ->Nat->Prop)(Inv:τ->z8->Prop)(r0:ZU τ)(_:Nat)(r:ZU τ)(w:z8):Prop:=vw b A0 q g gv G F S Inv r w/\r.out.length<=r0.out.length+5000/\r.stk.length<=r0.stk.length+1
def NU(Inv:τ->z8->Prop)(S:τ->Nat->Prop)(b:Nat)(r:ZU τ)(w:z8):Prop:=Inv r.gs w/\∀k,S r.gs k->k+2<b\/b<k
section
variable {w0 W:z8} {A0 b q mb g k:Nat} {G:Nat->Prop} {s:MkS} {vC vI gv:Value} {rs:List (Value×Value)} {E:jd τ} {F S:τ->Nat->Prop} {Inv:τ->z8->Prop} {r:ZU τ} {x:uG}
def vw.quiet(f:Z9 w0 A0 b G q mb g s vC vI rs gv E F S Inv)(h:vw b A0 q g gv G F S Inv r w)(hf:Fr yH yH w w'):vw b A0 q g gv G F S Inv r w':=by
 obtain⟨v,st,cs,i,d,a,hi,c,e,hS,hA,hF⟩:=h;exact⟨v,st,cs,i.fr hf id (λ_ _ q=>q),hf.own d (λ_ _ q=>q),dM.fr hf (λ_ q=>q.elim) (λ_ q => .inl q) a,f.get.fr hi hf (λ_ q=>q.elim),c,e,hS,hA,hF⟩
def vw.asked(hE:Z9 w0 A0 b G q mb g s vC vI rs gv E F S Inv)(h:vw b A0 q g gv G F S Inv r w){s':τ}(i:Inv s' w'/\Fr (F r.gs) (F s') w w'/\∀k,S s' k->S r.gs k\/(w:Nat)<=k) :
  vw b A0 q g gv G F S Inv { r with gs:=s' } w'/\Fr G G w w'/\∀k,C9 b (.slice none 0 0) (.slice none 0 0) (S s') k->k=b\/S r.gs k\/(w:Nat)<=k:=by
 obtain⟨v,st,cs,hO,ZN,a,hi,c,d,hS,hA,hF⟩:=h;obtain⟨hi',hf,hs'⟩:=i;have f:=hO.lt;have j:¬F r.gs b:=λq=>by have:=(hS b (hE.get.sub _ _ q)).1;omega
 have l:∀k,zH v k->¬F r.gs k:=λk hk q=>(hS k (hE.get.sub _ _ q)).2.1 hk
 have e:∀k,zH st k->¬F r.gs k:=λk hk q=>(hS k (hE.get.sub _ _ q)).2.2 hk
 refine⟨⟨v,st,cs,hO.fr hf j l,hf.own ZN e,dM.fr hf (λk hk => .inr (.inr (.inr (hE.get.sub _ _ hk)))) (λk hk=>?_) a,hi',c,d,λk hk=>?_,hA,λk hk=>?_⟩,?_,λk hk=>?_⟩
 .exact yb9
 .exact zj8
 .exact zvd
 .exact zu7
 .rcases hk with h|h|h|h
  .exact .inl h
  .cases h
  .cases h
  .exact .inr (hs' k h)
def vw.wrote(d:Z9 w0 A0 b G q mb g s vC vI rs gv E F S Inv){st:Value}(j:w.ownsRow 0 253 6 st r.stk.length cs)(m:dM (C9 b v st (S r.gs)) w r.stk cs)(hi:Inv r.gs w)(i:st.ownBlock≠some b)(l:∀k,zH v k->¬zH st k)
  (hS:∀k,S r.gs k->(k+2<b\/b<k)/\¬zH v k/\¬zH st k) (hA:∀k,zH v k\/zH st k->A0<=k) (hF:∀k,F r.gs k->G k) (o:b<(w:Nat)) (p:C3 b (q,0) (g,0) gv st v (r.out++t) w w') :
  vw b A0 q g gv G F S Inv { r with out:=r.out++t } w'/\Fr G G w w':=by
 obtain⟨v',f,hf⟩:=p;have n:∀k,zH st k->¬K3 b v k:=λk a q=>q.elim (λe=>i (by rw[<-e];exact a)) (λe=>l k e a)
 have c:∀k,zH v' k->zH v k\/(w:Nat)<=k:=λk a=>(hf.fp k (.inr a)).elim (λq=>q.elim (λe=>absurd (show v'.ownBlock=some b by rw[<-e];exact a) (by obtain⟨_,_,_,_,h,_⟩:=f;exact h)) .inl) .inr
 refine⟨⟨v',st,cs,f,hf.own j n,dM.fr hf (λk a=>a.elim .inl (λh => .inr (.inl h))) (λk a=>?_) m,d.get.fr hi hf (λk a q=>a.elim (λe=>by have:=(hS k q).1;omega) (λe=>(hS k q).2.1 e)),i,λk a=>?_,λk a=>?_,λk a=>?_,hF⟩,?_⟩
 .rcases a with h|h|h|h
  .exact .inl (.inl h)
  .exact(c k h).imp (λq => .inr (.inl q)) id
  .exact .inl (.inr (.inr (.inl h)))
  .exact .inl (.inr (.inr (.inr h)))
 .rcases c k a with h|h
  .exact l k h
  .exact λq=>by have:=uj j q;omega
 .refine⟨(hS k a).1,λq=>?_,(hS k a).2.2⟩;rcases c k q with h|h
  .exact(hS k a).2.1 h
  .have:=d.get.Nb r.gs w k hi a;omega
 .rcases a with h|h
  .rcases c k h with h|h
   .exact hA k (.inl h)
   .have:=d.gb;omega
  .exact hA k (.inr h)
 .exact(hf.tg (F'':=K3 b v) (λk a => .inl a)).wide (λk a=>d.gA k (a.elim (λe=>by rw[e];exact d.gb) (λe=>hA k (.inl e))))
def vw.mF(e:Z9 w0 A0 b G q mb g s vC vI rs gv E F S Inv){st:Value}{stk:List (uL×uL)}(u:w.ownsRow 0 253 6 st n cs){c:List Value}(l:dM (C9 b v st (S r.gs)) w stk c)(hi:Inv r.gs w)
  (hS:∀k,S r.gs k->(k+2<b\/b<k)/\¬zH v k/\¬zH st k) (hA:∀k,zH v k\/zH st k->A0<=k) (hF:∀k,F r.gs k->G k) (p:b<(w:Nat)) (t:RO b (q,0) (g,0) gv st v r.out stk.length c w w') :
  vw b A0 q g gv G F S Inv { r with stk:=stk } w'/\Fr G G w w':=by
 obtain⟨i,a1,a2,a3,a4,d⟩:=t;have hm:∀j,C9 b v i (S r.gs) j->C9 b v st (S r.gs) j\/(w:Nat)<=j:=by
  intro j a;rcases a with h|h|h|h
  .exact .inl (.inl h)
  .exact .inl (.inr (.inl h))
  .rcases d.fp j (.inr h) with(h|h)|h
   .exact .inl (.inl h)
   .exact .inl (.inr (.inr (.inl h)))
   .exact .inr h
  .exact .inl (.inr (.inr (.inr h)))
 have f:∀j,stF b st j->C9 b v st (S r.gs) j:=λj a=>a.elim .inl (λh => .inr (.inr (.inl h)))
 have o:=e.get.Nb r.gs w;refine⟨⟨v,i,c,a1,a2,dM.fr d f hm l,e.get.fr hi d (λj a=>?_),a3,a4,λj a=>⟨(hS j a).1,(hS j a).2.1,λh=>?_⟩,λj a=>?_,hF⟩,?_⟩
 .rcases a with rfl|h
  .exact λq=>by have:=(hS _ q).1;omega
  .exact λq=>(hS _ q).2.2 h
 .rcases d.fp j (.inr h) with(h|h)|h
  .have:=(hS j a).1;omega
  .exact(hS j a).2.2 h
  .have:=o j hi a;omega
 .rcases a with h|h
  .exact hA j (.inl h)
  .rcases d.fp j (.inr h) with(h|h)|h
   .rw[h];exact e.gb
   .exact hA j (.inr h)
   .have:=e.gb;omega
 .exact(d.tg (F'':=stF b st) (λk m => .inl m)).wide (λj a=>e.gA j (a.elim (λh=>by rw[h];exact e.gb) (λh=>hA j (.inr h))))
def cg(m:Z9 w0 A0 b G q mb g s vC vI rs gv E F S Inv)(hf:Fr G G w0 W)(hR:vw b A0 q g gv G F S Inv r W)(A:s.code[k]? = some x)(h:x.op=5){stk:List (uL×uL)}(hs:r.stk=stk++[tp])(j:r.stk.length<=1000000) :
  zC Tryz.prog 65 #[(b,0),k] W λe w'=>e = .returned ((k+1:Nat):Int)/\VmQ b A0 q g gv G F S Inv r (k+1) { r with stk:=stk } w'/\Fr G G W w':=by
 have hp:=m.prog W hf;obtain⟨I,Q,kv,tv,q1,lt,O,-⟩:=hp.ins A;rw[h]at O;obtain⟨v,st,cs,p,d,f,hi,i,l,hS,hA,hF⟩:=hR;obtain⟨tn,P⟩:=tp;rw[hs]at f d;obtain⟨K,U,g1,V,R,c1,k1,zb,g2,o2,T,c2,k2,rfl,a,-,-⟩:=f.last;have c:(stk++[(tn,P)]).length=stk.length+1:=zZ;rw[c]at d;have hn:stk.length<=1000000:=by rw[hs,c]at j;omega
 have y:=Z (yuk p d a.len i l hn);have b0:=p.cell.1;obtain⟨n,t⟩:=zr s.code.length;rw[t]at q1 lt;have w:=m.n1;rw[t]at w;have k3:(k:Int)<(n:Int):=J;have D:=Z (zg d (zg a (zg hi (zg hS (zg hA hF)))));have C:=Z m;have z:=Z (zg hs p.lt);clear m hf hp A h p d f hi i l hS hA hF hs c a t j;go_enter func65,ntmps65;go_wp2_with fail;refine y.o.mono ?_;rintro e w1 ⟨rfl,B⟩;have H:=Z B;clear B y;go_wp2;go_ret;obtain⟨h0,h1,h2,L,M,N⟩:=D.o;obtain⟨hr,u⟩:=vw.mF C.o h0 h1 h2 L M N z.o.2 H.o;exact⟨Dm,⟨hr,bA _ _,by rw[z.o.1];simp;omega⟩,u⟩
end
end
def K8(a0 a3:Bool)(p:yM)(n c:Nat)(k:Int)(b:yM)(a c':Nat)(k':Int)(w:z8):(vq5 253 (.agg #[.bool a0,.slice (some p) n c,k,.bool a3,.slice (some b) a c',k']) 1).run Tryz.prog w = .ok (.agg #[.bool a3,.slice (some b) a c',k']) w:=yq
def Rn(a0 a3:Bool)(p:yM)(n c:Nat)(k:Int)(b:yM)(a c':Nat)(k':Int)(w:z8):(vq5 253 (.agg #[.bool a0,.slice (some p) n c,k,.bool a3,.slice (some b) a c',k']) 0).run Tryz.prog w = .ok (.agg #[.bool a0,.slice (some p) n c,k]) w:=yq
def fS.any{n:uL}(h:fS M w v n):fS (λ_=>False) w v n:=h.fr (Fr.refl yH _) (λ_ q=>q.elim) (λ_ q=>q.elim)
def fS.ok{n:uL}(h:fS M w v n):Ny n.2:=by
 obtain⟨_,_,_,_,_,_,_,_,_,h⟩:=h;exact h
section
variable {τ:Type} {w0 W:z8} {A0 b q mb g k:Nat} {G:Nat->Prop} {s:MkS} {vC vI gv:Value} {rs:List (Value×Value)} {E:jd τ} {F S:τ->Nat->Prop} {Inv:τ->z8->Prop} {r:ZU τ} {x:uG}
def Cz(c:Z9 w0 A0 b G q mb g s vC vI rs gv E F S Inv)(hf:Fr G G w0 W)(hR:vw b A0 q g gv G F S Inv r W){j:Value}{n:uL}(hn:fS M W j n)(l:r.out.length<=900000000) :
  zC Tryz.prog 107 #[(b,0),j] W λe w'=>e = .returned (.tuple #[])/\vw b A0 q g gv G F S Inv { r with out:=r.out++E.wr n } w'/\Fr G G W w':=by
 obtain⟨v,st,cs,k,h,d,hi,f,i,hS,hA,hF⟩:=hR;have o:=c.wrl n hn.ok;refine(rA k hn.any (λW' a=>c.wr W' j n (hf.trans ((Fr.of a).wide (F:=yH) (λ_ q=>q.elim))) (hn.any.fr (Fr.of (F:=yH) a) (λ_ q=>q.elim) (λ_ q=>q.elim))) J).mono ?_;rintro e w' ⟨he,m⟩;exact⟨he,vw.wrote c h d hi f i hS hA hF k.lt m⟩
def re(h:Z9 w0 A0 b G q mb g s vC vI rs gv E F S Inv)(hf:Fr G G w0 W)(hR:vw b A0 q g gv G F S Inv r W)(L:s.code[k]? = some x)(u:x.op=6){stk:List (uL×uL)}(hs:r.stk=stk++[tp])(l:r.stk.length<=1000000)(f:r.out.length<=900000000) :
  zC Tryz.prog 65 #[(b,0),k] W λe w'=>e = .returned ((k+1:Nat):Int)/\VmQ b A0 q g gv G F S Inv r (k+1) { r with out:=r.out++E.wr tp.2 } w'/\Fr G G W w':=by
 obtain⟨I,ic,kv,tv,q1,lt,T,-⟩:=(h.prog W hf).ins L;rw[u]at T;have p:=hR;obtain⟨v,st,cs,y,c,j,hi,A,B,hS,hA,hF⟩:=hR;obtain⟨tn,N⟩:=tp;have a:(stk++[(tn,N)]).length=stk.length+1:=zZ;rw[hs]at j c l;rw[a]at c l;obtain⟨Q,nb,g1,o1,U,c1,k1,zb,g2,o2,V,c2,k2,rfl,d,-,M⟩:=j.last;have D:=Z (DJ y nb zb g1 o1 U c1 k1 g2 o2 V c2 k2 c d.len J);have b0:=y.cell.1;have z:=h.n1;obtain⟨n,K⟩:=zr s.code.length;rw[K]at q1 lt z;have k3:(k:Int)<(n:Int):=J;have R:=K8;have w:=λ(W':z8) (hb:zP W W')=>Cz h (hf.trans ((Fr.of hb).wide (F:=yH) (λ_ q=>q.elim))) (p.quiet h (Fr.of hb)) (M.any.fr (Fr.of (F:=yH) hb) (λ_ q=>q.elim) (M':=λ_=>False) (λ_ q=>q.elim)) f
 have m:=Z w;have HE:=Z h;have P:=Z (h.wrl N M.ok);clear h hf L u y c j hi A B hS hA hF hs d K p w l f a;go_enter func65,ntmps65;go_wp2_with fail;refine D.o.mono ?_;rintro e w1 ⟨rfl,i⟩;have H:=Z (m.o w1 i);have O:=Z i;clear D i m;go_wp2_with fail;refine H.o.mono ?_;rintro e w2 ⟨rfl,hr,t⟩;have C:=Z (zg hr t);clear hr t H;go_wp2;go_ret;refine⟨by first|rfl|simp,⟨C.o.1,by have:=P.o;simp;omega,zZ⟩,((Fr.of O.o).wide (F:=yH) (λ_ q=>q.elim)).trans C.o.2⟩
end
section
variable {τ:Type} {w0 W:z8} {A0 b q mb g k:Nat} {G:Nat->Prop} {s:MkS} {vC vI gv:Value} {rs:List (Value×Value)} {E:jd τ} {F S:τ->Nat->Prop} {Inv:τ->z8->Prop} {r:ZU τ} {x:uG}
def vw.err(a:Z9 w0 A0 b G q mb g s vC vI rs gv E F S Inv)(h:vw b A0 q g gv G F S Inv r w){s':τ}(e:Inv s' w'/\Fr (F r.gs) (F s') w w'/\∀k,S s' k->S r.gs k\/(w:Nat)<=k) :
  NU Inv S b { r with gs:=s' } w'/\Fr G G w w':=by
 obtain⟨h1,h2,l⟩:=vw.asked a h e;obtain⟨v,st,cs,m,i,c,hi,f,j,hS,hA,hF⟩:=h1;exact⟨⟨hi,λk d=>(hS k d).1⟩,h2⟩
def Zl{n:Wd}(h:Ys s x=some n):∃j,x.k[0]? = some j/\s.cs[j]? = some n:=by
 unfold Ys at h;cases hx:x.k[0]? with
 |none=>rw[hx]at h;cases h
 |some j=>rw[hx]at h;exact⟨j,rfl,h⟩
def ziy(a:Z9 w0 A0 b G q mb g s vC vI rs gv E F S Inv)(hf:Fr G G w0 W)(hR:vw b A0 q g gv G F S Inv r W)(u:s.code[k]? = some x)(f:x.op=1)(hc:Ys s x=some t)(n:r.out.length<=900000000) :
  zC Tryz.prog 65 #[(b,0),k] W λe w'=>e = .returned ((k+1:Nat):Int)/\VmQ b A0 q g gv G F S Inv r (k+1) { r with out:=r.out++t } w'/\Fr G G W w':=by
 obtain⟨j,p,o⟩:=Zl hc;obtain⟨v,st,cs,m,i,c,hi,h,l,hS,hA,hF⟩:=hR;have y:=a.n3 t (zW o);refine(rL m (a.prog W hf) u f p o a.n1 a.n2 J).mono ?_;rintro e w' ⟨rfl,w⟩;obtain⟨hr,d⟩:=vw.wrote a i c hi h l hS hA hF m.lt w;exact⟨rfl,⟨hr,yJ,dK _⟩,d⟩
def cd(b A0 q g:Nat)(gv:Value)(G:Nat->Prop)(F S:τ->Nat->Prop)(Inv:τ->z8->Prop)(r:ZU τ)(k:Nat){α:Type}(fn:α->τ->ZU τ)(res:Except (Nat×τ) (α×τ))(W:z8)(e:xU)(w':z8):Prop :=
 (match res with
  |.ok (a,s')=>e = .returned ((k+1:Nat):Int)/\VmQ b A0 q g gv G F S Inv r (k+1) (fn a s') w'
  |.error (n,s')=>yrb n e/\NU Inv S b { r with gs:=s' } w')/\Fr G G W w'
def Ro(i:Z9 w0 A0 b G q mb g s vC vI rs gv E F S Inv)(hf:Fr G G w0 W)(hR:vw b A0 q g gv G F S Inv r W)(hk:s.code[k]? = some x)(H:x.op=3)(hc:Ys s x=some t)(f:r.out.length<=900000000) :
  zC Tryz.prog 65 #[(b,0),k] W (cd b A0 q g gv G F S Inv r k (λv s'=>{ r with out:=r.out++E.wr v,gs:=s' }) (Qk E t r.gs) W):=by
 obtain⟨j,hj,ht⟩:=Zl hc;have hp:=i.prog W hf;obtain⟨I,ic,kv,tv,q1,lt,i0,-,i3,-,kr,-⟩:=hp.ins hk;obtain⟨C,cc,q0,cj,B⟩:=hp.con ht;obtain⟨K,kc,rfl,kj,Q⟩:=kr.at_ hj;have h3:=i.n3 t (zW ht);have R:=i.n1;have D:=i.n2;obtain⟨n,hN⟩:=zr s.code.length;obtain⟨m,hM⟩:=zr s.cs.length;obtain⟨z,hZ⟩:=zr x.k.length;rw[hN]at q1 lt R;rw[hM]at q0 B D;rw[hZ]at i3 Q;rw[H]at i0;have y:=hR;obtain⟨v,st,cs,O,U,P,hi,T,V,hS,hA,hF⟩:=hR;have b0:=O.cell.1;have d:H9 b q j t W:=⟨b0,C,m,cc,q0,cj,B,D⟩;have ie:=Z (Rm i.get b q j t r.gs W O.cell.2.2.1 d hi J);have k1:(k:Int)<(n:Int):=J;have k3:(0:Int)<(z:Int):=J;obtain⟨res,h⟩:=zr (Qk E t r.gs);rw[h]at ie|-;obtain⟨L,HR,HF,HL⟩:=hdd i y hf f;clear i hf hp hk H O U P hi T V hS hA hF hN hM hZ kr hj ht hc y d h f;go_enter func65,ntmps65;go_wp2_with fail;refine ie.o.mono ?_;intro e w1 hq;cases res with
 |error er =>
  obtain⟨c,s'⟩:=er;obtain⟨⟨a,rfl,hold⟩,hI⟩:=hq;obtain⟨h1,h2⟩:=vw.err L.o HR.o hI;have HQ:=Z (show cd b A0 q g gv G F S Inv r k (λv s'=>{ r with out:=r.out++E.wr v,gs:=s' }) (.error (c,s'):Except (Nat×τ) (uL×τ)) W (.panicked ({ v:=kX c,recovered:=false }::a)) w1 from⟨⟨⟨a,rfl,hold⟩,h1⟩,h2⟩);exact Av
 |ok p =>
  obtain⟨nn,s'⟩:=p;obtain⟨⟨nv,rfl,l,bh⟩,hI⟩:=hq;obtain⟨h1,h2,-⟩:=vw.asked L.o HR.o hI;have w:=Z (Cz L.o (HF.o.trans h2) h1 l HL.o);have M:=Z h2;have N:=Z (L.o.wrl nn l.ok);obtain⟨gd,o,cap,rfl,-⟩:=l;clear hI ie h1 h2;go_wp2_with fail;refine w.o.mono ?_;rintro e w2 ⟨rfl,hr,A⟩;have u:=Z (zg hr A);clear hr A w;go_wp2;go_ret;exact⟨⟨Dm,u.o.1,by have:=N.o;simp;omega,dK _⟩,M.o.trans u.o.2⟩
end
section
variable {τ:Type} {w0 W:z8} {A0 b q mb g k:Nat} {G:Nat->Prop} {s:MkS} {vC vI gv:Value} {rs:List (Value×Value)} {E:jd τ} {F S:τ->Nat->Prop} {Inv:τ->z8->Prop} {r:ZU τ} {x:uG}
def zix(hE:Z9 w0 A0 b G q mb g s vC vI rs gv E F S Inv)(hf:Fr G G w0 W)(hR:vw b A0 q g gv G F S Inv r W)(hk:s.code[k]? = some x)(dE:x.op=2)(hc:Ys s x=some t)(M:r.out.length<=900000000) :
  zC Tryz.prog 65 #[(b,0),k] W (cd b A0 q g gv G F S Inv r k (λ(p:Wd×Bool) s'=>{ r with out:=r.out++zcv E p.1 p.2,gs:=s' }) (VK E t r.gs) W):=by
 obtain⟨j,hj,ht⟩:=Zl hc;have hp:=hE.prog W hf;obtain⟨I,ic,kv,tv,q1,lt,i0,-,i3,-,kr,-⟩:=hp.ins hk;obtain⟨C,cc,q0,cj,lY⟩:=hp.con ht;obtain⟨K,kc,rfl,kj,lB⟩:=kr.at_ hj;have h3:=hE.n3 t (zW ht);have DX:=hE.n1;have Df:=hE.n2;obtain⟨n,hN⟩:=zr s.code.length;obtain⟨m,hM⟩:=zr s.cs.length;obtain⟨z,hZ⟩:=zr x.k.length;rw[hN]at q1 lt DX;rw[hM]at q0 lY Df;rw[hZ]at i3 lB;rw[dE]at i0;have hR':=hR;obtain⟨v,st,cs,hO,ZN,hen,hi,hsb,rH,hS,hA,hF⟩:=hR;have b0:=hO.cell.1;have D:H9 b q j t W:=⟨b0,C,m,cc,q0,cj,lY,Df⟩;have ie:=Z (NY hE.get b q j t r.gs W hO.cell.2.2.1 D hi J);have k1:(k:Int)<(n:Int):=J;have k3:(0:Int)<(z:Int):=J;obtain⟨res,d⟩:=zr (VK E t r.gs);rw[d]at ie|-;obtain⟨HRS,T,HR,HF,HL⟩:=Jl d hE hR' hf M;clear hE hf hp hk dE hO ZN hen hi hsb rH hS hA hF hN hM hZ kr hj ht hc hR' D d M;go_enter func65,ntmps65;go_wp2_with fail;refine ie.o.mono ?_;intro e w1 hq;cases res with
 |error er =>
  obtain⟨c,s'⟩:=er;obtain⟨⟨y,rfl,hold⟩,hI⟩:=hq;obtain⟨h1,h2⟩:=vw.err T.o HR.o hI;have HQ:=Z (show cd b A0 q g gv G F S Inv r k (λ(p:Wd×Bool) s'=>{ r with out:=r.out++zcv E p.1 p.2,gs:=s' }) (.error (c,s'):Except (Nat×τ) ((Wd×Bool)×τ)) W (.panicked ({ v:=kX c,recovered:=false }::y)) w1 from⟨⟨⟨y,rfl,hold⟩,h1⟩,h2⟩);exact Av
 |ok p =>
  obtain⟨⟨u,num⟩,s'⟩:=p;obtain⟨⟨hu,rfl⟩,hI⟩:=hq;obtain⟨h1,h2,-⟩:=vw.asked T.o HR.o hI;have hv:=IA HRS.o;have bh:(⟨u.toArray⟩:ByteArray).size=u.length:=size_mk _;have HP:=λW=>Z (Yt ⟨u.toArray⟩ W (by rw[bh];exact hu))
  have OI:=Z h1;have ER:=Z h2;have HV:=Z hv;clear hI ie h1 h2 hv;cases num
  .go_wp2_with fail;refine(HP _).out.mono ?_;rintro e w2 ⟨bb,pv,pk,rfl,⟨va,vn,vk,rfl⟩,f,-⟩;have i:Fr yH yH w1 w2:=((Fr.refl _ _).alloc _).trans (Fr.of f);have e0:zu w2 (w1:Nat) 0 (zM u):=(f.cell zZ).trans (zf _ _ _ _ 0);have e1:zu w2 (w1:Nat) 1 (.bool false):=(f.cell zZ).trans (zf _ _ _ _ 1);obtain⟨V,hVe⟩:=zr (w1:Nat);rw[hVe]at e0 e1;obtain⟨A,a⟩:=zr (w2.alloc (.cells #[.bool bb,.slice va vn vk,pk] 99));have h:Fr yH yH w1 A:=(by rw[<-a];exact i.alloc _);have d0:zu A V 0 (zM u):=(by rw[<-a];exact yy e0 _);have d1:zu A V 1 (.bool false):=(by rw[<-a];exact yy e1 _);have h60:u.length<=60:=(by have:=HV.o;simpa[bj]using this);have B:=OI.o.quiet T.o h;have U:=Z h;obtain⟨v',st',cs',hO',Q,H,hi',P,R,hS',hA',hF'⟩:=B;have Af:=Z (Ge (w:=A.drew) u hO' (by have:=HL.o;simp only;omega));have VB:=Z (λw' hq=>vw.wrote (t:=u) (w':=w') T.o Q H hi' P R hS' hA' hF' hO'.lt hq);clear f i e0 e1 hO' Q H hi' P R hS' hA' hF' h HP;cases ue u;all_goals
    go_wp2_with fail;try rw[a]
    refine DN (λW':z8=>zu W' V 0 (zM u)) 5 (xB 5) 1 d0 ?_;refine FT 5 (λJk hJ=>?_);go_simp;refine Af.o.mono ?_;rintro e w4 ⟨⟨uu,rfl⟩,hq4⟩;refine hJ.out _ _ ?_;clear hJ Jk;refine FW ?_ _;obtain⟨l,L⟩:=VB.o w4 (by obtain⟨v4,a1,a2⟩:=hq4;exact⟨v4,a1,a2.und⟩);have H4:=Z (zg l L);clear hq4 l L a;go_wp2;go_ret;exact⟨⟨Dm,H4.o.1,by simp[zcv];omega,dK _⟩,(ER.o.trans (U.o.wide (λ_ q=>q.elim))).trans H4.o.2⟩
  .have N:ue u=true:=(by have:=HV.o;exact this);have HN:=Z N;clear N;go_wp2_with fail;refine(HP _).out.mono ?_;rintro e w2 ⟨bb,pv,pk,rfl,⟨va,vn,vk,rfl⟩,f,d⟩;obtain⟨rfl,rfl,O⟩:=d HN.o;obtain⟨d1',d2',hw',h30⟩:=Gl HN.o;have i:Fr yH yH w1 w2:=((Fr.refl _ _).alloc _).trans (Fr.of f);have e0:zu w2 (w1:Nat) 0 (zM u):=(f.cell zZ).trans (zf _ _ _ _ 0);have e1:zu w2 (w1:Nat) 1 (.bool true):=(f.cell zZ).trans (zf _ _ _ _ 1);obtain⟨V,hVe⟩:=zr (w1:Nat);rw[hVe]at e0 e1;obtain⟨A,a⟩:=zr (w2.alloc (.cells #[.bool (XA u),.slice va vn vk,((ud u).length:Nat)] 99));have h:Fr yH yH w1 A:=(by rw[<-a];exact i.alloc _);have d1:zu A V 1 (.bool true):=(by rw[<-a];exact yy e1 _);have uD:=mG (XA u) (w:=A) (by rw[<-a];exact O.alloc _) d1' d2' hw' h30;have B:=OI.o.quiet T.o h;have HTL:=Z (Cz T.o ((HF.o.trans ER.o).trans (h.wide (λ_ q=>q.elim))) B uD HL.o);have HWL:=Z (T.o.wrl _ uD.ok);have U:=Z h;have n0:∀j,A.cell? ⟨(w2:Nat),j,none⟩=(#[gI (XA u),.slice va vn vk,((ud u).length:Nat)]:Array Value)[j]? := λj=>by rw[<-a];exact zf _ _ _ _ _
   have m0:=n0 0;have m1:=n0 1;have m2:=n0 2;simp only[gV,qA,qa]at m0 m1 m2;clear f i e0 e1 uD B h HP d O n0;rw[HN.o];go_wp2_with fail;refine HTL.o.mono ?_;rintro e w4 ⟨rfl,l,GO⟩;have H4:=Z (zg l GO);clear l GO HTL;go_wp2;go_ret;exact⟨⟨Dm,H4.o.1,by have:=HWL.o;simp[zcv,numOf];omega,dK _⟩,(ER.o.trans (U.o.wide (λ_ q=>q.elim))).trans H4.o.2⟩
end
section
variable {τ:Type} {w0 W:z8} {A0 b q mb g k:Nat} {G:Nat->Prop} {s:MkS} {vC vI gv:Value} {rs:List (Value×Value)} {E:jd τ} {F S:τ->Nat->Prop} {Inv:τ->z8->Prop} {r:ZU τ} {x:uG}
structure NQ(b A0 q g:Nat)(gv:Value)(G:Nat->Prop)(F S:τ->Nat->Prop)(Inv:τ->z8->Prop)(r:ZU τ)(v st:Value)(cs:List Value)(w:z8):Prop where
 o:qK b (q,0) (g,0) gv st v r.out w
 row:w.ownsRow 0 253 6 st r.stk.length cs
 en:dM (C9 b v st (S r.gs)) w r.stk cs
 inv:Inv r.gs w
 sb:st.ownBlock≠some b
 sv:∀k,zH v k->¬zH st k
 ds:∀k,S r.gs k->(k+2<b\/b<k)/\¬zH v k/\¬zH st k
 da:∀k,zH v k\/zH st k->A0<=k
 df:∀k,F r.gs k->G k
def NQ.asked(hE:Z9 w0 A0 b G q mb g s vC vI rs gv E F S Inv){st:Value}(h:NQ b A0 q g gv G F S Inv r v st cs w){s':τ}(i:Inv s' w'/\Fr (F r.gs) (F s') w w'/\∀k,S s' k->S r.gs k\/(w:Nat)<=k) :
  NQ b A0 q g gv G F S Inv { r with gs:=s' } v st cs w'/\Fr G G w w':=by
 obtain⟨hO,ZN,a,hi,c,d,hS,hA,hF⟩:=h;obtain⟨hi',hf,hs'⟩:=i;have f:=hO.lt;have j:¬F r.gs b:=λq=>by have:=(hS b (hE.get.sub _ _ q)).1;omega
 have l:∀k,zH v k->¬F r.gs k:=λk hk q=>(hS k (hE.get.sub _ _ q)).2.1 hk
 have e:∀k,zH st k->¬F r.gs k:=λk hk q=>(hS k (hE.get.sub _ _ q)).2.2 hk
 refine⟨⟨hO.fr hf j l,hf.own ZN e,dM.fr hf (λk hk => .inr (.inr (.inr (hE.get.sub _ _ hk)))) (λk hk=>?_) a,hi',c,d,λk hk=>?_,hA,λk hk=>?_⟩,?_⟩
 .exact yb9
 .exact zj8
 .exact zvd
 .exact zu7
def NQ.quiet(a:Z9 w0 A0 b G q mb g s vC vI rs gv E F S Inv){st:Value}(h:NQ b A0 q g gv G F S Inv r v st cs w)(hf:Fr yH yH w w'):NQ b A0 q g gv G F S Inv r v st cs w' :=
 ⟨h.o.fr hf id (λ_ _ q=>q),hf.own h.row (λ_ _ q=>q),dM.fr hf (λ_ q=>q.elim) (λ_ q => .inl q) h.en,a.get.fr h.inv hf (λ_ q=>q.elim),h.sb,h.sv,h.ds,h.da,h.df⟩
def cZ(R:Z9 w0 A0 b G q mb g s vC vI rs gv E F S Inv)(hf:Fr G G w0 W)(hR:vw b A0 q g gv G F S Inv r W)(f:s.code[k]? = some x)(dE:x.op=4)(hc:Ys s x=some t)(Ml:r.stk.length<=900000) :
  zC Tryz.prog 65 #[(b,0),k] W (cd b A0 q g gv G F S Inv r k (λv s'=>{ r with stk:=r.stk++[(v,Bo v x.v)],gs:=s' }) (Qk E t r.gs) W):=by
 obtain⟨j,hj,ht⟩:=Zl hc;have hp:=R.prog W hf;obtain⟨I,ic,kv,tv,q1,lt,i0,i2,i3,-,kr,-⟩:=hp.ins f;obtain⟨C,cc,q0,cj,lY⟩:=hp.con ht;obtain⟨K,kc,rfl,kj,lB⟩:=kr.at_ hj;have h3:=R.n3 t (zW ht);have hv9:=(R.n4 x (zW f)).1;have DX:=R.n1;have Df:=R.n2;obtain⟨n,hN⟩:=zr s.code.length;obtain⟨m,hM⟩:=zr s.cs.length;obtain⟨z,hZ⟩:=zr x.k.length;obtain⟨xv,hXV⟩:=zr x.v;rw[hN]at q1 lt DX;rw[hM]at q0 lY Df;rw[hZ]at i3 lB;rw[hXV]at i2 hv9|-;rw[dE]at i0;obtain⟨v,st,cs,hO,ZN,A,hi,hsb,rH,hS,hA,hF⟩:=hR;have hRC:NQ b A0 q g gv G F S Inv r v st cs W:=⟨hO,ZN,A,hi,hsb,rH,hS,hA,hF⟩;have b0:=hO.cell.1;have wW:=hO.lt;have T:H9 b q j t W:=⟨b0,C,m,cc,q0,cj,lY,Df⟩;have ie:=Z (Rm R.get b q j t r.gs W hO.cell.2.2.1 T hi J);have k1:(k:Int)<(n:Int):=J;have k3:(0:Int)<(z:Int):=J;obtain⟨res,Ft⟩:=zr (Qk E t r.gs);rw[Ft]at ie|-;obtain⟨HVI,HK,HXV,l,HE,Ar,HF,HSL⟩:=OJ (zL (hp.q1.symm.trans (show zu W q 1 (.slice (zU I 0) s.code.length ic)by rw[hN];exact q1))) f hXV (zg wW (zg (λk (f:zH v k)=>uj hO.row f) (λk (f:zH st k)=>uj ZN f))) R hRC hf Ml;clear R hf hp f dE hO ZN A hi hsb rH hS hA hF hN hM hZ kr hj ht hc T Ft wW hRC hXV Ml;go_enter func65,ntmps65;go_wp2_with fail;refine ie.o.mono ?_;intro e w1 hq;cases res with
 |error er =>
  obtain⟨c,s'⟩:=er;obtain⟨⟨D,rfl,hold⟩,hI⟩:=hq;obtain⟨h1,h2⟩:=Ar.o.asked HE.o hI;have HQ:=Z (show cd b A0 q g gv G F S Inv r k (λv s'=>{ r with stk:=r.stk++[(v,Bo v xv)],gs:=s' }) (.error (c,s'):Except (Nat×τ) (uL×τ)) W (.panicked ({ v:=kX c,recovered:=false }::D)) w1 from⟨⟨⟨D,rfl,hold⟩,h1.inv,λk f=>(h1.ds k f).1⟩,h2⟩);exact Av
 |ok p =>
  obtain⟨O,s'⟩:=p;obtain⟨⟨nv,rfl,hnn,bh⟩,hI⟩:=hq;obtain⟨h1,h2⟩:=Ar.o.asked HE.o hI;have B:fS (C9 b v st (S s')) w1 nv O:=hnn.fr (Fr.refl yH _) (λ_ q=>q.elim) (λk f => .inl (by
   rcases f with rfl|h|h|h
   .exact .inl l.o.1
   .exact .inl (l.o.2.1 k h)
   .exact .inl (l.o.2.2 k h)
   .exact .inr h))
  have pF:=HE.o.prog w1 (HF.o.trans h2);obtain⟨ER,u,HNN,Zb⟩:=hdd h2 h1 B bh;obtain⟨gd,o,cap,xlj,-⟩:=hnn;obtain⟨nb,ib⟩:=zr O.1;obtain⟨LL,hLL⟩:=zr (O.2.1.length+O.2.2.length);obtain⟨sc,hsc⟩:=zr O.2.2.length;rw[ib,hLL,hsc]at xlj;subst xlj;obtain⟨I2,ic2,kv2,tv2,q1',-,-,i2',-⟩:=pF.ins HK.o;have L:=zL (pF.q1.symm.trans q1');rw[HVI.o]at L;simp only[gZ,vA,YL,and_true,true_and]at L;rw[<-L.1,HXV.o]at i2';obtain⟨B9,hB9⟩:=zr (w1:Nat);obtain⟨W2,y⟩:=zr (w1.alloc (.cells #[.bool nb,.slice (zU gd o) LL cap,sc] 99));have M:Fr yH yH w1 W2:=by rw[<-y];exact(Fr.refl _ _).alloc _
  have n0:∀j,W2.cell? ⟨B9,j,none⟩=(#[gI nb,.slice (zU gd o) LL cap,sc]:Array Value)[j]? := λj=>by rw[<-y,<-hB9];exact zf _ _ _ _ _
  have m0:=n0 0;have m1:=n0 1;have m2:=n0 2;simp only[gV,qA,qa]at m0 m1 m2;have i2W:=M.cell i2' id;have V:=rF _ O xv W2.drew ((B.any.fr M (λ_ q=>q.elim) (M':=λ_=>False) (λ_ q=>q.elim)).fr (w':=W2.drew) (F:=yH) (F':=yH) ((Fr.refl _ _).drew) (λ_ q=>q.elim) (M':=λ_=>False) (λ_ q=>q.elim)) hv9 J;have P:=Z V;have H:=Z M;clear h1 h2 hI ie B pF V M n0 L q1' i2' b0 q0 q1 i0 i2 i3 cj kj bh;go_wp2_with fail;try rw[y]
  clear y hB9 ib hLL hsc;refine DN (λW':z8=>zu W' B9 0 (.bool nb)/\zu W' B9 1 (.slice (zU gd o) LL cap)/\zu W' B9 2 sc/\zu W' I (k*5+2) xv) 11 (xB 9) 3 ⟨m0,m1,m2,i2W⟩ ?_;refine dJ 9 (λJk hJ=>?_);go_simp;refine P.o.mono ?_;rintro e w3 ⟨⟨v3,rfl,N⟩,dD⟩;have a:Fr yH yH W2 w3:=(Fr.of dD).und;have HZ:=Z N;have HOK:=Z N.ok;obtain⟨zz,oG⟩:=zr (Bo O xv);rw[oG]at N HZ;obtain⟨g3,o3,Q,hv3,-⟩:=N;obtain⟨zb,hzb⟩:=zr zz.1;obtain⟨L3,hL3⟩:=zr (zz.2.1.length+zz.2.2.length);obtain⟨sc3,xlg⟩:=zr zz.2.2.length;rw[hzb,hL3,xlg]at hv3;subst hv3;have i:=u.o.quiet HE.o (H.o.trans a);have p9:=u.o.o.lt;have h1:fS (C9 b v st (S s')) w3 (RN nb gd o LL cap sc) O:=HNN.o.fr (H.o.trans a) (λ_ q=>q.elim) (λ_ q => .inl q);have h2:fS (C9 b v st (S s')) w3 (RN zb g3 o3 L3 Q sc3) zz:=HZ.o.fr (Fr.refl yH _) (λ_ q=>q.elim) (λk f => .inl (by
   have y:=H.o.size;have Ep:=ER.o.size;show k<(W2:Nat);rcases f with rfl|h|h|h
   .omega
   .have:=l.o.2.1 k h;omega
   .have:=l.o.2.2 k h;omega
   .have:=HE.o.get.Nb s' w1 k u.o.inv h;omega))
  have A:=dM.snoc h1 h2 i.en;have HPU:=Z (ze7 i.o i.row i.sb i.sv (by have:=HSL.o;simp only;omega) nb zb gd o LL cap sc g3 o3 L3 Q sc3);have V6:=Z (λw' hq=>vw.mF (r:={ r with gs:=s' }) (w:=w3) (w':=w') (stk:=r.stk++[(O,zz)]) HE.o i.row A i.inv i.ds i.da i.df i.o.lt (by rw[zy];exact hq));have c0:=a.cell m0 id;have c1:=a.cell m1 id;have c2:=a.cell m2 id;have c3:=a.cell i2W id;have oR:=Z a;have HZZ:=Z oG;clear a i h1 h2 A dD P hzb hL3 xlg p9 oG m0 m1 m2 i2W;refine hJ.out _ _ ⟨c0,c1,c2,c3⟩ λ_=>?_
  clear hJ Jk;refine jL [10] 1 rfl ZR yq yq ⟨c0,c1,c2,c3⟩ ?_;refine ty ?_;try simp only[pl]
  refine yS ?_;refine FT 11 (λJk hJ=>?_);go_simp;refine HPU.o.mono ?_;rintro e w4 ⟨rfl,hq4⟩;refine hJ.out _ _ ?_;clear hJ Jk;refine FW ?_ _;obtain⟨El,U⟩:=V6.o w4 hq4;have H4:=Z (zg El U);clear hq4 El U HPU V6;go_wp2;go_ret;have TF:=H4.o.1;rw[<-HZZ.o]at TF;exact⟨⟨by first|rfl|simp,TF,bA _ _,zZ⟩,(ER.o.trans ((H.o.trans oR.o).wide (λ_ q=>q.elim))).trans H4.o.2⟩
end
variable{p:Nat}
def D4(s:MkS)(p:Nat):Int:=C8 (qo s.code s.code.length p)
section
variable {τ:Type} {w0 W:z8} {A0 b q mb g k:Nat} {G:Nat->Prop} {s:MkS} {vC vI gv:Value} {rs:List (Value×Value)} {E:jd τ} {F S:τ->Nat->Prop} {Inv:τ->z8->Prop} {r:ZU τ} {x:uG}
def step_goto(h:Z9 w0 A0 b G q mb g s vC vI rs gv E F S Inv)(hf:Fr G G w0 W)(hR:vw b A0 q g gv G F S Inv r W)(i:s.code[k]? = some x)(f:x.op=11)(c:x.tg[0]? = some p) :
  zC Tryz.prog 65 #[(b,0),k] W λe w'=>e = .returned (.int .i64 (D4 s p))/\Fr yH yH W w':=by
 have hp:=h.prog W hf;obtain⟨I,K,kv,tv,q1,lt,C,-,-,i4,-,tr⟩:=hp.ins i;obtain⟨T,tc,rfl,t,m⟩:=tr.at_ c;have l:=(h.n4 x (zW i)).2 p (zW c);have d:=Z (Gm q mb s.code.length p _ W.drew hp.q2 (hp.mp.keep rfl) l);have j:=h.n1;obtain⟨D,a⟩:=zr (D4 s p);have H:=Z a;rw[show C8 (qo s.code s.code.length p)=D from a]at d;rw[a];obtain⟨n,w⟩:=zr s.code.length;obtain⟨z,A⟩:=zr x.tg.length;rw[w]at q1 lt j;rw[A]at i4 m;rw[f]at C;obtain⟨v,st,cs,y,-⟩:=hR;have b0:=y.cell.1;have k1:(k:Int)<(n:Int):=J;have k3:(0:Int)<(z:Int):=J;clear h hf hp i f y w A tr c a;go_enter func65,ntmps65;go_wp2_with fail;refine V1 (λW':z8=>zu W' b 0 (zU q 0)/\zu W' I (k*5+4) (.slice (zU T 0) z tc)/\zu W' T 0 p) (xB 10) 2 ⟨b0,i4,t⟩ ?_;refine gX 10 (λB u=>?_);go_simp;refine d.o.mono ?_;rintro e w1 ⟨rfl,rfl⟩;refine u.out _ _ ⟨b0,i4,t⟩ λ_=>?_
 clear u B;refine Tc [11] 0 ⟨b0,i4,t⟩ ?_;refine ty ?_;try simp only[pl]
 refine yS ?_;refine Y3 ?_ _;go_wp2;go_ret;exact⟨rfl,(Fr.refl _ _).drew⟩
def cY(hE:Z9 w0 A0 b G q mb g s vC vI rs gv E F S Inv)(hf:Fr G G w0 W)(hR:vw b A0 q g gv G F S Inv r W)(hk:s.code[k]? = some x)(dE:x.op=7)(H:x.tg[0]? = some p){stk:List (uL×uL)}(hs:r.stk=stk++[tp])(D:r.stk.length<=1000000) :
  zC Tryz.prog 65 #[(b,0),k] W λe w'=>e = .returned (.int .i64 (if Ub tp.1 x.v then D4 s p else ((k+1:Nat):Int)))/\Fr yH yH W w':=by
 have hp:=hE.prog W hf;obtain⟨I,ic,kv,tv,q1,lt,i0,i2,-,i4,-,tr⟩:=hp.ins hk;obtain⟨T,tc,rfl,tj,htl⟩:=tr.at_ H;obtain⟨hv9,C⟩:=hE.n4 x (zW hk);have C:=C p (zW H);have d:=Z (λ(w:z8) (hq:zu w q 2 (.map (some mb))) (hm:jR w mb s.code.length (qo s.code s.code.length))=>Gm q mb s.code.length p (qo s.code s.code.length) w hq hm C);have f:=Z (zg hp.q2 hp.mp);have DX:=hE.n1;obtain⟨jv,B⟩:=zr (D4 s p);rw[show C8 (qo s.code s.code.length p)=jv from B]at d;rw[B];obtain⟨n,hN⟩:=zr s.code.length;obtain⟨z,hZ⟩:=zr x.tg.length;obtain⟨xv,R⟩:=zr x.v;rw[hN]at q1 lt DX f d;rw[hZ]at i4 htl;rw[R]at i2 hv9|-;rw[dE]at i0;obtain⟨v,st,cs,hO,j,A,-⟩:=hR;obtain⟨tn,tz⟩:=tp;obtain⟨JJ,y⟩:=zr ((if Ub tn xv=true then jv else ((k+1:Nat):Int)));have O:=Z y;rw[show(if Ub (tn,tz).1 xv=true then jv else ((k+1:Nat):Int))=JJ from y];clear y;have c:(stk++[(tn,tz)]).length=stk.length+1:=zZ;rw[hs]at A j D;rw[c]at j D;obtain⟨cs',nb,g1,o1,m1,c1,k1',zb,g2,o2,m2,c2,k2,rfl,m,hn,-⟩:=A.last;have HT:=Z (DJ (w:=W.drew) hO nb zb g1 o1 m1 c1 k1' g2 o2 m2 c2 k2 j m.len J);have b0:=hO.cell.1;have k1:(k:Int)<(n:Int):=J;have k3:(0:Int)<(z:Int):=J;have hfd:=Rn;have P:=Z (λ(w:z8) (hb:Fr yH yH W w)=>ze5 _ tn xv w (hn.any.fr hb (λ_ q=>q.elim) (M':=λ_=>False) (λ_ q=>q.elim)) hv9);clear hE hf hp hk dE hO hN hZ tr H B j A m hs D c R hn;go_enter func65,ntmps65;go_wp2_with fail;refine V1 (λW':z8=>zu W' I (k*5+2) xv) [0,1,2,5,6,7,8] 4 i2 ?_;refine gX 3 (λQ l=>?_);go_simp;refine HT.o.mono ?_;rintro e w1 ⟨rfl,U⟩;have h:Fr yH yH W w1:=(Fr.of U).und;have K:=h.cell i2 id;refine l.out _ _ K λ_=>?_
 clear l Q;refine Tc [4] 2 K ?_;refine ty ?_;try simp only[pl]
 refine yS ?_;refine gX 9 (λQ l=>?_);go_simp;refine(P.o w1 h).mono ?_;rintro e w2 ⟨rfl,V⟩;have a:Fr yH yH W w2:=h.trans (Fr.of V);have i2b:=a.cell i2 id;have u:=a.cell b0 id;have L:=a.cell i4 id;have M:=a.cell tj id;have q2b:=a.cell f.o.1 id;have HMB:=Z (f.o.2.keep (a.keep mb f.o.2.lt id));refine l.out _ _ i2b λ_=>?_
 clear l Q;refine Tc [10] 0 i2b ?_;refine ty ?_;try simp only[pl]
 refine yS ?_;refine Y3 ?_ _;have N:=Z a;clear h U a V K HT P hfd b0 i4 tj i2;cases i:Ub tn xv
 .have t:=Z (show((k+1:Nat):Int)=JJ by rw[<-O.o,i];rfl);clear i;go_wp2;go_ret;exact⟨by rw[<-t.o];first|rfl|simp,N.o⟩
 .have t:=Z (show jv=JJ by rw[<-O.o,i];rfl);have HA2:=Z (d.o w2.drew q2b (HMB.o.keep rfl));clear i d;go_wp2_with fail;refine V1 (λW':z8=>zu W' b 0 (zU q 0)/\zu W' I (k*5+4) (.slice (zU T 0) z tc)/\zu W' T 0 p) (xB 10) 2 ⟨u,L,M⟩ ?_;refine gX 10 (λQ l=>?_);go_simp;refine HA2.o.mono ?_;rintro e w3 ⟨rfl,rfl⟩;refine l.out _ _ ⟨u,L,M⟩ λ_=>?_
  clear l Q;refine Tc [11] 0 ⟨u,L,M⟩ ?_;refine ty ?_;try simp only[pl]
  refine yS ?_;refine Y3 ?_ _;go_wp2;go_ret;exact⟨by rw[<-t.o];rfl,N.o.drew⟩
end
section
variable {τ:Type} {w0 W:z8} {A0 b q mb g k:Nat} {G:Nat->Prop} {s:MkS} {vC vI gv:Value} {rs:List (Value×Value)} {E:jd τ} {F S:τ->Nat->Prop} {Inv:τ->z8->Prop} {r:ZU τ} {x:uG}
def ri(C:Z9 w0 A0 b G q mb g s vC vI rs gv E F S Inv)(hf:Fr G G w0 W)(hR:vw b A0 q g gv G F S Inv r W)(hk:s.code[k]? = some x)(M:x.op=8){stk:List (uL×uL)}(hs:r.stk=stk++[tp])(A:x.tg[E.sort false tp.2.2]? = some p)(y:r.stk.length<=1000000) :
  zC Tryz.prog 65 #[(b,0),k] W λe w'=>e = .returned (.int .i64 (D4 s p))/\Fr yH yH W w':=by
 have hp:=C.prog W hf;obtain⟨I,ic,kv,tv,q1,lt,i0,i2,-,i4,-,tr⟩:=hp.ins hk;obtain⟨T,tc,rfl,P,N⟩:=tr.at_ A;have Rp:=(C.n4 x (zW hk)).2 p (zW A);have h:=Z (λ(w:z8) (hq:zu w q 2 (.map (some mb))) (hm:jR w mb s.code.length (qo s.code s.code.length))=>Gm q mb s.code.length p (qo s.code s.code.length) w hq hm Rp);have d:=Z (zg hp.q2 hp.mp);have DX:=C.n1;obtain⟨jv,u⟩:=zr (D4 s p);rw[show C8 (qo s.code s.code.length p)=jv from u]at h;rw[u];obtain⟨n,hN⟩:=zr s.code.length;obtain⟨z,hZ⟩:=zr x.tg.length;rw[hN]at q1 lt DX d h;rw[hZ]at i4 N;rw[M]at i0;obtain⟨v,st,cs,Q,i,t,-⟩:=hR;obtain⟨tn,tz⟩:=tp;have f:(stk++[(tn,tz)]).length=stk.length+1:=zZ;rw[hs]at t i y;rw[f]at i y;obtain⟨cs',nb,g1,o1,m1,c1,k1',zb,g2,o2,m2,c2,k2,rfl,l,-,hz⟩:=t.last;have HT:=Z (DJ (w:=W.drew) Q nb zb g1 o1 m1 c1 k1' g2 o2 m2 c2 k2 i l.len J);obtain⟨cv,ov,hcv,K,Xq⟩:=C.set;have g0:=(hcv W hf).1;obtain⟨ix,L⟩:=zr (E.sort false tz.2);have m:=Z (λ(w:z8) (hb:Fr yH yH W w)=>K w _ tz.2 (hf.trans (hb.wide (G:=G) (λ_ q=>q.elim))) ((hz.any.fr hb (λ_ q=>q.elim) (M':=λ_=>False) (λ_ q=>q.elim))).num);simp only[L]at m P N;have b0:=Q.cell.1;have b1:=Q.cell.2.1;have k1:(k:Int)<(n:Int):=J;have k3:(ix:Int)<(z:Int):=J;have hfd:=K8;clear C hf hp hk M Q hN hZ tr A u i t l hs y f hz hcv K Xq L;go_enter func65,ntmps65;go_wp2_with fail;refine V1 (λW':z8=>zu W' b 0 (zU q 0)/\zu W' b 1 (zU g 0)/\zu W' g 0 cv/\zu W' I (k*5+4) (.slice (zU T 0) z tc)/\zu W' T ix p) (xB 18) 7 ⟨b0,b1,g0,i4,P⟩ ?_;refine gX 18 (λB j=>?_);go_simp;refine HT.o.mono ?_;rintro e w1 ⟨rfl,D⟩;have c:Fr yH yH W w1:=(Fr.of D).und;have a1:=c.cell b0 id;have a2:=c.cell b1 id;have a3:=c.cell g0 id;have a4:=c.cell i4 id;have V:=c.cell P id;refine j.out _ _ ⟨a1,a2,a3,a4,V⟩ λ_=>?_
 clear j B;refine Tc [19] 5 ⟨a1,a2,a3,a4,V⟩ ?_;refine ty ?_;try simp only[pl]
 refine yS ?_;refine gX 20 (λB j=>?_);go_simp;refine(m.o w1 c).mono ?_;rintro e w2 ⟨rfl,H⟩;have a:Fr yH yH W w2:=c.trans (Fr.of H);have d1:=a.cell b0 id;have d2:=a.cell b1 id;have d3:=a.cell g0 id;have d4:=a.cell i4 id;have d5:=a.cell P id;have O:=a.cell d.o.1 id;have R:=Z (h.o w2 O (d.o.2.keep (a.keep mb d.o.2.lt id)));have U:=Z a;clear a1 a2 a3 a4 V c D a H b0 b1 g0 i4 P HT m h d O;refine j.out _ _ ⟨d1,d2,d3,d4,d5⟩ λ_=>?_
 clear j B;refine VO [21,22] 2 ⟨d1,d2,d3,d4,d5⟩ ?_;refine gX 23 (λB j=>?_);go_simp;refine R.o.mono ?_;rintro e w3 ⟨rfl,rfl⟩;refine j.out _ _ ⟨d1,d2,d3,d4,d5⟩ λ_=>?_
 clear j B;refine Tc [24] 0 ⟨d1,d2,d3,d4,d5⟩ ?_;refine ty ?_;try simp only[pl]
 refine yS ?_;refine Y3 ?_ _;go_wp2;go_ret;exact⟨rfl,U.o⟩
def rp(C:Z9 w0 A0 b G q mb g s vC vI rs gv E F S Inv)(hf:Fr G G w0 W)(hR:vw b A0 q g gv G F S Inv r W)(hk:s.code[k]? = some x)(M:x.op=9){stk:List (uL×uL)}(hs:r.stk=stk++[tp])(A:x.tg[E.sort true tp.2.2]? = some p)(y:r.stk.length<=1000000) :
  zC Tryz.prog 65 #[(b,0),k] W λe w'=>e = .returned (.int .i64 (D4 s p))/\Fr yH yH W w':=by
 have hp:=C.prog W hf;obtain⟨I,ic,kv,tv,q1,lt,i0,i2,-,i4,-,tr⟩:=hp.ins hk;obtain⟨T,tc,rfl,P,N⟩:=tr.at_ A;have Rp:=(C.n4 x (zW hk)).2 p (zW A);have h:=Z (λ(w:z8) (hq:zu w q 2 (.map (some mb))) (hm:jR w mb s.code.length (qo s.code s.code.length))=>Gm q mb s.code.length p (qo s.code s.code.length) w hq hm Rp);have d:=Z (zg hp.q2 hp.mp);have DX:=C.n1;obtain⟨jv,u⟩:=zr (D4 s p);rw[show C8 (qo s.code s.code.length p)=jv from u]at h;rw[u];obtain⟨n,hN⟩:=zr s.code.length;obtain⟨z,hZ⟩:=zr x.tg.length;rw[hN]at q1 lt DX d h;rw[hZ]at i4 N;rw[M]at i0;obtain⟨v,st,cs,Q,i,t,-⟩:=hR;obtain⟨tn,tz⟩:=tp;have f:(stk++[(tn,tz)]).length=stk.length+1:=zZ;rw[hs]at t i y;rw[f]at i y;obtain⟨cs',nb,g1,o1,m1,c1,k1',zb,g2,o2,m2,c2,k2,rfl,l,-,hz⟩:=t.last;have HT:=Z (DJ (w:=W.drew) Q nb zb g1 o1 m1 c1 k1' g2 o2 m2 c2 k2 i l.len J);obtain⟨cv,ov,hcv,Vj,K⟩:=C.set;have g0:=(hcv W hf).2;obtain⟨ix,L⟩:=zr (E.sort true tz.2);have m:=Z (λ(w:z8) (hb:Fr yH yH W w)=>K w _ tz.2 (hf.trans (hb.wide (G:=G) (λ_ q=>q.elim))) ((hz.any.fr hb (λ_ q=>q.elim) (M':=λ_=>False) (λ_ q=>q.elim))).num);simp only[L]at m P N;have b0:=Q.cell.1;have b1:=Q.cell.2.1;have k1:(k:Int)<(n:Int):=J;have k3:(ix:Int)<(z:Int):=J;have hfd:=K8;clear C hf hp hk M Q hN hZ tr A u i t l hs y f hz hcv Vj K L;go_enter func65,ntmps65;go_wp2_with fail;refine V1 (λW':z8=>zu W' b 0 (zU q 0)/\zu W' b 1 (zU g 0)/\zu W' g 1 ov/\zu W' I (k*5+4) (.slice (zU T 0) z tc)/\zu W' T ix p) (xB 18) 7 ⟨b0,b1,g0,i4,P⟩ ?_;refine gX 18 (λB j=>?_);go_simp;refine HT.o.mono ?_;rintro e w1 ⟨rfl,D⟩;have c:Fr yH yH W w1:=(Fr.of D).und;have a1:=c.cell b0 id;have a2:=c.cell b1 id;have a3:=c.cell g0 id;have a4:=c.cell i4 id;have V:=c.cell P id;refine j.out _ _ ⟨a1,a2,a3,a4,V⟩ λ_=>?_
 clear j B;refine Tc [19] 5 ⟨a1,a2,a3,a4,V⟩ ?_;refine ty ?_;try simp only[pl]
 refine yS ?_;refine gX 20 (λB j=>?_);go_simp;refine(m.o w1 c).mono ?_;rintro e w2 ⟨rfl,H⟩;have a:Fr yH yH W w2:=c.trans (Fr.of H);have d1:=a.cell b0 id;have d2:=a.cell b1 id;have d3:=a.cell g0 id;have d4:=a.cell i4 id;have d5:=a.cell P id;have O:=a.cell d.o.1 id;have R:=Z (h.o w2 O (d.o.2.keep (a.keep mb d.o.2.lt id)));have U:=Z a;clear a1 a2 a3 a4 V c D a H b0 b1 g0 i4 P HT m h d O;refine j.out _ _ ⟨d1,d2,d3,d4,d5⟩ λ_=>?_
 clear j B;refine VO [21,22] 2 ⟨d1,d2,d3,d4,d5⟩ ?_;refine gX 23 (λB j=>?_);go_simp;refine R.o.mono ?_;rintro e w3 ⟨rfl,rfl⟩;refine j.out _ _ ⟨d1,d2,d3,d4,d5⟩ λ_=>?_
 clear j B;refine Tc [24] 0 ⟨d1,d2,d3,d4,d5⟩ ?_;refine ty ?_;try simp only[pl]
 refine yS ?_;refine Y3 ?_ _;go_wp2;go_ret;exact⟨rfl,U.o⟩
end
variable{I i:Nat}{α:Type}
section
variable {τ:Type} {w0 W:z8} {A0 b q mb g k:Nat} {G:Nat->Prop} {s:MkS} {vC vI gv:Value} {rs:List (Value×Value)} {E:jd τ} {F S:τ->Nat->Prop} {Inv:τ->z8->Prop} {r:ZU τ} {x:uG}
def ziv(s:MkS)(x:uG)(u:Wd)(_:τ)(_:z8)(e:xU):Prop:=e = .returned ((Ql s x u:Nat):Int)
def ziu[BEq α][LawfulBEq α]{l:List α}{a:α}(hi:i<l.length)(h:a ∉ l.take i)(he:l[i]=a):l.idxOf a=i:=by
 have h1:l=l.take i++l[i]::l.drop (i+1):=by rw[<-yY hi,Xx]
 rw[h1,LU,yz h,he,List.idxOf_cons_self,uK];omega
def ziq{l:List α}{a:α}(hi:i<l.length)(h:a ∉ l.take i)(he:l[i]≠a):a ∉ l.take (i+1):=by
 rw[yj hi,zS,zJ];exactλq=>q.elim h (λe=>he e.symm)
def cX(hE:Z9 w0 A0 b G q mb g s vC vI rs gv E F S Inv)(hf:Fr G G w0 W)(hR:vw b A0 q g gv G F S Inv r W)(hk:s.code[k]? = some x)(hc:Ys s x=some t){ic:Nat}(hvI:vI = .slice (I,0) s.code.length ic)(P:x.k.tail.all (λj=>decide (j<s.cs.length))=true)(lB:x.k.length<=1000000) :
  zC Tryz.prog 114 #[(b,0),(I,k*5)] W (QR F S Inv r.gs W (ziv s x) (TI E t r.gs)):=by
 obtain⟨j,hj,ht⟩:=Zl hc;have hp:=hE.prog W hf;obtain⟨I1,ic1,kv,tv,q1,lt,i0,-,i3,-,kr,-⟩:=hp.ins hk;have d:=zL (hp.q1.symm.trans q1);rw[hvI]at d;simp only[gZ,vA,YL,and_true,true_and]at d;rw[<-d.1]at i3;obtain⟨C,cc,q0,cj,w⟩:=hp.con ht;obtain⟨K,kc,rfl,kj,vcj⟩:=kr.at_ hj;have h3:=hE.n3 t (zW ht);obtain⟨v,st,cs,hO,ZN,hen,hi,hsb,rH,hS,hA,hF⟩:=hR;have hRC:NQ b A0 q g gv G F S Inv r v st cs W:=⟨hO,ZN,hen,hi,hsb,rH,hS,hA,hF⟩;have Q:H9 b q j t W:=⟨hO.cell.1,C,s.cs.length,cc,q0,cj,w,hE.n2⟩;have H:=Z (ziz hE.get b q j t r.gs W hO.cell.2.2.1 Q hi J);obtain⟨z,hZ⟩:=zr x.k.length;rw[hZ]at i3 vcj lB;obtain⟨res,R⟩:=zr (TI E t r.gs);rw[R]at H|-;have k3:(0:Int)<(z:Int):=J;obtain⟨HE,HF,Ar,HK,HVI,HAL,U⟩:=EY hE hf hRC hk hvI P hZ;clear hE hf hRC hk hvI P hp hO ZN hen hi hsb rH hS hA hF kr hj ht hc Q R q1 i0 q0 cj lt w d hZ;go_enter func114,ntmps114;go_wp2_with fail;refine H.o.mono ?_;intro e w1 hq;cases res with
 |error er =>
  obtain⟨c,s'⟩:=er;obtain⟨⟨D,rfl,hold⟩,hI⟩:=hq;have HQ:=Z (show QR F S Inv r.gs W (ziv s x) (.error (c,s'):Except (Nat×τ) (Wd×τ)) (.panicked ({ v:=kX c,recovered:=false }::D)) w1 from⟨⟨D,rfl,hold⟩,hI⟩);clear hold hI H;exact Lp
 |ok p =>
  obtain⟨u,s'⟩:=p;obtain⟨⟨hu,rfl⟩,hI⟩:=hq;obtain⟨h1,h2⟩:=Ar.o.asked HE.o hI;have hp:=HE.o.prog w1 (HF.o.trans h2);obtain⟨I1,ic1,kv,tv,q1,lt,i0,-,N,-,kr,-⟩:=hp.ins HK.o;have d:=zL (hp.q1.symm.trans q1);rw[HVI.o]at d;simp only[gZ,vA,YL,and_true,true_and]at d;rw[<-d.1]at N;obtain⟨K2,B,aX,vcg,vcf,hK2⟩:=xf kr (by rw[U.o];omega);have wP:x.k.length<=B:=by
   rcases kr.2 with⟨hv,hn⟩|⟨g2,Gk,cur,hv,_,_,hh,_⟩
   .rw[U.o]at hn;omega
   .rw[aX]at hv;cases hv;exact hh
  rw[aX,U.o]at N;rw[U.o]at wP;have b0:=h1.o.cell.1;have HI:=Z hI;have HP:=Z hp;have HK2:=Z hK2;obtain⟨y,rfl⟩:∃y,z=y+1:=⟨z - 1,J⟩;have l4:1<=B:=J;have l5:((y:Int)+1) - 1=(y:Int):=J;obtain⟨L,O⟩:=zr (x.k.tail.map (λj=>s.cs[j]?));have l:L.length=y:=by rw[<-O,vg,OS,U.o];omega
  have m:Ql s x u=L.idxOf (some u):=by unfold Ql;rw[O]
  have HL:=Z (zg O (zg l m));have bh:(⟨u.toArray⟩:ByteArray).size=u.length:=size_mk _;clear h1 h2 hI H hp q1 lt i0 kr d aX hK2 vcg vcf kj i3 O l m;by_cases hk1:B=1
  .obtain rfl:y=0:=(by omega);subst hk1;have HQ:=Z (show Ql s x u=0 by
    obtain⟨a,b,c⟩:=HL.o;rw[c,zN b];rfl)
   go_wp2_with fail;go_loopw [20] (λiv wr=>iv = .int .i64 0/\wr=w1) (λ_ _=>0)
   case atStart=>exact⟨rfl,rfl⟩
   case round =>
    obtain⟨rfl,rfl⟩:=hrel;go_wp2;go_ret;exact⟨by unfold ziv;rw[HQ.o];rfl,HI.o⟩
  .go_wp2_with fail;go_loopw [20] (λiv wr=>∃i:Nat,iv = .int .i64 i/\i<=y/\some u ∉ L.take i/\Fr yH yH w1 wr) (λiv _=>y - (intOf iv).toNat)
   case atStart=>exact⟨0,rfl,zQ _,zZ,Fr.refl _ _⟩
   case round =>
    obtain⟨i,rfl,hiy,A,f⟩:=hrel;have T:=Z f;have HN:=Z A;by_cases uo:i<y
    .obtain⟨O,l,m⟩:=HL.o;have n:i<L.length:=(by omega);have hkt:i<x.k.tail.length:=(by rw[OS,U.o];omega);have OK:x.k.tail[i]<s.cs.length:=of_decide_eq_true (zi.1 HAL.o _ (yf hkt));have hki:x.k[i+1]? = some x.k.tail[i]:=(by rw[List.getElem_tail,zk]);obtain⟨jj,hjj⟩:=zr (x.k.tail[i]);rw[hjj]at OK hki;obtain⟨c,V⟩:∃c,s.cs[jj]? = some c:=⟨_,zk OK⟩;have M:L[i]=some c:=by
      have:L[i]? = some (some c):=(by rw[<-O,og,zk hkt,hjj,QM,V]);rw[zk n]at this;exact zL this
     obtain⟨C2,cc2,q0,cj,w⟩:=HP.o.con V;have q0':=f.cell q0 id;have cj':=f.cell cj id;have b0':=f.cell b0 id;have i3b:=f.cell N id;have kj':zu wr K2 (i+1) jj:=f.cell (by rw[HK2.o _ (by rw[U.o];omega)];simp[bo,hki]) id;obtain⟨mm,Em⟩:=zr s.cs.length;rw[Em]at q0' w;have f1:(i:Int)<(y:Int):=J;have f2:(1:Int)+(i:Int)<(y:Int)+1:=J;have f3:(0:Int)<=1+(i:Int):=J;have f4:vH.wrap (1+(i:Int))=1+(i:Int):=Yy;have f5:(1+(i:Int)).toNat=i+1:=J;have f6:(jj:Int)<(mm:Int):=J;have ueg:(⟨c.toArray⟩:ByteArray).size=c.length:=size_mk _;clear f A q0 cj w V hjj hki OK hkt O l m Em;by_cases hcu:c=u
     .subst hcu;have HS:=Z (show Ql s x c=i by rw[HL.o.2.2];exact ziu n HN.o M);clear M n;go_wp2_with fail;refine V1 (λW':z8=>zu W' b 0 (.pointer (some ⟨q,0,none⟩))/\zu W' q 0 (.slice (zU C2 0) mm cc2)/\zu W' I (k*5+3) (.slice (zU K2 0) (y+1) B)/\zu W' K2 (i+1) jj/\zu W' C2 jj (zM c)) (xB 19) 0 ⟨b0',q0',i3b,kj',cj'⟩ ?_;refine Y3 ?_ _;go_wp2;go_ret;exact⟨by unfold ziv;rw[HS.o];rfl,QR.more HE.o.get HI.o (T.o.drew) (λ_ q=>q.elim)⟩
     .have HN2:=Z (ziq n HN.o (by rw[M];exactλe=>hcu (zL e)));have uef:(c==u)=false:=(by simpa using hcu);clear M n;go_wp2_with fail;refine V1 (λW':z8=>zu W' b 0 (zU q 0)/\zu W' q 0 (.slice (zU C2 0) mm cc2)/\zu W' I (k*5+3) (.slice (zU K2 0) (y+1) B)/\zu W' K2 (i+1) jj/\zu W' C2 jj (zM c)) (xB 19) 0 ⟨b0',q0',i3b,kj',cj'⟩ ?_;refine Y3 ?_ _;go_wp2;exact⟨⟨i+1,congrArg (yb .i64) J,J,HN2.o,T.o.drew⟩,by simp only[intOf];omega⟩
    .obtain rfl:i=y:=(by omega);have HS:=Z (show Ql s x u=i by
      obtain⟨O,l,m⟩:=HL.o;rw[m];have h:=HN.o;rw[yr J]at h;rw[zpb h,l])
     have i3b:=f.cell N id;have f1:¬((i:Int)<(i:Int)):=J;clear f A;go_wp2;go_ret;exact⟨by unfold ziv;rw[HS.o];first|rfl|simp,QR.more HE.o.get HI.o T.o (λ_ q=>q.elim)⟩
end
def ug.dI{q mb k:Nat}{s:MkS}{vC vI:Value}{rs:List (Value×Value)}{x:uG}(h:ug q s vC vI rs mb w)(hk:s.code[k]? = some x):∃I b kv tv,rs[k]? = some (kv,tv)/\vI = .slice (some ⟨I,0,none⟩) s.code.length b/\zey q k x I s.code.length b kv tv w:=by
 have d:=(zF.1 hk).1;obtain⟨⟨kv,tv⟩,hr⟩:∃r,rs[k]? = some r:=⟨_,zk GY⟩;obtain⟨h1,h2⟩:=h.rows.k k x _ hk hr;obtain⟨I,b,a,-,e,yn6⟩:=xf h.cI J;have c:∀j,j<5->w.cell? ⟨I,k*5+j,none⟩=(Jg x (kv,tv))[j]? := λj hj=>AU
 exact⟨I,b,kv,tv,hr,a,⟨by rw[h.q1,a],d,c 0 J,c 2 J,c 3 J,c 4 J,h1,h2⟩⟩
section
variable {τ:Type} {w0 W:z8} {A0 b q mb g k:Nat} {G:Nat->Prop} {s:MkS} {vC vI gv:Value} {rs:List (Value×Value)} {E:jd τ} {F S:τ->Nat->Prop} {Inv:τ->z8->Prop} {r:ZU τ} {x:uG}
def xlf(b A0 q g:Nat)(gv:Value)(G:Nat->Prop)(F S:τ->Nat->Prop)(Inv:τ->z8->Prop)(s:MkS)(x:uG)(r:ZU τ)(res:Except (Nat×τ) (Wd×τ))(W:z8)(e:xU)(w':z8):Prop :=
 (match res with
  |.ok (u,s')=>(∀p,x.tg[Ql s x u]? = some p->e = .returned (.int .i64 (D4 s p)))/\vw b A0 q g gv G F S Inv { r with gs:=s' } w'
  |.error (n,s')=>yrb n e/\NU Inv S b { r with gs:=s' } w')/\Fr G G W w'
def Rr(Q:Z9 w0 A0 b G q mb g s vC vI rs gv E F S Inv)(hf:Fr G G w0 W)(hR:vw b A0 q g gv G F S Inv r W)(hk:s.code[k]? = some x)(dE:x.op=10)(hc:Ys s x=some t)(M:x.k.tail.all (λj=>decide (j<s.cs.length))=true)(lB:x.k.length<=1000000)(l:∀u,∃p,x.tg[Ql s x u]? = some p) :
  zC Tryz.prog 65 #[(b,0),k] W (xlf b A0 q g gv G F S Inv s x r (TI E t r.gs) W):=by
 have hp:=Q.prog W hf;obtain⟨I,ic,kv,tv,Qf,hvI,q1,lt,i0,-,-,i4,-,tr⟩:=hp.dI hk;obtain⟨p0,hp0⟩:=l [];obtain⟨T,tc,htv,-,ve3⟩:=tr.at_ hp0;obtain⟨v,st,cs,hO,ZN,hen,hi,hsb,rH,hS,hA,hF⟩:=hR;have a:NQ b A0 q g gv G F S Inv r v st cs W.drew:=⟨hO,ZN,dM.fr ((Fr.refl yH W).drew) (λ_ q=>q.elim) (λ_ q => .inl q) hen,Q.get.fr hi ((Fr.refl yH W).drew) (λ_ q=>q.elim),hsb,rH,hS,hA,hF⟩;have hRA:vw b A0 q g gv G F S Inv r W.drew:=⟨v,st,cs,a.o,a.row,a.en,a.inv,a.sb,a.sv,a.ds,a.da,a.df⟩;have U:Fr G G w0 W.drew:=hf.drew;have C:=Z (cX Q U hRA hk hc hvI M lB);have b0:=hO.cell.1;have DX:=Q.n1;obtain⟨n,hN⟩:=zr s.code.length;obtain⟨z,hZ⟩:=zr x.tg.length;obtain⟨res,N⟩:=zr (TI E t r.gs);rw[N]at C|-;have D:=Z (λ(w:z8) (h:ug q s vC vI rs mb w)=>show zu w I (k*5+4) (.slice (zU T 0) z tc)/\∀j y,x.tg[j]? = some y->zu w T j (.int .i64 (y:Nat))by
  obtain⟨I',ic',kv',tv',O,m,q1',-,-,-,-,i4',-,tr'⟩:=h.dI hk;rw[hvI]at m;simp only[gZ,vA,YL,and_true,true_and]at m;rw[Qf]at O;cases O;rw[<-m.1]at i4';refine⟨by rw[i4',htv,hZ],λj y hj=>?_⟩;obtain⟨T',tc',P,hc',-⟩:=tr'.at_ hj;rw[htv]at P;cases P;exact hc')
 have i4W:=(D.o W hp).1;have tjW:=(D.o W hp).2;rw[hN]at q1 lt DX;rw[dE]at i0;have k1:(k:Int)<(n:Int):=J;obtain⟨HE,HF,Ar,HTB,HX4⟩:=Jl Q U a l (λp hp=>(Q.n4 x (zW hk)).2 p hp);obtain⟨TG,R⟩:=zr x.tg;rw[R]at tjW hZ D;have HZ:=Z hZ;have HTG:=Z R;clear Q hf a hRA hk dE hc M hp hO ZN hen hi hsb rH hS hA hF hN hZ tr Qf hvI i4 ve3 l N hp0 U R htv;go_enter func65,ntmps65;go_wp2_with fail;refine V1 (λW':z8=>zu W' b 0 (zU q 0)/\zu W' I (k*5+4) (.slice (zU T 0) z tc)/\∀j y,TG[j]? = some y->zu W' T j (.int .i64 (y:Nat))) (xB 10) 5 ⟨b0,i4W,tjW⟩ ?_;refine gX 10 (λJk hJ=>?_);go_simp;refine C.o.mono ?_;intro e w1 hq;cases res with
 |error er =>
  obtain⟨c,s'⟩:=er;obtain⟨⟨A,rfl,hold⟩,hI⟩:=hq;obtain⟨h1,h2⟩:=Ar.o.asked HE.o hI;have HQ:=Z (show xlf b A0 q g gv G F S Inv s x r (.error (c,s'):Except (Nat×τ) (Wd×τ)) W (.panicked ({ v:=kX c,recovered:=false }::A)) w1 from⟨⟨⟨A,rfl,hold⟩,h1.inv,λk hk=>(h1.ds k hk).1⟩,h2.und⟩);clear hold hI C h1 h2;exact⟨rfl,HQ.o⟩
 |ok p =>
  obtain⟨u,s'⟩:=p;obtain⟨hch,hI⟩:=hq;obtain rfl:=hch;obtain⟨h1,h2⟩:=Ar.o.asked HE.o hI;have K:=HE.o.prog w1 (HF.o.trans h2);obtain⟨L,B⟩:=D.o w1 K;have H:=h1.o.cell.1;obtain⟨p,f⟩:=HTB.o u;obtain⟨ix,V⟩:=zr (Ql s x u);rw[V]at f|-;have i:TG[ix]? = some p:=by rw[<-HTG.o];exact f
  have k3:(ix:Int)<(z:Int):=by have:=(zF.1 i).1;have:=HZ.o;omega
  have HAT:=Z (Gm q mb s.code.length p (qo s.code s.code.length) w1 K.q2 K.mp (HX4.o p (zW f)));have tj1:=B ix p i;have ER:=Z (show Fr G G W w1 from h2.und);have d:=Z h1;obtain⟨jv,hjv⟩:=zr (D4 s p);rw[show C8 (qo s.code s.code.length p)=jv from hjv]at HAT;have HJV:=Z hjv;have HPT:=Z (zg f V);clear hI C h1 h2 K hjv f V b0 i4W tjW;refine hJ.out _ _ ⟨H,L,B⟩ λ_=>?_
  clear hJ Jk;refine Tc [11,12] 2 ⟨H,L,B⟩ ?_;refine ty ?_;try simp only[pl]
  refine Jt (v := .int .i64 p) rfl xV ?_ ?_
  .intro w' hS';have t1:=hS'.2.2 ix p i;go_simp
  try simp only[pl]
  refine yS ?_;refine gX 13 (λJk hJ=>?_);go_simp;refine HAT.o.mono ?_;rintro e w3 ⟨rfl,rfl⟩;refine hJ.out _ _ ⟨H,L,B⟩ λ_=>?_
  clear hJ Jk;refine Tc [14] 0 ⟨H,L,B⟩ ?_;refine ty ?_;try simp only[pl]
  refine yS ?_;refine Y3 ?_ _;go_wp2;go_ret;refine⟨⟨λp' hp'=>?_,⟨_,_,_,d.o.o,d.o.row,d.o.en,d.o.inv,d.o.sb,d.o.sv,d.o.ds,d.o.da,d.o.df⟩⟩,ER.o⟩;rw[HPT.o.2,HPT.o.1]at hp';cases hp';rw[HJV.o];rfl
end
def zik(s:MkS):Prop:=∀x∈s.code,(x.op=7->0<x.tg.length)/\(x.op=10->x.k.length<=1000000/\x.k.tail.all (λj=>decide (j<s.cs.length))=true/\x.k.tail.length<x.tg.length)
section
variable {τ:Type} {w0 W:z8} {A0 b q mb g k:Nat} {G:Nat->Prop} {s:MkS} {vC vI gv:Value} {rs:List (Value×Value)} {E:jd τ} {F S:τ->Nat->Prop} {Inv:τ->z8->Prop} {r:ZU τ} {x:uG}
def VmI(w0:z8)(b A0 q g:Nat)(gv:Value)(G:Nat->Prop)(F S:τ->Nat->Prop)(Inv:τ->z8->Prop)(m _:Nat)(r:ZU τ)(W:z8):Prop :=
 vw b A0 q g gv G F S Inv r W/\Fr G G w0 W/\r.out.length+m*5000<=900000000/\r.stk.length+m<=900000
def VmJ(w0:z8)(b A0 q g:Nat)(gv:Value)(G:Nat->Prop)(F S:τ->Nat->Prop)(Inv:τ->z8->Prop)(r:ZU τ)(W:z8):Prop :=
 vw b A0 q g gv G F S Inv r W/\r.out.length<=900000000
def Rs{k:Nat}(a:n+(m+1)*5000<=k):n+m*5000<=k:=by
 rw[Nat.succ_mul]at a;exact zj (Nat.add_le_add_left (bA _ _) n) a
def Ia{k:Nat}(a:n+(m+1)<=k):n+m<=k:=J
def rr{k:Nat}(a:n+(m+1)*5000<=k):n<=k:=J
def mB(hf:Fr G G w0 W)(c:r.out.length+(m+1)*5000<=900000000)(hs:r.stk.length+(m+1)<=900000){r':ZU τ}{e:xU}(h1:e = .returned ((k+1:Nat):Int))(h2:VmQ b A0 q g gv G F S Inv r (k+1) r' w')(a:Fr G G W w') :
  ae G (VmI w0 b A0 q g gv G F S Inv m) (VmJ w0 b A0 q g gv G F S Inv) (NU Inv S b) (.go (k+1) r') W e w' :=
 ⟨⟨h1,h2.1,hf.trans a,by have:=h2.2.1;omega,by have:=h2.2.2;omega⟩,a⟩
def yq5(hf:Fr G G w0 W)(c:r.out.length+(m+1)*5000<=900000000)(hs:r.stk.length+(m+1)<=900000){r':ZU τ}{e:xU}(h1:e = .returned ((k+1:Nat):Int))(h2:vw b A0 q g gv G F S Inv r' w')(a:Fr G G W w')(a1:r'.out=r.out)(a2:r'.stk=r.stk) :
  ae G (VmI w0 b A0 q g gv G F S Inv m) (VmJ w0 b A0 q g gv G F S Inv) (NU Inv S b) (.go (k+1) r') W e w':=by
 have k2:r.out.length+m*5000<=900000000:=Rs c;have k3:r.stk.length+m<=900000:=Ia hs;exact⟨⟨h1,h2,hf.trans a,by simp only[a1];exact k2,by simp only[a2];exact k3⟩,a⟩
def Cy(hf:Fr G G w0 W)(c:r.out.length+(m+1)*5000<=900000000)(hs:r.stk.length+(m+1)<=900000){r':ZU τ}{e:xU}(h1:e = .returned (.int .i64 (D4 s p)))(h2:vw b A0 q g gv G F S Inv r' w')(a:Fr G G W w')(a1:r'.out=r.out)(a2:r'.stk=r.stk) :
  ae G (VmI w0 b A0 q g gv G F S Inv m) (VmJ w0 b A0 q g gv G F S Inv) (NU Inv S b) (TL s (some p) r') W e w':=by
 have k2:r.out.length+m*5000<=900000000:=Rs c;have k1:r.out.length<=900000000:=rr c;have k3:r.stk.length+m<=900000:=Ia hs;refine⟨?_,a⟩;simp only[TL];subst h1;unfold D4;cases qo s.code s.code.length p with
 |none=>exact⟨rfl,h2,by simp only[a1];exact k1⟩
 |some k'=>exact⟨rfl,h2,hf.trans a,by simp only[a1];exact k2,by simp only[a2];exact k3⟩
def ve6(r:ZU τ)(k:Nat){α:Type}(fn:α->τ->ZU τ)(res:Except (Nat×τ) (α×τ)):aI (ZU τ):=match res with |.error (n,s') => .err n { r with gs:=s' } |.ok (a,s') => .go (k+1) (fn a s')
def cV{fn:α->τ->ZU τ}(hf:Fr G G w0 W)(d:r.out.length+(m+1)*5000<=900000000)(hs:r.stk.length+(m+1)<=900000){c:Except (Nat×τ) (α×τ)}{e:xU}(h:cd b A0 q g gv G F S Inv r k fn c W e w'){o:aI (ZU τ)}
  (f:o=ve6 r k fn c) :
  ae G (VmI w0 b A0 q g gv G F S Inv m) (VmJ w0 b A0 q g gv G F S Inv) (NU Inv S b) o W e w':=by
 subst f;obtain⟨h1,h2⟩:=h;cases c with
 |error i=>exact⟨h1,h2⟩
 |ok a=>exact mB hf d hs h1.1 h1.2 h2
def Zm{l:List α}{t:α}(h:l.getLast? = some t):l=l.dropLast++[t]:=by
 obtain⟨ys,rfl⟩:=List.getLast?_eq_some_iff.1 h;simp
def zij{x:uG}{r:ZU τ}(h:TL s x.tg[i]? r ≠ .bad):∃p,x.tg[i]? = some p:=by
 cases hp:x.tg[i]? with
 |none=>rw[hp]at h;exact absurd rfl h
 |some p=>exact⟨p,rfl⟩
def yq6(c:Z9 w0 A0 b G q mb g s vC vI rs gv E F S Inv)(H:zik s)(I:VmI w0 b A0 q g gv G F S Inv (m+1) k r W)(hb:V7 E s k r ≠ .bad) :
  zC Tryz.prog 65 #[(b,0),k] W (ae G (VmI w0 b A0 q g gv G F S Inv m) (VmJ w0 b A0 q g gv G F S Inv) (NU Inv S b) (V7 E s k r) W):=by
 obtain⟨hR,hf,d,hs⟩:=I;have i:∀{w w':z8},Fr yH yH w w'->Fr G G w w':=λh=>(h.tg (F'':=yH) (λk a=>a.elim)).wide (λk a=>a.elim)
 have B:r.stk.length<=900000:=J;have j:r.stk.length<=1000000:=J;have f:r.out.length<=900000000:=J;cases a:s.code[k]? with
 |none=>exact absurd (by simp only[V7,a]) hb
 |some x =>
  have C:V7 E s k r=dC E s x k r:=by simp only[V7,a]
  rw[C]at hb|-;have y:x.op=0\/x.op=1\/x.op=2\/x.op=3\/x.op=4\/x.op=5\/x.op=6\/x.op=7\/x.op=8\/x.op=9\/x.op=10\/x.op=11\/12<=x.op:=J;rcases y with dE|dE|dE|dE|dE|dE|dE|dE|dE|dE|dE|dE|dE
  .rw[show dC E s x k r = .fin r by unfold dC;rw[dE];rfl];obtain⟨v,st,cs,D,A⟩:=hR;refine(step_end D (c.prog W hf) a dE c.n1).mono ?_;rintro e w' ⟨rfl,rfl⟩;exact⟨⟨rfl,⟨v,st,cs,D,A⟩,f⟩,Fr.refl _ _⟩
  .cases hc:Ys s x with
   |none=>exact absurd QZ hb
   |some t =>
    rw[show dC E s x k r = .go (k+1) { r with out:=r.out++t }by unfold dC;rw[dE];simp only[hc]];exact(ziy c hf hR a dE hc f).mono λe w' h=>mB hf d hs h.1 h.2.1 h.2.2
  .cases hc:Ys s x with
   |none=>exact absurd QZ hb
   |some t =>
    refine(zix c hf hR a dE hc f).mono λe w' h=>cV hf d hs h ?_
    unfold dC;rw[dE];simp only[hc];generalize VK E t r.gs=z;rcases z with⟨n,g'⟩|⟨⟨t,num⟩,g'⟩<;>rfl
  .cases hc:Ys s x with
   |none=>exact absurd QZ hb
   |some t =>
    refine(Ro c hf hR a dE hc f).mono λe w' h=>cV hf d hs h ?_
    exact zv2
  .cases hc:Ys s x with
   |none=>exact absurd QZ hb
   |some t =>
    refine(cZ c hf hR a dE hc B).mono λe w' h=>cV hf d hs h ?_
    exact zv2
  .cases hc:r.stk.getLast? with
   |none=>exact absurd QZ hb
   |some t =>
    rw[show dC E s x k r = .go (k+1) { r with stk:=r.stk.dropLast }by unfold dC;rw[dE];simp only[hc]];exact(cg c hf hR a dE (Zm hc) j).mono λe w' h=>mB hf d hs h.1 h.2.1 h.2.2
  .cases hc:r.stk.getLast? with
   |none=>exact absurd QZ hb
   |some t =>
    rw[show dC E s x k r = .go (k+1) { r with out:=r.out++E.wr t.2 }by unfold dC;rw[dE];simp only[hc]];exact(re c hf hR a dE (Zm hc) j f).mono λe w' h=>mB hf d hs h.1 h.2.1 h.2.2
  .cases hc:r.stk.getLast? with
   |none=>exact absurd QZ hb
   |some t =>
    rw[show dC E s x k r=if Ub t.1 x.v then TL s x.tg[0]? r else .go (k+1) r by unfold dC;rw[dE];simp only[hc]]at hb|-;obtain⟨p,hp⟩:∃p,x.tg[0]? = some p:=⟨_,zk ((H x (zW a)).1 dE)⟩;rw[hp];refine(cY c hf hR a dE hp (Zm hc) j).mono λe w' h=>?_
    by_cases l:Ub t.1 x.v=true
    .rw[yV l];exact Cy hf d hs (by rw[h.1,yV l]) (hR.quiet c h.2) (i h.2) rfl rfl
    .rw[yz l];exact yq5 hf d hs (by rw[h.1,yz l]) (hR.quiet c h.2) (i h.2) rfl rfl
  .cases hc:r.stk.getLast? with
   |none=>exact absurd QZ hb
   |some t =>
    rw[show dC E s x k r=TL s x.tg[E.sort false t.2.2]? r by unfold dC;rw[dE];simp only[hc]]at hb|-;obtain⟨p,hp⟩:=zij hb;rw[hp];exact(ri c hf hR a dE (Zm hc) hp j).mono λe w' h=>Cy hf d hs h.1 (hR.quiet c h.2) (i h.2) rfl rfl
  .cases hc:r.stk.getLast? with
   |none=>exact absurd QZ hb
   |some t =>
    rw[show dC E s x k r=TL s x.tg[E.sort true t.2.2]? r by unfold dC;rw[dE];simp only[hc]]at hb|-;obtain⟨p,hp⟩:=zij hb;rw[hp];exact(rp c hf hR a dE (Zm hc) hp j).mono λe w' h=>Cy hf d hs h.1 (hR.quiet c h.2) (i h.2) rfl rfl
  .cases hc:Ys s x with
   |none=>exact absurd QZ hb
   |some t =>
    obtain⟨a1,a2,a3⟩:=(H x (zW a)).2 dE;have o:∀u,∃p,x.tg[Ql s x u]? = some p:=λu=>⟨_,zk (Nat.lt_of_le_of_lt zg5 a3)⟩
    refine(Rr c hf hR a dE hc a2 a1 o).mono λe w' h=>?_
    rw[show dC E s x k r=(match TI E t r.gs with |.error (e,g) => .err e { r with gs:=g } |.ok (t,g)=>TL s x.tg[Ql s x t]? { r with gs:=g })by unfold dC;rw[dE];simp only[hc,a2,if_true];generalize TI E t r.gs=z;rcases z with⟨n,g'⟩|⟨u,g'⟩<;>rfl];obtain⟨h1,h2⟩:=h;cases hw:TI E t r.gs with
    |error K =>
     rw[hw]at h1;exact⟨h1,h2⟩
    |ok p =>
     obtain⟨u,s'⟩:=p;rw[hw]at h1;obtain⟨p,hp⟩:=o u;show ae _ _ _ _ (TL s x.tg[Ql s x u]? { r with gs:=s' }) _ _ _;rw[hp];exact Cy hf d hs (h1.1 p hp) h1.2 h2 rfl rfl
  .rw[show dC E s x k r=TL s x.tg[0]? r by unfold dC;rw[dE];rfl]at hb|-;obtain⟨p,hp⟩:=zij hb;rw[hp];exact(step_goto c hf hR a dE hp).mono λe w' h=>Cy hf d hs h.1 (hR.quiet c h.2) (i h.2) rfl rfl
  .refine absurd ?_ hb;unfold dC;split<;>first|rfl|omega
end
variable{ks:List Wd}{k:Nat}
def Fo.vok:Bool->Fo->Prop
 |_,.nil=>True
 |b,.text _ r=>r.vok b
 |b,.hash r=>b=true/\r.vok b
 |b,.put _ _ r=>r.vok b
 |b,.num _ _ r=>r.vok b
 |b,.br _ _ f _ _ bs r=>bs.xW=true/\bs.keys.Nodup/\qg∈bs.keys/\bs.vok (decide (f≠0))/\r.vok b
 |b,.xR _ _ m r=>m.yT=true/\m.vok b/\r.vok b
def shx(x:uG):Nat×Nat×Nat×List Nat×Nat:=(x.op,x.pos,x.v,x.k,x.tg.length)
def qh(s:MkS)(i j n:Nat):(s.xH i j).code[n]? = if i=n then (s.code[n]?).map (λx=>{ x with tg:=x.tg.set j s.pos })else s.code[n]? := by
 simp only[MkS.xH];rw[Ja];by_cases h:i=n
 .simp[h]
 .simp[h]
def fN(s:MkS)(i j:Nat):(s.xH i j).code.length=s.code.length:=by simp[MkS.xH]
def yp(s:MkS)(op v:Nat)(k tg:List Nat):(s.put op v k tg).code=s.code++[⟨op,s.pos,v,k,tg⟩]:=rfl
def Gn(s:MkS):qi λs'=>∀(i:Nat) (x:uG),s.code[i]? = some x->∃y,s'.code[i]? = some y/\shx y=shx x:=by
 refine⟨λa op v k tg h i x hx=>?_,λa t h i x hx=>?_,λa i j h n x hx=>?_⟩
 .obtain⟨y,h1,h2⟩:=h i x hx;exact⟨y,by rw[yp,za (zF.1 h1).1];exact h1,h2⟩
 .rw[(xM a t).2.1];exact h i x hx
 .obtain⟨y,h1,h2⟩:=h n x hx;rw[qh];split
  .exact⟨_,Ya,by rw[<-h2];simp[shx]⟩
  .exact⟨y,h1,h2⟩
def xz6(c:List Wd):qi λs=>c <+: s.cs:=by
 refine⟨λa op v k tg h=>h,λa t h=>?_,λa i j h=>h⟩;unfold MkS.const;split
 .exact h
 .exact h.trans (Dv _ _)
def mC(s:MkS):Prop:=(∀(i j:Nat) (x y:uG),i<j->s.code[i]? = some x->s.code[j]? = some y->x.pos<y.pos)/\∀x∈s.code,x.pos<s.pos
def Rt(x:uG):0<(xF x).length:=by simp[xF]
def Ic:qi mC:=by
 refine⟨λs op v k tg h=>?_,λs t h=>?_,λs i j h=>?_⟩
 .have hp:=Rt ⟨op,s.pos,v,k,tg⟩;refine⟨λi j x y f hx hy=>?_,λx hx=>?_⟩
  .rw[yp]at hx hy;rw[List.getElem?_append]at hx hy;split at hy
   .rw[yV J]at hx;exact h.1 i j x y f hx hy
   .have o:j - s.code.length=0:=by
     have:=(zF.1 hy).1;simp at this;omega
    rw[o]at hy;simp at hy;subst hy;rw[yV J]at hx;exact h.2 x (zW hx)
  .show x.pos<s.pos+_;rw[yp,zS,zJ]at hx;rcases hx with hx|rfl
   .have:=h.2 x hx;omega
   .show s.pos<_;omega
 .obtain⟨-,z2,p⟩:=xM s t;unfold mC;rw[z2,p];exact h
 .have c:∀(n:Nat) (x:uG),(s.xH i j).code[n]? = some x->∃y,s.code[n]? = some y/\y.pos=x.pos:=by
   intro n x hx;rw[qh]at hx;split at hx
   .cases hc:s.code[n]? with
    |none=>rw[hc]at hx;cases hx
    |some y=>rw[hc]at hx;cases hx;exact⟨y,rfl,rfl⟩
   .exact⟨x,hx,rfl⟩
  refine⟨λa b x y d hx hy=>?_,λx hx=>?_⟩
  .obtain⟨g,h1,h2⟩:=c a x hx;obtain⟨y',l,m⟩:=c b y hy;rw[<-h2,<-m];exact h.1 a b g y' d h1 l
  .obtain⟨n,hn,e⟩:=ql.1 hx;obtain⟨g,h1,h2⟩:=c n x Li;rw[<-h2];exact h.2 g (zW h1)
def zig{s:MkS}(h:mC s){x:uG}(hx:s.code[k]? = some x):qo s.code s.code.length x.pos=some k:=by
 have key:∀n,k<n->n<=s.code.length->qo s.code n x.pos=some k:=by
  intro n;induction n with
  |zero=>intro h;omega
  |succ n b =>
   intro h1 h2;simp only[qo];by_cases a:k=n
   .subst a;simp[hx]
   .obtain⟨y,hy⟩:∃y,s.code[n]? = some y:=⟨_,zk J⟩;have:=h.1 k n x y J hx hy;rw[hy];rw[yz yJ];exact b J J
 exact key _ (zF.1 hx).1 (Y _)
def uF(l:List (Nat×Nat))(s:MkS):MkS:=l.foldl (λs p=>s.xH p.1 p.2) s
def ke:∀(l:List (Nat×Nat)) (s:MkS),(uF l s).code.length=s.code.length/\(uF l s).pos=s.pos/\(uF l s).cs=s.cs
 |[],s=>⟨rfl,rfl,rfl⟩
 |p::l,s=>by
  obtain⟨a,b,c⟩:=ke l (s.xH p.1 p.2);exact⟨a.trans (fN _ _ _),b,c⟩
def Yf:∀(l:List (Nat×Nat)) (s:MkS) (n:Nat),(∀p∈l,p.1≠n)->(uF l s).code[n]? = s.code[n]?
 |[],s,n,_=>rfl
 |p::l,s,n,h=>by
  show(uF l (s.xH p.1 p.2)).code[n]? = _;rw[Yf l _ n (λq a=>h q (uk _ a)),qh,yz (h p (qI ..))]
def slot(s:MkS)(p:Nat×Nat):Option Nat:=(s.code[p.1]?).bind λx=>x.tg[p.2]?
def Steps{σ:Type}(F:Nat->σ->aI σ)(k:Nat)(r:σ)(k':Nat)(r':σ):Prop:=∃n,n+k<=k'/\∀fuel,VQ F (fuel+n) k r=VQ F fuel k' r'
section
variable {σ:Type} {F:Nat->σ->aI σ}
def Steps.refl(k:Nat)(r:σ):Steps F k r k r:=⟨0,J,λ_=>rfl⟩
def Steps.trans{k1 k2:Nat}{r r1 r2:σ}(h:Steps F k r k1 r1)(h2:Steps F k1 r1 k2 r2):Steps F k r k2 r2:=by
 obtain⟨n,b,hn⟩:=h;obtain⟨m,a,hm⟩:=h2;exact⟨m+n,J,λfuel=>by rw[<-kh,hn,hm]⟩
def Steps.one{r r':σ}(h:F k r = .go k' r')(a:k<k':=by omega):Steps F k r k' r':=⟨1,J,λfuel=>by rw[VQ,h]⟩
end
section
variable {τ:Type} {F:Nat->ZU τ->aI (ZU τ)}
def Res(F:Nat->ZU τ->aI (ZU τ))(k:Nat)(r:ZU τ)(k':Nat)(stk:List (uL×uL)):Except (Nat×τ) (Wd×τ)->Prop
 |.ok (o,g)=>Steps F k r k' ⟨o,stk,g⟩
 |.error (n,g)=>∃m r',m+k<=k'/\(∀fuel,VQ F (fuel+m) k r=some (.error (n,r')))/\r'.gs=g
def Res.after{k1:Nat}{r r1:ZU τ}{stk:List (uL×uL)}{a:Except (Nat×τ) (Wd×τ)}(h:Steps F k r k1 r1)(h2:Res F k1 r1 k' stk a):Res F k r k' stk a:=by
 cases a with
 |ok p=>exact h.trans h2
 |error e =>
  obtain⟨n,d,hn⟩:=h;obtain⟨m,r',c,hm,b⟩:=h2;exact⟨m+n,r',J,λfuel=>by rw[<-kh,hn,hm],b⟩
def Res.err{r r':ZU τ}{stk:List (uL×uL)}(h:F k r = .err n r')(a:k<k':=by omega):Res F k r k' stk (.error (n,r'.gs)):=⟨1,r',J,λfuel=>by rw[VQ,h],rfl⟩
end
def go_msg:∀(f:Fo),f.yT=true->∀(b:Wd->MkS->MkS) (s:MkS) (ls:List Nat),MkS.ur f b s ls=(MkS.Z7 f s,ls)
 |.nil,_,_,_,_=>rfl
 |.text t r,h,b,s,ls=>go_msg r h b _ ls
 |.hash r,h,b,s,ls=>go_msg r h b _ ls
 |.put n a r,h,b,s,ls=>go_msg r h b _ ls
 |.num n a r,h,b,s,ls=>go_msg r h b _ ls
 |.br n a f o c bs r,h,b,s,ls=>by
  rw[MkS.Z7,MkS.ur,MkS.ur];split
  .dsimp only;rw[go_msg r h b,go_msg r h (λ_ s=>s)]
  .dsimp only;rw[go_msg r h b,go_msg r h (λ_ s=>s)]
 |.xR k a m r,h,b,s,ls=>xc
def bN(l:List Nat)(s:MkS):l.foldl (λs i=>MkS.xH s i 0) s=uF (l.map λi=>(i,0)) s:=by
 unfold uF;rw[yek]
def Cx(ks:List Wd)(t:Nat)(key:Wd):List (Nat×Nat):=((xB 6).filter λc=>decide (YQ.getD c []=key\/key=qg/\YQ.getD c [] ∉ ks)).map λc=>(t,c)
def cK(ks:List Wd)(t:Nat)(key:Wd)(s:MkS):MkS.Rq ks t key s=uF (Cx ks t key) s:=by
 unfold uF Cx MkS.Rq;rw[yek,List.foldl_filter];congr 1;funext s c;simp only[vJ]
def Ie(n:Wd)(bs:Fo)(s:MkS)(k:Wd):List (Nat×Nat):=[((MkS.fy n bs s).1.code.length,MkS.place bs.keys k)]
def K9(n:Wd)(bs:Fo)(s:MkS)(k:Wd)(x:MkS):MkS.bL n bs s k x=uF (Ie n bs s k) x:=rfl
def QC(n o:Wd)(bs:Fo)(s:MkS)(k:Wd):List (Nat×Nat) :=
 match (MkS.VV n o bs s).2.lookup k with
 |some i=>[(i,0)]
 |none=>Cx bs.keys (MkS.VV n o bs s).1.code.length k
def Xc(n o:Wd)(bs:Fo)(s:MkS)(k:Wd)(x:MkS):MkS.kZ n o bs s k x=uF (QC n o bs s k) x:=by
 unfold MkS.kZ QC;cases h:(MkS.VV n o bs s).2.lookup k with
 |some i=>rfl
 |none=>exact cK _ _ _ _
def X1(n:Wd)(bs:Fo)(s:MkS):(MkS.fy n bs s).1.code=s.code/\(MkS.fy n bs s).1.pos=s.pos:=by
 obtain⟨_,_,_,d,e⟩:=MkS.Jb bs (s.const n) [s.num n];obtain⟨_,z2,a⟩:=xM s n;exact⟨d.trans z2,e.trans a⟩
def ZQ:∀(f:Fo) (s:MkS) (acc:List (Wd×Nat)),s.code <+: (MkS.vq f s acc).1.code/\acc <+: (MkS.vq f s acc).2/\∀p∈(MkS.vq f s acc).2,p∈acc\/s.code.length<=p.2/\p.2<(MkS.vq f s acc).1.code.length
 |.xR k a m r,s,acc=>by
  rw[MkS.vq];split
  .obtain⟨h1,h2,b⟩:=ZQ r (s.put 7 (yg k.tail) [] [0]) (acc++[(k,s.code.length)]);have c:(s.put 7 (yg k.tail) [] [0]).code.length=s.code.length+1:=(by simp[yp]);have:=h1.length_le;refine⟨(show s.code <+: (s.put 7 (yg k.tail) [] [0]).code from Dv _ _).trans h1,(Dv _ _).trans h2,λp hp=>?_⟩;rcases b p hp with q|q
   .rw[zS,zJ]at q;rcases q with q|rfl
    .exact .inl q
    .exact .inr ⟨Y _,by show s.code.length<_;omega⟩
   .exact .inr ⟨J,q.2⟩
  .exact ZQ r s acc
 |.nil,s,acc=>⟨xk _,xk _,λp hp => .inl hp⟩
 |.text _ _,s,acc=>⟨xk _,xk _,λp hp => .inl hp⟩
 |.hash _,s,acc=>⟨xk _,xk _,λp hp => .inl hp⟩
 |.put _ _ _,s,acc=>⟨xk _,xk _,λp hp => .inl hp⟩
 |.num _ _ _,s,acc=>⟨xk _,xk _,λp hp => .inl hp⟩
 |.br _ _ _ _ _ _ _,s,acc=>⟨xk _,xk _,λp hp => .inl hp⟩
def Cv{l:List (Wd×Nat)}{k:Wd}(h:l.lookup k=some i):(k,i)∈l:=by
 induction l with
 |nil=>cases h
 |cons p l d =>
  obtain⟨a,b⟩:=p;rw[QN]at h;cases c:k==a
  .rw[c]at h;exact uk _ (d h)
  .rw[c]at h;cases h;rw[beq_iff_eq]at c;subst c;exact qI ..
def rh(n o:Wd)(bs:Fo)(s:MkS):s.code.length+1<=(MkS.VV n o bs s).1.code.length/\(∀(i:Nat) (x:uG),s.code[i]? = some x->(MkS.VV n o bs s).1.code[i]? = some x)/\∀k,∀p∈QC n o bs s k,s.code.length+1<=p.1/\p.1<=(MkS.VV n o bs s).1.code.length:=by
 obtain⟨h1,h2,b⟩:=ZQ bs ((s.const n).put 4 (yg o) [s.num n] []) [];have d:((s.const n).put 4 (yg o) [s.num n] []).code.length=s.code.length+1:=by simp[yp,(xM s n).2.1]
 have a:=h1.length_le;rw[d]at a b;refine⟨a,λi x hx=>?_,λk p hp=>?_⟩
 .obtain⟨t,e⟩:=h1;show(MkS.vq bs ((s.const n).put 4 (yg o) [s.num n] []) []).1.code[i]? = some x;rw[<-e,za (by rw[d];have:=(zF.1 hx).1;omega),yp,(xM s n).2.1,za (zF.1 hx).1];exact hx
 .unfold QC at hp;split at hp
  .next i hi =>
   rw[zJ]at hp;subst hp;rcases b _ (Cv hi)with q|q
   .cases q
   .exact⟨q.1,vv q.2⟩
  .obtain⟨c,_,rfl⟩:=uQ.1 hp;exact⟨a,Y _⟩
def go_facts:∀(f:Fo) (sl:Wd->List (Nat×Nat)) (g:Wd->MkS->MkS),(∀k x,g k x=uF (sl k) x)->∀(s:MkS) (ls:List Nat),
  s.code.length<=(MkS.ur f g s ls).1.code.length/\(∀e∈(MkS.ur f g s ls).2,e∈ls\/s.code.length<=e/\e<(MkS.ur f g s ls).1.code.length)/\(∀e∈ls,e∈(MkS.ur f g s ls).2) /\
  ∀i,i<s.code.length->(∀k,∀p∈sl k,p.1≠i)->(MkS.ur f g s ls).1.code[i]? = s.code[i]?
 |.nil,sl,g,hb,s,ls=>⟨Y _,λe he => .inl he,λe he=>he,λ_ _ _=>rfl⟩
 |.text t r,sl,g,hb,s,ls=>by
  have j:(s.one 1 t).code=s.code++[⟨1,(s.const t).pos,0,[s.num t],[]⟩]:=by rw[MkS.one,yp,(xM s t).2.1]
  exact go_more (x:=⟨1,(s.const t).pos,0,[s.num t],[]⟩) j (go_facts r sl g hb (s.one 1 t) ls)
 |.hash r,sl,g,hb,s,ls=>go_more rfl (go_facts r sl g hb (s.put 6 0 [] []) ls)
 |.put n a r,sl,g,hb,s,ls=>by
  have j:(s.one 2 n).code=s.code++[⟨2,(s.const n).pos,0,[s.num n],[]⟩]:=by rw[MkS.one,yp,(xM s n).2.1]
  exact go_more j (go_facts r sl g hb (s.one 2 n) ls)
 |.num n a r,sl,g,hb,s,ls=>by
  have j:(s.one 3 n).code=s.code++[⟨3,(s.const n).pos,0,[s.num n],[]⟩]:=by rw[MkS.one,yp,(xM s n).2.1]
  exact go_more j (go_facts r sl g hb (s.one 3 n) ls)
 |.br n a f o c bs r,sl,g,hb,s,ls=>by
  rw[MkS.ur];split
  .have hS:(MkS.kT n bs s).code=s.code++[⟨10,(MkS.fy n bs s).1.pos,0,(MkS.fy n bs s).2,zX (MkS.fy n bs s).2.length 0⟩]:=(by rw[MkS.kT,yp,(X1 n bs s).1]);have l:(MkS.kT n bs s).code.length=s.code.length+1:=(by rw[hS];simp);obtain⟨a1,a2,a3,a4⟩:=go_facts bs (Ie n bs s) (MkS.bL n bs s) (K9 n bs s) (MkS.kT n bs s) [];dsimp only;rw[bN];refine go_join (n:=s.code.length) ?_ ?_ (go_facts r sl g hb _ ls)
   .rw[(ke _ _).1];omega
   .intro i hi;rw[Yf _ _ _ (λp hp=>?_),a4 i J (λk p hp=>?_),hS,za hi]
    .rw[Ie,zJ]at hp;subst hp;show(MkS.fy n bs s).1.code.length≠i;rw[(X1 n bs s).1];omega
    .exact zvy
  .obtain⟨b1,b2,b3⟩:=rh n o bs s;have hS:(MkS.kY n o f bs s).code=(MkS.VV n o bs s).1.code++[⟨if f=2 then 9 else 8,(MkS.VV n o bs s).1.pos,0,[],zX 6 0⟩]:=(by rw[MkS.kY,yp]);have l:(MkS.kY n o f bs s).code.length=(MkS.VV n o bs s).1.code.length+1:=(by rw[hS];simp);obtain⟨a1,a2,a3,a4⟩:=go_facts bs (QC n o bs s) (MkS.kZ n o bs s) (Xc n o bs s) (MkS.kY n o f bs s) [];dsimp only;rw[bN];refine go_join (n:=s.code.length) ?_ ?_ (go_facts r sl g hb _ ls)
   .rw[yp,zy,(ke _ _).1];omega
   .intro i hi;obtain⟨x,hx⟩:∃x,s.code[i]? = some x:=⟨_,zk hi⟩;rw[yp,za (by rw[(ke _ _).1];omega),Yf _ _ _ (λp hp=>?_),a4 i J (λk p hp=>?_),hS,za J,b2 i x hx,hx]
    .have:=b3 k p hp;omega
    .exact zvy
 |.xR k a m r,sl,g,hb,s,ls=>by
  rw[MkS.ur];rw[hb];obtain⟨a1,a2,a3,a4⟩:=go_facts m (λ_=>[]) (λ_ s=>s) (λ_ _=>rfl) (uF (sl k) s) [];rw[(ke _ _).1]at a1 a2 a4;obtain⟨c1,c2,c3,c4⟩:=go_facts r sl g hb ((MkS.ur m (λ_ s=>s) (uF (sl k) s) []).1.put 11 0 [] [0]) (ls++[(MkS.ur m (λ_ s=>s) (uF (sl k) s) []).1.code.length]);rw[yp,zy]at c1 c2 c4;simp only[zY,yF]at c1 c2 c4;refine⟨J,λe he=>?_,λe he=>c3 e (List.mem_append_left _ he),λi hi hp=>?_⟩
  .rcases c2 e he with q|q
   .rw[zS,zJ]at q;rcases q with q|rfl
    .exact .inl q
    .exact .inr ⟨J,J⟩
   .exact .inr ⟨J,q.2⟩
  .rw[c4 i J hp,za J,a4 i hi (λ_ _ q=>kK),Yf _ _ _ (λp h=>hp k p h)]
where
 go_join {n:Nat} {s s':MkS} {ls:List Nat} {r:MkS×List Nat} {sl:Wd->List (Nat×Nat)} (h1:s.code.length<=s'.code.length) (h2:∀i,i<s.code.length->s'.code[i]? = s.code[i]?)
   (h:s'.code.length<=r.1.code.length/\(∀e∈r.2,e∈ls\/s'.code.length<=e/\e<r.1.code.length)/\(∀e∈ls,e∈r.2)/\∀i,i<s'.code.length->(∀k,∀p∈sl k,p.1≠i)->r.1.code[i]? = s'.code[i]?) :
   s.code.length<=r.1.code.length/\(∀e∈r.2,e∈ls\/s.code.length<=e/\e<r.1.code.length)/\(∀e∈ls,e∈r.2)/\∀i,i<s.code.length->(∀k,∀p∈sl k,p.1≠i)->r.1.code[i]? = s.code[i]? := by
  obtain⟨a,b,c,d⟩:=h;exact⟨J,λe he=>(b e he).imp id (λq=>⟨J,q.2⟩),c,λi hi hp=>(d i J hp).trans (h2 i hi)⟩
 go_more {s s':MkS} {x:uG} {ls:List Nat} {r:MkS×List Nat} {sl:Wd->List (Nat×Nat)} (hx:s'.code=s.code++[x])
   (h:s'.code.length<=r.1.code.length/\(∀e∈r.2,e∈ls\/s'.code.length<=e/\e<r.1.code.length)/\(∀e∈ls,e∈r.2)/\∀i,i<s'.code.length->(∀k,∀p∈sl k,p.1≠i)->r.1.code[i]? = s'.code[i]?) :
   s.code.length<=r.1.code.length/\(∀e∈r.2,e∈ls\/s.code.length<=e/\e<r.1.code.length)/\(∀e∈ls,e∈r.2)/\∀i,i<s.code.length->(∀k,∀p∈sl k,p.1≠i)->r.1.code[i]? = s.code[i]? :=
  go_join (n:=0) (by rw[hx];simp) (λi hi=>by rw[hx,za hi]) h
def Gp{P:MkS->Prop}(I:qi P)(l:List (Nat×Nat))(s:MkS)(h:P s):P (uF l s):=MkS.qw P _ (λs p hs=>I.xH s p.1 p.2 hs) l s h
def go_inv{P:MkS->Prop}(I:qi P)(f:Fo){sl:Wd->List (Nat×Nat)}{a:Wd->MkS->MkS}(hb:∀k x,a k x=uF (sl k) x)(s:MkS)(ls:List Nat)(h:P s):P (MkS.ur f a s ls).1 :=
 I.go f a s ls (λk s hs=>by rw[hb];exact Gp I _ _ hs) h
def mH{P:MkS->Prop}(I:qi P)(f:Fo)(s:MkS)(h:P s):P (MkS.Z7 f s):=I.go f _ s [] (λ_ _ h=>h) h
def DG(s:MkS):∀(i:Nat) (x:uG),s.code[i]? = some x->∃y,s.code[i]? = some y/\shx y=shx x:=λi x h=>⟨x,h,rfl⟩
def s6(f:Fo)(s:MkS):s.code.length<=(MkS.Z7 f s).code.length/\∀i,i<s.code.length->(MkS.Z7 f s).code[i]? = s.code[i]? := by
 obtain⟨a,_,_,d⟩:=go_facts f (λ_=>[]) (λ_ s=>s) (λ_ _=>rfl) s [];exact⟨a,λi hi=>d i hi (λ_ _ q=>kK)⟩
def yq7(n:Wd)(a:Nat)(o:Wd)(c:Nat)(bs r:Fo)(s:MkS)(hr:r.yT=true) :
  MkS.Z7 (.br n a 0 o c bs r) s=MkS.Z7 r (uF ((MkS.ur bs (MkS.bL n bs s) (MkS.kT n bs s) []).2.map λi=>(i,0)) (MkS.ur bs (MkS.bL n bs s) (MkS.kT n bs s) []).1):=by
 rw[MkS.Z7,MkS.ur,yV rfl,go_msg r hr,<-bN]
def yq8(n:Wd)(a f:Nat)(o:Wd)(c:Nat)(bs r:Fo)(s:MkS)(hf:f≠0)(hr:r.yT=true) :
  MkS.Z7 (.br n a f o c bs r) s=MkS.Z7 r ((uF ((MkS.ur bs (MkS.kZ n o bs s) (MkS.kY n o f bs s) []).2.map λi=>(i,0)) (MkS.ur bs (MkS.kZ n o bs s) (MkS.kY n o f bs s) []).1).put 5 0 [] []):=by
 rw[MkS.Z7,MkS.ur,yz hf,go_msg r hr,<-bN]
def s7(n:Wd)(bs:Fo)(s:MkS):(MkS.kT n bs s).code=s.code++[⟨10,s.pos,0,(MkS.fy n bs s).2,zX (MkS.fy n bs s).2.length 0⟩]:=by
 rw[MkS.kT,yp,(X1 n bs s).1,(X1 n bs s).2]
def Cu:∀(f:Fo) (s:MkS) (acc:List (Wd×Nat)),∀p∈(MkS.vq f s acc).2,p∈acc\/p.1.head? = some 61
 |.xR k a m r,s,acc,p,hp=>by
  rw[MkS.vq]at hp;split at hp
  .next b =>
   rcases Cu r _ _ p hp with q|q
   .rw[zS,zJ]at q;rcases q with q|rfl
    .exact .inl q
    .exact .inr b
   .exact .inr q
  .exact Cu r s acc p hp
 |.nil,_,_,_,hp => .inl hp
 |.text _ _,_,_,_,hp => .inl hp
 |.hash _,_,_,_,hp => .inl hp
 |.put _ _ _,_,_,_,hp => .inl hp
 |.num _ _ _,_,_,_,hp => .inl hp
 |.br _ _ _ _ _ _ _,_,_,_,hp => .inl hp
def NK:∀(f:Fo) (s:MkS) (acc:List (Wd×Nat)),(∀p∈acc,p.2<s.code.length)->(∀p∈acc,∀q∈acc,p.2=q.2->p=q)->∀p∈(MkS.vq f s acc).2,∀q∈(MkS.vq f s acc).2,p.2=q.2->p=q
 |.xR k a m r,s,acc,h1,h2=>by
  rw[MkS.vq];split
  .refine NK r _ _ (λp hp=>?_) (λp hp q b e=>?_)
   .rw[yp,zy];rw[zS,zJ]at hp;rcases hp with hp|rfl
    .have:=h1 p hp;simp;omega
    .simp
   .rw[zS,zJ]at hp b;rcases hp with hp|rfl
    .rcases b with b|rfl
     .exact h2 p hp q b e
     .have:=h1 p hp;simp only at e;omega
    .rcases b with b|rfl
     .have:=h1 q b;simp only at e;omega
     .rfl
  .exact NK r s acc h1 h2
 |.nil,_,_,_,h2=>h2
 |.text _ _,_,_,_,h2=>h2
 |.hash _,_,_,_,h2=>h2
 |.put _ _ _,_,_,_,h2=>h2
 |.num _ _ _,_,_,_,h2=>h2
 |.br _ _ _ _ _ _ _,_,_,_,h2=>h2
section
variable {τ:Type} {E:jd τ} {s:MkS}
def Q9{x y:uG}(h:shx y=shx x):y.op=x.op/\y.pos=x.pos/\y.v=x.v/\y.k=x.k/\y.tg.length=x.tg.length:=by
 simpa[shx]using h
end
section
variable {τ:Type} {E:jd τ}
def mL{s0 s:MkS}(t:Wd)(h:(s0.const t).cs <+: s.cs):s.cs[s0.num t]? = some t:=by
 obtain⟨u,b⟩:=h;have h1:(s0.const t).cs[s0.num t]? = some t:=by
  unfold MkS.const MkS.num;by_cases a:t∈s0.cs
  .rw[yV a];rw[zk (qL a),Jp]
  .rw[yz a];simp only;rw[zpb a,xq (Y _)];simp
 rw[<-b,za (zF.1 h1).1];exact h1
def s8{k k':Wd}(h:k∈ks)(b:k'∈ks)(he:MkS.place ks k=MkS.place ks k'):k=k':=by
 unfold MkS.place at he;have a:∀{x},x∈ks->¬x=qg->x∈ks.filter (· ≠ qg):=λhx hn=>ux.2 ⟨hx,by simpa using hn⟩
 split at he
 .next h1 =>
  split at he
  .next h2=>rw[h1,h2]
  .next h2=>have:=qL (a b h2);omega
 .next h1 =>
  split at he
  .next h2=>have:=qL (a h h1);omega
  .next h2 =>
   have c:=Jp (qL (a h h1));have d:=Jp (qL (a b h2));rw[<-c,<-d];congr 1
def zif(k:Wd):MkS.place ks k<=(ks.filter (· ≠ qg)).length:=by
 unfold MkS.place;split
 .exact Yc
 .exact xrj
end
variable{f:Fo}
def Fo.sh:Fo->Prop
 |.nil=>True
 |.text t r=>t.length<=5000/\r.sh
 |.hash r=>r.sh
 |.put _ _ r=>r.sh
 |.num _ _ r=>r.sh
 |.br _ _ _ _ _ bs r=>bs.sh/\r.sh
 |.xR _ _ m r=>m.sh/\r.sh
def sy(op a b:Nat):Bool :=
 match op with
 | 0=>a==0 && b==0|1=>a==1 && b==0|2=>a==1 && b==0|3=>a==1 && b==0|4=>a==1 && b==0|5=>a==0 && b==0|6=>a==0 && b==0|7=>a==0 && b==1
 | 8=>a==0 && b==6|9=>a==0 && b==6|10=>decide (0<a) && b==a|11=>a==0 && b==1|_=>false
def OkX(N c p:Nat)(x:uG):Prop:=(∀j∈x.k,j<c)/\x.k.length<=N/\x.v<=1000000000/\(∀y∈x.tg,y<=p)/\sy x.op x.k.length x.tg.length=true
def bY(N:Nat)(s:MkS):Prop:=(∀x∈s.code,OkX N s.cs.length s.pos x)/\∀t∈s.cs,t.length<=5000
def OkX.more{N c' a:Nat}{x:uG}(h:OkX N c p x)(hc:c<=c')(hp:p<=a):OkX N c' a x :=
 ⟨λj b=>zD (h.1 j b) hc,h.2.1,h.2.2.1,λy hy=>zj (h.2.2.2.1 y hy) hp,h.2.2.2.2⟩
section
variable {N:Nat} {s:MkS}
def bY.put(h:bY N s)(op v:Nat)(k tg:List Nat)(h1:∀j∈k,j<s.cs.length)(h2:k.length<=N)(a:v<=1000000000)(b:∀y∈tg,y=0)(c:sy op k.length tg.length=true):bY N (s.put op v k tg):=by
 refine⟨λx hx=>?_,h.2⟩;rw[yp,zS,zJ]at hx;rcases hx with hx|rfl
 .exact(h.1 x hx).more (Y _) (bA _ _)
 .exact⟨h1,h2,a,λy hy=>by rw[b y hy];exact zQ _,c⟩
def bY.const(h:bY N s)(t:Wd)(b:t.length<=5000):bY N (s.const t):=by
 unfold MkS.const;split
 .exact h
 .refine⟨λx hx=>(h.1 x hx).more zZ (Y _),λu a=>?_⟩;simp only[zS,zJ]at a;rcases a with a|rfl
  .exact h.2 u a
  .exact b
def bY.xH(h:bY N s)(i j:Nat):bY N (s.xH i j):=by
 refine⟨λx hx=>?_,h.2⟩;obtain⟨n,hn,e⟩:=ql.1 hx;have a:(s.xH i j).code[n]? = some x:=Li;rw[qh]at a;split at a
 .cases hc:s.code[n]? with
  |none=>rw[hc]at a;cases a
  |some y =>
   rw[hc]at a;cases a;have hy:=h.1 y (zW hc);refine⟨hy.1,hy.2.1,hy.2.2.1,λz b=>?_,by rw[List.length_set];exact hy.2.2.2.2⟩;rcases List.mem_or_eq_of_mem_set b with b|rfl
   .exact hy.2.2.2.1 z b
   .exact Yc
 .exact h.1 x (zW a)
def AL(s:MkS)(t:Wd):s.num t<(s.const t).cs.length:=(zF.1 (mL (s0:=s) t (xk _))).1
def xm0(s:MkS)(t:Wd):s.cs.length<=(s.const t).cs.length:=by unfold MkS.const;split<;>simp
def bY.one(h:bY N s)(op:Nat)(t:Wd)(d:t.length<=5000)(a:sy op 1 0=true)(b:1<=N):bY N (s.one op t) :=
 (h.const t d).put op 0 [s.num t] [] (λj c=>by rw[zJ.1 c];exact AL s t) b (zQ _) (λy hy=>by cases hy) a
def bY.vN:∀(f:Fo) (s:MkS) (acc:List Nat),(∀k∈f.keys,k.length<=5000)->bY N s->(∀j∈acc,j<s.cs.length)->acc≠[]->bY N (MkS.vN f s acc).1/\(∀j∈(MkS.vN f s acc).2,j<(MkS.vN f s acc).1.cs.length)/\(MkS.vN f s acc).2≠[]
 |.xR k _ _ r,s,acc,c,h,ha,hn=>by
  rw[MkS.vN];have a:∀k∈r.keys,k.length<=5000:=λx hx=>c x (uk _ hx)
  split
  .exact bY.vN r s acc a h ha hn
  .refine bY.vN r _ _ a (h.const _ (c k (qI ..))) (λj b=>?_) zZ;rw[zS,zJ]at b;rcases b with b|rfl
   .exact zD (ha j b) (xm0 s k)
   .exact AL s k
 |.nil,_,_,_,h,ha,hn=>⟨h,ha,hn⟩
 |.text _ _,_,_,_,h,ha,hn=>⟨h,ha,hn⟩
 |.hash _,_,_,_,h,ha,hn=>⟨h,ha,hn⟩
 |.put _ _ _,_,_,_,h,ha,hn=>⟨h,ha,hn⟩
 |.num _ _ _,_,_,_,h,ha,hn=>⟨h,ha,hn⟩
 |.br _ _ _ _ _ _ _,_,_,_,h,ha,hn=>⟨h,ha,hn⟩
def bY.vq:∀(f:Fo) (s:MkS) (acc:List (Wd×Nat)),(∀k∈f.keys,k.head? = some 61->yg k.tail<=1000000000)->bY N s->bY N (MkS.vq f s acc).1
 |.xR k _ _ r,s,acc,c,h=>by
  rw[MkS.vq];have a:∀k∈r.keys,k.head? = some 61->yg k.tail<=1000000000:=λx hx=>c x (uk _ hx)
  split
  .rename_i b;exact bY.vq r _ _ a (h.put _ _ _ _ (λj d=>by cases d) (zQ _) (c k (qI ..) b) (λy hy=>zJ.1 hy) rfl)
  .exact bY.vq r s acc a h
 |.nil,_,_,_,h=>h
 |.text _ _,_,_,_,h=>h
 |.hash _,_,_,_,h=>h
 |.put _ _ _,_,_,_,h=>h
 |.num _ _ _,_,_,_,h=>h
 |.br _ _ _ _ _ _ _,_,_,_,h=>h
def bY.plu(n o:Wd)(bs:Fo)(s0:MkS)(k:Wd)(h:bY N s):bY N (MkS.kZ n o bs s0 k s):=by
 unfold MkS.kZ;split
 .exact h.xH _ _
 .exact MkS.qw (bY N) _ (λs c h=>by split;exact h.xH _ _;exact h) _ _ h
def bY.uF(h:bY N s)(l:List Nat):bY N (l.foldl (λs i=>MkS.xH s i 0) s):=MkS.qw (bY N) _ (λ_ _ h=>h.xH _ _) _ _ h
def bY.go(b:20<=N):∀(f:Fo) (a:Wd->MkS->MkS) (s:MkS) (ls:List Nat),(∀k s,bY N s->bY N (a k s))->f.YK->f.sh->f.cw<=N->bY N s->bY N (MkS.ur f a s ls).1
 |.nil,_,_,_,_,_,_,_,h=>h
 |.text t r,a,s,ls,hb,hc,hs,hw,h=>bY.go b r a _ ls hb hc.2 hs.2 MY (h.one _ _ hs.1 rfl J)
 |.hash r,a,s,ls,hb,hc,hs,hw,h=>bY.go b r a _ ls hb hc hs MY (h.put _ _ _ _ (λj hj=>by cases hj) (zQ _) (zQ _) (λy hy=>by cases hy) rfl)
 |.put n _ r,a,s,ls,hb,hc,hs,hw,h=>bY.go b r a _ ls hb hc.2 hs MY (h.one _ _ (by have:=hc.1;omega) rfl J)
 |.num n _ r,a,s,ls,hb,hc,hs,hw,h=>bY.go b r a _ ls hb hc.2 hs MY (h.one _ _ (by have:=hc.1;omega) rfl J)
 |.br n _ f o _ bs r,a,s,ls,hb,hc,hs,hw,h=>by
  obtain⟨c1,c2,c3,c4,c5,c6,c7,e⟩:=hc;have hw':=hw;simp only[Fo.cw]at hw;have hn:n.length<=5000:=J;have l:=Fo.XP bs;rw[MkS.ur];split
  .obtain⟨a1,a2,a3⟩:=bY.vN bs (s.const n) [s.num n] (λk d=>by have:=(c6 k d).1;omega) (h.const n hn) (λj hj=>zdx) zZ;have p:=(MkS.Jb bs (s.const n) [s.num n]).2.2.1;refine bY.go b r a _ ls hb e hs.2 J (bY.uF (bY.go b bs _ _ _ (λk x hx=>hx.xH _ _) c7 hs.1 J ?_) _);exact a1.put _ _ _ _ a2 (by rw[gU]at p;simp only[MkS.fy];omega) (zQ _) (λy hy=>(zzj.1 hy).2) (by rw[kl];simp only[MkS.fy,sy,beq_self_eq_true,zzx,vJ];exact decide_eq_true (yv.2 a3))
  .rename_i hf;refine bY.go b r a _ ls hb e hs.2 J (bY.put (bY.uF (bY.go b bs _ _ _ (λk x hx=>hx.plu n o bs s k) c7 hs.1 J ?_) _) _ _ _ _ (λj hj=>by cases hj) (zQ _) (zQ _) (λy hy=>by cases hy) rfl);refine bY.put (bY.vq bs _ _ (λk d c=>?_) ((h.const n hn).put _ _ _ _ (λj hj=>zdx) yJ J (λy hy=>by cases hy) rfl)) _ _ _ _ (λj hj=>by cases hj) (zQ _) (zQ _) (λy hy=>(zzj.1 hy).2) (by split<;>rfl);obtain⟨-,g,i⟩:=(c6 k d).2 hf c;have h1:=JV _ i;have h2:10 ^ k.tail.length<=10 ^ 9:=Nat.pow_le_pow_right J g;omega
 |.xR k _ m r,a,s,ls,hb,hc,hs,hw,h=>by
  simp only[Fo.cw]at hw;exact bY.go b r a _ _ hb hc.2.2 hs.2 J (bY.put (bY.go b m _ _ _ (λ_ _ h=>h) hc.2.1 hs.1 J (hb k s h)) _ _ _ _ (λj hj=>by cases hj) (zQ _) (zQ _) (λy hy=>zJ.1 hy) rfl)
end
def Gr(hc:f.YK)(hs:f.sh):bY (f.cw+20) (MkS.all f) :=
 bY.put (bY.go (N:=f.cw+20) J f _ _ [] (λ_ _ h=>h) hc hs J ⟨λx hx=>(by cases hx),λt b=>(by cases b)⟩) _ _ _ _ (λj a=>by cases a) (zQ _) (zQ _) (λy hy=>by cases hy) rfl
def NJ(f:Fo):(MkS.all f).sz<=f.cw+3:=by
 have h:=(aV f MkS.start).2;have h1:(xF ⟨0,(MkS.Z7 f MkS.start).pos,0,[],[]⟩).length=1:=xV;rw[show MkS.start.sz=0 from rfl]at h;rw[MkS.all,gh,h1];omega
def mM{x:uG}{N:Nat}(h:OkX N c p x):(x.op=7->0<x.tg.length)/\(x.op=10->x.k≠[]/\x.tg.length=x.k.length)/\x.op<12/\okB (uW x.op) x.k.length x.tg.length=true:=by
 obtain⟨-,-,-,-,h⟩:=h;obtain⟨op,pos,v,k,tg⟩:=x;dsimp only at h|-;unfold sy at h;split at h<;>simp only[zx,beq_iff_eq,vJ,reduceCtorEq]at h
 all_goals refine⟨J,λq=>?_,J,?_⟩
 all_goals first|omega|skip
 all_goals first|(rw[h.1,h.2];rfl)|skip
 .exact⟨λe=>by rw[e]at h;exact kD _ h.1,h.2⟩
 .rw[h.2];simp only[uW,okB];simp;omega
def Rh(hc:f.YK)(hs:f.sh)(hw:f.cw<=90000):zik (MkS.all f)/\(MkS.all f).code.length<=100000/\(MkS.all f).cs.length<=1000000/\(∀t∈(MkS.all f).cs,t.length<=5000)/\∀x∈(MkS.all f).code,x.v<=1000000000/\∀y∈x.tg,y<=4000000000:=by
 obtain⟨h1,h2⟩:=Gr hc hs;have e:=NJ f;simp only[MkS.sz]at e;refine⟨λx hx=>⟨(mM (h1 x hx)).1,λb=>?_⟩,J,J,h2,λx hx=>⟨(h1 x hx).2.2.1,λy hy=>by have:=(h1 x hx).2.2.2.1 y hy;omega⟩⟩;obtain⟨a1,a2,-⟩:=h1 x hx;obtain⟨b1,b2⟩:=(mM (h1 x hx)).2.1 b;refine⟨J,zi.2 λj d=>decide_eq_true (a1 j (xi d)),?_⟩;cases c:x.k with
 |nil=>exact absurd c b1
 |cons a l=>rw[c]at b2;simp only[List.tail_cons,zY]at b2|-;omega
def yq9(hc:f.YK)(hs:f.sh)(hw:f.cw<=90000):∀x∈(MkS.all f).code,IU x:=λx hx=>by
 have c:=NJ f;simp only[MkS.sz]at c;have h:=(Gr hc hs).1 x hx;obtain⟨-,-,b3,a⟩:=mM h;exact⟨b3,by have:=h.2.2.1;omega,λj b=>by have:=h.1 j b;omega,λy hy=>by have:=h.2.2.2.1 y hy;omega,by have:=h.2.1;omega,a⟩
variable{r:Nat}{F:Nat->Prop}
abbrev Cq(x:Wd×Bool):Value := .agg #[zM x.1,.bool x.2]
def VJ(x:Wd×Bool):DataW Unit := .agg [.lit (.string x.1),.lit (.bool x.2)]
def zid:Value->Option (DataW Unit×List MemPlace)
 |.agg a=>match a.toList with
  |[.string s,.bool x]=>if s.size<=5000000 then some (VJ (s.data.toList,x),[])else none
  |_=>none
 |_=>none
def NG(x:Wd×Bool)(h:x.1.length<=5000000):zid (Cq x)=some (VJ x,[]):=by
 show(if (vO x.1.toArray).size<=5000000 then some (VJ ((vO x.1.toArray).data.toList,x.2),[])else none)=_;rw[size_mk,toList_mk,yV h]
def Ck{y:DataW Unit×List MemPlace}(h:zid v=some y):∃x:Wd×Bool,v=Cq x/\y=(VJ x,[])/\x.1.length<=5000000:=by
 unfold zid at h;split at h
 .next a =>
  split at h
  .next s x ha =>
   split at h
   .next hs =>
    cases h;refine⟨(s.data.toList,x),?_,rfl,hs⟩;have b:a=#[.string s,.bool x]:=xu0.1 ha;rw[b]
   .cases h
  .cases h
 .cases h
def Cj{x y:Wd×Bool}(h:VJ x=VJ y):x=y:=by
 obtain⟨a,b⟩:=x;obtain⟨c,d⟩:=y;simp only[VJ,DataW.agg.injEq,List.cons.injEq,EI,vz5,Lit.bool.injEq,and_true]at h;rw[h.1,h.2]
def fk(w:z8)(b n z:Nat)(f:Wd->Option (Wd×Bool)):Prop :=
 ∃D:DataW Unit,w.ownsMap Tryz.prog 9 zid b n D/\Maps.size D=z/\∀m:Wd,Maps.has D (.string m)=(f m).isSome/\D.atKey (.string m) (VJ ([],false))=VJ ((f m).getD ([],false))
section
variable {w:z8} {b n z:Nat} {f:Wd->Option (Wd×Bool)}
def fk.lt(h:fk w b n z f):b<(w:Nat):=iG
def fk.keep(h:fk w b n z f)(hb:w'.heap[b]? = w.heap[b]?):fk w' b n z f:=zyb
def fk.fr(h:fk w b n z f)(hf:Fr F F' w w')(hb:¬F b):fk w' b n z f:=h.keep (hf.keep b h.lt hb)
def fk.made(w:z8):fk (w.alloc (.map #[] 0)) (w:Nat) 0 0 (λ_=>none):=⟨.map [],Hl w _ _ _,rfl,λm=>⟨rfl,rfl⟩⟩
def fk.len(h:fk w b n z f)(ty:xm):(yfy #[61] ty #[.map (some b)]).run Tryz.prog w = .ok (z:Nat) w:=by
 obtain⟨D,h1,rfl,_⟩:=h;exact h1.len underlying61 ty
def fk.look(h:fk w b n z f)(m:Wd)(hm:m.length<=5000000) :
  (TZ 61 (.map (some b)) (zM m) true).run Tryz.prog w = .ok (.tuple #[Cq ((f m).getD ([],false)),.bool (f m).isSome]) w:=by
 obtain⟨D,h1,-,e⟩:=h;obtain⟨v,ps,a,hv⟩:=h1.look_ok (xE underlying9) underlying61 (z:=Cq ([],false)) Qa (zd:=VJ ([],false)) (zp:=[]) (NG _ zZ)
  (key:=zM m) (xu (s:=⟨m.toArray⟩) underlying9 VP)
 rw[toList_mk]at a hv;rw[(e m).1]at a;obtain⟨x,c,d,-⟩:=Ck hv;have he:D.atKey (.string m) (VJ ([],false))=VJ x:=congrArg Prod.fst d;rw[(e m).2]at he;rw[a,c,Cj he]
def fk.put(h:fk w b n z f)(m:Wd)(hm:m.length<=5000000)(x:Wd×Bool)(hx:x.1.length<=5000000)(hn:n<=1000000000) :
  ∃w',(TY 61 (.map (some b)) (zM m) (Cq x)).run Tryz.prog w = .ok () w'/\fk w' b (n+1) (if (f m).isSome then z else z+1) (λk=>if m=k then some x else f k)/\w.grownBy w' (some b):=by
 obtain⟨D,h1,h2,h3⟩:=h;have hi:=h1.isMap;have d:=h1.tidy (xE underlying9);obtain⟨w',c,a,e⟩:=h1.update (xE underlying9) underlying61 dO (key:=zM m) (xu (s:=⟨m.toArray⟩) underlying9 VP) (NG x hx);rw[toList_mk]at a;refine⟨w',c,⟨_,a,?_,λk=>?_⟩,e⟩
 .rw[Maps.size_put d,(h3 m).1,h2]
 .by_cases hx:m=k
  .exact yb3
  .simp only[hx,↓reduceIte];have gM:(Lit.string k) ≠ .string m:=λq=>hx (by cases q;rfl)
   exact⟨zqg,by rw[dT gM];exact(h3 k).2⟩
def Cg(w:z8)(b r n:Nat)(f:Wd->Option (Wd×Bool))(left:Wd->Bool)(cnt:Nat):Prop :=
 ∃(D:DataW Unit) (l:Lit->Bool),w.ranges Tryz.prog 9 zid b r n D l cnt/\(∀m,l (.string m)=left m)/\(∀k,l k=true->∃m,k = .string m)/\∀m:Wd,(left m=true->(f m).isSome)/\D.atKey (.string m) (VJ ([],false))=VJ ((f m).getD ([],false))
def Cg.left_eq{cnt:Nat}{left:Wd->Bool}(h:Cg w b r n f left cnt):w.rangeLeft b r=cnt:=by
 obtain⟨D,l,h1,-⟩:=h;exact h1.left_eq
def Cg.fr{cnt:Nat}{left:Wd->Bool}(h:Cg w b r n f left cnt)(hf:Fr F F' w w')(hb:¬F b)(hr:¬F r):Cg w' b r n f left cnt:=by
 obtain⟨D,l,h1,h2⟩:=h;have e:=h1.owns.lt;have g:=h1.lt;obtain⟨es,a,since,seen,c0,a1,a2,a3,a4,c,d⟩:=h1;exact⟨D,l,⟨es,a,since,seen,c0,(hf.keep b e hb).trans a1,a2,a3,a4,(hf.keep r g hr).trans c,d⟩,h2⟩
def Cg.next{cnt:Nat}{left:Wd->Bool}(h:Cg w b r n f left cnt)(ty:xm) :
  (cnt=0/\(∀m,left m=false)/\(zr0 (r,0) false ty).run Tryz.prog w = .ok (.tuple #[.bool false]) w) \/
  ∃m x w' a,left m=true/\f m=some x/\(zr0 (r,0) false ty).run Tryz.prog w = .ok (.tuple #[.bool true,zM m,Cq x]) w' /\
   Cg w' b r n f (λk=>left k && !decide (k=m)) a/\a<cnt/\w.grownBy w' (some r)/\(w':Nat)=(w:Nat)/\(Instr.entry (r,0)).run Tryz.prog w' = .ok (.tuple #[zM m,Cq x]) w':=by
 obtain⟨D,l,h1,h2,s,j⟩:=h;rcases h1.next (xE underlying9) ty with⟨a1,a2,a3⟩|⟨key,v,E,y,w',a,a1,a2,a3,a4,u,z,A,B,C,i⟩
 .exact .inl ⟨a1,λm=>by rw[<-h2];exact a2 _,a3⟩
 .obtain⟨m,rfl⟩:=s E a2;have t:left m=true:=by rw[<-h2];exact a2
  obtain⟨hs,o⟩:=j m;obtain⟨x,rfl,rfl,hx⟩:=Ck a3;have e:=a4 (VJ ([],false));rw[o]at e;have e':=Cj e;have p:f m=some x:=by
   have:=hs t;cases hf:f m with
   |none=>rw[hf]at this;cases this
   |some q=>rw[hf]at e';simp at e';rw[e']
  have g:key=zM m:=by
   cases key<;>simp[keyOf,underlying9,mapKey]at a1;obtain⟨-,e⟩:=a1;rw[<-e]
  subst g;refine .inr ⟨m,x,w',a,t,p,u,⟨D,_,z,λk=>?_,λk d=>s k (by simp only[zx]at d;exact d.1),λk=>⟨λd=>(j k).1 (by simp only[zx]at d;exact d.1),(j k).2⟩⟩,A,B,C,i⟩;simp only[h2];congr 1;by_cases c:k=m
  .subst c;simp[Lit.sameKey]
  .have:(Lit.string k).sameKey (.string m)=false:=Maps.sameKey_ne (λq=>c (by cases q;rfl));simp[this,c]
def fk.range(h:fk w b n z f):∃w',(Instr.range 61 (.map (some b))).run Tryz.prog w = .ok (w,0) w'/\Cg w' b (w:Nat) n f (λm=>(f m).isSome) z/\w.grownBy w' none/\w'.heap.size=(w:Nat)+1:=by
 obtain⟨D,h1,h2,e⟩:=h;obtain⟨w',c,r1,r2,l⟩:=h1.range (xE underlying9) underlying61;rw[h2]at r1;refine⟨w',c,⟨D,_,r1,λm=>(e m).1,λk j=>?_,λm=>⟨id,(e m).2⟩⟩,r2,l⟩;obtain⟨es,d,since,seen,c0,a1,a2,a3,a4,o,p,q,r,i,g⟩:=r1;obtain⟨x,hx,rfl⟩:=i k j;obtain⟨y,hy⟩:=a2.reads x hx;have a:=vq6 hy;rw[vq7 hy];generalize x.key=key at a;cases key<;>simp[keyOf,underlying9,mapKey]at a;exact⟨_,a.2.symm⟩
end
abbrev zib(c:Nat):Value := .func (.func 63) #[] #[(c,0)]
def yqz(b c n z:Nat)(f:Wd->Option (Wd×Bool))(_:Unit)(w:z8):Prop:=fk w b n z f/\zu w c 0 (.map (some b))/\∀m x,f m=some x->x.1.length<=1000000
def xz7(f:Wd->Option (Wd×Bool))(n:Wd)(u:Unit):yru×Unit:=(match f n with|none => .no|some (t,num) => .val t num,u)
def sx(E:jd Unit)(f:Wd->Option (Wd×Bool)):jd Unit:=⟨E.wr,E.sort,xz7 f⟩
def Rw{b z:Nat}{f:Wd->Option (Wd×Bool)}(h:fk w b n z f)(hc:zu w c 0 (.map (some b)))(m:Wd)(hm:m.length<=5000000) :
  zC Tryz.prog 63 #[zM m,(c,0)] w λe w'=>e = .returned (.tuple #[Cq ((f m).getD ([],false)),.bool (f m).isSome])/\Fr yH yH w w':=by
 have d:=λo=>(h.fr ((Fr.refl yH w).alloc o) id).look m hm
 have a:=λo=>yy hc o
 clear h hc;go_enter func63,ntmps63;go_wp2;refine yK (v := .tuple #[Cq ((f m).getD ([],false)),.bool (f m).isSome]) ?_ rfl ?_
 .simp[yN,results63,go_sem]
 .exact⟨rfl,((Fr.refl yH w).alloc _).alloc _⟩
def S0(E:jd Unit)(b c n z:Nat)(f:Wd->Option (Wd×Bool)):Nd (zib c) (sx E f) (λ_=>yH) (λ_ k=>k=b\/k=c) (yqz b c n z f):=by
 refine⟨⟨63,#[(c,0)],rfl,λargs w=>xV,λW s m hi hm=>?_⟩,λ_ _ q=>q.elim,λs W k hi a=>?_,λs W W' hi hs a=>?_⟩
 .refine(Rw hi.1 hi.2.1 m hm).mono ?_;rintro e w' ⟨rfl,hf⟩;refine⟨?_,⟨hi.1.fr hf id,hf.cell hi.2.1 id,hi.2.2⟩,hf,λk a => .inl a⟩;show yrd (xz7 f m s).1 _;unfold xz7;cases d:f m with
  |none=>exact⟨_,_,rfl⟩
  |some x=>exact⟨hi.2.2 m x d,rfl⟩
 .rcases a with rfl|rfl
  .exact hi.1.lt
  .exact X _ _ hi.2.1
 .exact⟨hi.1.keep (a b (.inl rfl)),(yE (a c (.inr rfl))).trans hi.2.1,hi.2.2⟩
variable{msg:Option jH}{x:Wd}
def Hu:Nat->Wd->Bool
 |_,[]=>true
 |i,c::t=>(qU (c.toNat:Int) ||(!decide (i=0) && vF (c.toNat:Int))) && Hu (i+1) t
def kV(s:Wd):Bool:=Hu 0 s && (decide (0<s.length) && decide (s.length<=16))
def NmW(n:Wd):Prop:=n.length<=16/\kV n=true
def zl0(num:Bool)(k:Wd):Prop:=k.length<=17/\(num=true->k.head? = some 61->EqW k)
def Fo.fit:Fo->Prop
 |.nil=>True
 |.text _ r=>r.fit
 |.hash r=>r.fit
 |.put n _ r=>NmW n/\r.fit
 |.num n _ r=>NmW n/\r.fit
 |.br n _ f o _ bs r=>NmW n/\f<3/\yg o<=999999999/\(∀k∈bs.keys,zl0 (decide (f≠0)) k)/\bs.fit/\r.fit
 |.xR _ _ m r=>m.fit/\r.fit
def Fo.uB:Fo->Nat
 |.nil=>0
 |.text t r=>t.length+5+r.uB
 |.hash r=>5+r.uB
 |.put _ _ r=>24+r.uB
 |.num _ _ r=>24+r.uB
 |.br _ _ _ _ _ bs r=>40+bs.uB+r.uB
 |.xR _ _ m r=>28+m.uB+r.uB
def Fo.once:Fo->Prop
 |.nil=>True
 |.text _ r=>r.once
 |.hash r=>r.once
 |.put _ _ r=>r.once
 |.num _ _ r=>r.once
 |.br _ _ _ _ _ bs r=>bs.keys.Nodup/\bs.once/\r.once
 |.xR _ _ m r=>m.once/\r.once
def Fo.Ui:∀f:Fo,f.cw<=f.uB
 |.nil=>Y _
 |.text t r=>iC
 |.hash r=>iC
 |.put n a r=>iC
 |.num n a r=>iC
 |.br n a f o c b r=>by have:=Fo.Ui b;have:=Fo.Ui r;simp only[Fo.cw,Fo.uB];omega
 |.xR k a m r=>by have:=Fo.Ui m;have:=Fo.Ui r;simp only[Fo.cw,Fo.uB];omega
def Fo.Yv:∀f:Fo,f.fit->f.wf 2000000=true->f.uB<=5000000->f.once->f.YK
 |.nil,_,_,_,_=>trivial
 |.text t r,h,w,m,o=>by simp only[Fo.uB]at m;exact⟨J,Fo.Yv r h w J o⟩
 |.hash r,h,w,m,o=>by simp only[Fo.uB]at m;exact Fo.Yv r h w J o
 |.put n a r,h,w,m,o=>zjz
 |.num n a r,h,w,m,o=>zjz
 |.br n a f of c b r,h,w,m,o=>by
  simp only[Fo.uB]at m;simp only[Fo.wf,zx]at w;obtain⟨h1,h2,i,d,j,l⟩:=h;refine⟨h1.1,h2,i,w.1.1.1.2,o.1,λk e=>⟨(d k e).1,λhf=>(d k e).2 MN⟩,Fo.Yv b j w.1.2 J o.2.1,Fo.Yv r l w.2 J o.2.2⟩
 |.xR k a g r,h,w,m,o=>by
  simp only[Fo.uB]at m;simp only[Fo.wf,zx]at w;exact⟨w.1.1.1.2,Fo.Yv g h.1 w.1.2 J o.1,Fo.Yv r h.2 w.2 J o.2⟩
def Fo.fT:∀f g:Fo,f.fit->g.fit->(f.app g).fit
 |.nil,g,_,h=>h
 |.text t r,g,h,h2=>Fo.fT r g h h2
 |.hash r,g,h,h2=>Fo.fT r g h h2
 |.put n a r,g,h,h2=>⟨h.1,Fo.fT r g h.2 h2⟩
 |.num n a r,g,h,h2=>⟨h.1,Fo.fT r g h.2 h2⟩
 |.br n a f o c b r,g,h,h2=>⟨h.1,h.2.1,h.2.2.1,h.2.2.2.1,h.2.2.2.2.1,Fo.fT r g h.2.2.2.2.2 h2⟩
 |.xR k a m r,g,h,h2=>⟨h.1,Fo.fT r g h.2 h2⟩
def Fo.ZL:∀f g:Fo,(f.app g).uB=f.uB+g.uB
 |.nil,g=>by simp[Fo.app,Fo.uB]
 |.text t r,g=>Hh
 |.hash r,g=>Hh
 |.put n a r,g=>Hh
 |.num n a r,g=>Hh
 |.br n a f o c b r,g=>Hh
 |.xR k a m r,g=>Hh
def Fo.Cf:∀f g:Fo,f.xW=true->(f.app g).keys=f.keys++g.keys
 |.nil,g,_=>rfl
 |.xR k a m r,g,h=>by
  show k::(r.app g).keys=_;rw[Fo.Cf r g h];rfl
def Xe:∀(f g:Fo),(f.app g).fit->f.fit
 |.nil,g,_=>trivial
 |.text t r,g,h=>Xe r g h
 |.hash r,g,h=>Xe r g h
 |.put n a r,g,h=>⟨h.1,Xe r g h.2⟩
 |.num n a r,g,h=>⟨h.1,Xe r g h.2⟩
 |.br n a f o c b r,g,h=>⟨h.1,h.2.1,h.2.2.1,h.2.2.2.1,h.2.2.2.2.1,Xe r g h.2.2.2.2.2⟩
 |.xR k a m r,g,h=>⟨h.1,Xe r g h.2⟩
def Fo.S1(h:f.fit)(t:Wd):(f.ye t).fit/\(f.ye t).uB<=f.uB+t.length+5:=by
 cases a:f.xJ with
 |none =>
  rw[qy f t a];exact⟨Fo.fT _ _ h trivial,by rw[Fo.ZL];simp only[Fo.uB];omega⟩
 |some s =>
  obtain⟨pre,h1,h2,b⟩:=vW f s a;rw[h1]at h;rw[b];refine⟨Fo.fT _ _ (Xe _ _ h) trivial,?_⟩;rw[Fo.ZL,show f.uB=(pre.app (.text s .nil)).uB from congrArg _ h1,Fo.ZL];simp only[Fo.uB,zy];omega
def yqy(b:Nat):∀(f:Fo) (seen:List Wd) (acc:List (Nat×Nat)),Qm b seen acc f=[]->acc=[]/\(∀k∈f.keys,k ∉ seen)/\f.keys.Nodup:=by
 have hn:∀(f:Fo) (seen:List Wd) (acc:List (Nat×Nat)),(if BN∈seen then acc else acc++[(6,b)])=[]->acc=[]:=λf seen acc h=>by
  split at h
  .exact h
  .simp at h
 intro f;induction f with
 |xR k a m r _ d =>
  intro seen acc h;rw[Qm]at h;obtain⟨h1,h2,c⟩:=d _ _ h;split at h1
  .simp at h1
  next hk =>
  refine⟨h1,λx hx=>?_,?_⟩
  .rcases yX.1 hx with rfl|hx
   .exact hk
   .exact λq=>h2 x hx (uk _ q)
  .exact Yz.2 ⟨λq=>h2 k q qI,c⟩
 |nil=>intro seen acc h;exact⟨hn .nil seen acc h,(λk hk=>YX),bl⟩
 |text _ _ _=>intro seen acc h;exact⟨hn .nil seen acc h,(λk hk=>YX),bl⟩
 |hash _ _=>intro seen acc h;exact⟨hn .nil seen acc h,(λk hk=>YX),bl⟩
 |put _ _ _ _=>intro seen acc h;exact⟨hn .nil seen acc h,(λk hk=>YX),bl⟩
 |num _ _ _ _=>intro seen acc h;exact⟨hn .nil seen acc h,(λk hk=>YX),bl⟩
 |br _ _ _ _ _ _ _ _ _=>intro seen acc h;exact⟨hn .nil seen acc h,(λk hk=>YX),bl⟩
def X2{s:KB}{n:Wd}{a:Nat}(h:(ub s n a k).2=[]):s.2=[]:=by
 unfold ub at h;split at h
 .simp at h
 .split at h<;>exact h
def jm:∀(f:Fo) (s s':KB),vx gD f s = .go true s'->s'.2=[]->s.2=[]/\f.once
 |.nil,s,s',h,e=>by
  cases h;exact⟨e,trivial⟩
 |.text _ r,s,s',h,e=>jm r s s' h e
 |.hash r,s,s',h,e=>jm r s s' h e
 |.put n a r,s,s',h,e=>by
  obtain⟨h1,h2⟩:=jm r (ub s n a 0) s' h e;exact⟨X2 h1,h2⟩
 |.num n a r,s,s',h,e=>by
  obtain⟨h1,h2⟩:=jm r (ub s n a 1) s' h e;exact⟨X2 h1,h2⟩
 |.br n a f o c bs r,s,s',h,e=>by
  obtain⟨b,h1⟩:∃b:KB,((ub s n a (jB (.br n a f o c bs .nil))).1,(ub s n a (jB (.br n a f o c bs .nil))).2++Qm c [] [] bs)=b:=⟨_,rfl⟩;have h2:(vx gD bs b).then (λs=>vx gD r s) = .go true s':=by rw[<-h1];exact h
  obtain⟨p,l⟩:=jx bs b;rw[l]at h2;obtain⟨g,i⟩:=jm r p s' h2 e;obtain⟨d,j⟩:=jm bs b p l g;rw[<-h1]at d;obtain⟨q,t⟩:=KE.1 d;exact⟨X2 q,(yqy c bs _ _ t).2.2,j,i⟩
 |.xR k a m r,s,s',h,e=>by
  obtain⟨b,h1⟩:=jx m s;have h2:(vx gD m s).then (λs=>vx gD r s) = .go true s':=h;rw[h1]at h2;obtain⟨g,i⟩:=jm r b s' h2 e;obtain⟨d,j⟩:=jm m s b h1 g;exact⟨d,j,i⟩
def S2(h:fG f=none):f.once:=by
 obtain⟨s,hs⟩:=jx f ((λ_=>none),[]);have e:gN f=s.2:=We;unfold fG at h;refine(jm f _ s hs ?_).2;exact zu5
def S3{l:Wd}(h:l.length<=9)(hd:l.all yG=true):yg l<=999999999:=zgq
def yqx:∀k:Fin 128,(enc (k.val:Int)).length=1:=zR
def Ii:∀(l:List Int),(∀r∈l,0<=r/\r<128)->(l.flatMap enc).length=l.length
 |[],_=>rfl
 |r::t,h=>by
  have h1:=h r zZ;have h2:=yqx ⟨r.toNat,J⟩;rw[show(((⟨r.toNat,J⟩:Fin 128).val:Nat):Int)=r by show((r.toNat:Nat):Int)=r;omega]at h2;rw[zh,zy,h2,Ii t (λq a=>h q (by simp[a]))];simp;omega
def cJ(l:List Int):(l.flatMap enc).length<=4*l.length:=zyz
def Cd:∀(n:Nat) (l:List Int),l.length<=n->(xy l).1.length<=(xy l).2
 | 0,l,h=>zfk
 |n+1,[],h=>A6
 |n+1,c::t,h=>by
  rw[xy.eq_def];simp only;split
  .split
   .simp
   .next d u =>
    split
    .have:=Cd n u Gx;simp;omega
    .simp
  .have:=Cd n t Gx;simp;omega
def Il(rs:List Int)(num:Bool)(i:Nat):(qv rs num i).1.length+4*i<=4*(qv rs num i).2:=by
 unfold qv;split
 .exact zvk
 split
 .exact zq4
 split
 .exact zq5
 .have h1:=cJ (xy (rs.drop (i+1))).1;have h2:=Cd _ (rs.drop (i+1)) (Y _);exact zv4
def Cb(m:jH):Prop:=∀num i f j,m num i = .ok (f,j)->f.fit/\f.uB+44*i<=44*j
section
variable {rs:List Int}
def zl1:∀k:Fin 128,enc (k.val:Int)=[uC k.val]:=zR
def FB:∀(l:List Int) (k:Nat),(∀j (h:j<l.length),(0<=l[j]/\l[j]<128)/\(qU l[j] ||(decide (0<k+j) && vF l[j]))=true)->Hu k (l.flatMap enc)=true
 |[],_,_=>rfl
 |r::l,k,h=>by
  obtain⟨⟨h1,h2⟩,a⟩:=h 0 zZ;simp only[List.getElem_cons_zero,Ej]at h1 h2 a;have he:=zl1 ⟨r.toNat,J⟩;have hr:((r.toNat:Nat):Int)=r:=J;dsimp only at he;rw[hr]at he;have hb:(uC r.toNat).toNat=r.toNat:=Dn;rw[zh,he];simp only[xX,xK,Hu,hb,hr];rw[FB l (k+1) (λj c=>by
   have:=h (j+1) yJ;simpa[kh,Nat.add_comm 1 j]using this)]
  have b:(!decide (k=0))=decide (0<k):=by rw[xO];simp;omega
  rw[b,a];rfl
def JD(h:kO rs i = .ok (x,j)):NmW x/\i<j:=by
 refine⟨?_,jl h⟩;unfold kO at h;split at h
 .cases h
 next hn =>
 cases h;obtain⟨n,hN⟩:=zr (ky rs i);have d:∀k,k<n->jt (zt rs (i+k)) k=true:=λk hk=>Ut (F:=jt) (rs:=rs) (i:=i) (k:=k) zu6
 have hf:∀k,k<n->k<16/\0<=zt rs (i+k)/\zt rs (i+k)<128:=λk hk=>by
  have:=Ut (F:=jt) (rs:=rs) (i:=i) (k:=k) zu6;simp only[jt,qU,vF,zx,vR,vJ,beq_iff_eq]at this;omega
 rw[hN]at hn|-;have g:n<=16:=by
  have:=(hf (n - 1) J).1;omega
 have Ab:∀k,k<n->i+k<rs.length:=λk hk=>by
  refine Nat.lt_of_not_le (λf=>?_);have:=(hf k hk).2.1;rw[kM f]at this;omega
 have a:∀r∈(rs.drop i).take n,0<=r/\r<128:=λr hr=>zgj
 have h1:=Ii _ a;have h2:((rs.drop i).take n).length<=n:=by rw[uK];exact Nat.min_le_left _ _
 have l:((rs.drop i).take n).length=n:=by
  rw[uK,yh];have:=Ab (n - 1) J;omega
 have m:Hu 0 (((rs.drop i).take n).flatMap enc)=true:=FB _ 0 λj b=>by
  rw[l]at b;have e:((rs.drop i).take n)[j]' J=zt rs (i+j):=by
   rw[MK (Ab j b)];simp
  rw[e];have c:=d j b;unfold jt at c;simp only[zx]at c;exact⟨(hf j b).2,by simpa using c.2⟩
 unfold ui;refine⟨J,?_⟩;unfold kV;rw[m,decide_eq_true (by omega:0<_),decide_eq_true (by omega:_<=16)];rfl
def Im(h:qO rs i = .ok (x,j)):x.length<=9/\x.all yG=true/\x≠[]/\i<j:=by
 have h0:=XH h;unfold qO at h;split at h
 .cases h
 next hn =>
 cases h;obtain⟨h1,h2,a⟩:=FV rs i hn;exact⟨h1,h2,a,h0⟩
def yqv:∀x∈U2,x.head?≠some 61:=zR
def NF{num:Bool}(h:YV rs num i = .ok (x,j)):zl0 num x/\i<j:=by
 unfold YV at h;split at h
 .obtain⟨a,q,h1,h2⟩:=zG h;cases h2;obtain⟨c,b,e,f⟩:=Im h1;exact⟨⟨yJ,λ_ _=>⟨e,c,b⟩⟩,J⟩
 .obtain⟨a,q,h1,h2⟩:=zG h;obtain⟨⟨c,-⟩,b⟩:=JD h1;split at h2
  .cases h2
  .next d =>
   cases h2;refine⟨⟨J,λhn he=>?_⟩,b⟩;exact absurd he (yqv _ (yu λq=>d ⟨hn,q⟩))
def yqu{num:Bool}(hm:∀m,msg=some m->Cb m)(h:bH rs msg num i = .ok (f,j)):f.fit/\f.xW=true/\(∀k∈f.keys,zl0 num k)/\f.uB+44*i<=44*j:=by
 unfold bH at h;obtain⟨k,a,h1,h2⟩:=zG h;obtain⟨u,b,l,d⟩:=zG h2;obtain⟨t,v⟩:=NF h1;have w:=(yR l).2;have x:=ya rs a;cases msg with
 |none=>cases d
 |some m =>
  obtain⟨g,c,n,o⟩:=zG (show(m num b).then _=_ from d);obtain⟨u2,z,p,r⟩:=zG o;obtain⟨s,B⟩:=hm m rfl _ _ _ _ n;have y:=(yR p).2;have A:=ya rs z;cases r;refine⟨⟨s,trivial⟩,rfl,λq e=>?_,?_⟩
  .simp only[Fo.keys,zJ]at e;subst e;exact t
  .simp only[Fo.uB];omega
def S4{num:Bool}(hm:∀m,msg=some m->Cb m):∀(n:Nat) (acc:Fo) (i j:Nat) (f:Fo),q9 rs msg num n acc i = .ok (f,j)->acc.fit->acc.xW=true->(∀k∈acc.keys,zl0 num k)->f.fit/\(∀k∈f.keys,zl0 num k)/\f.uB+44*i<=acc.uB+44*j
 | 0,acc,i,j,f,h,_,_,_=>xc
 |n+1,acc,i,j,f,h,ha,hb,hc=>by
  rw[q9]at h;split at h
  .cases h;exact⟨ha,hc,Y _⟩
  .obtain⟨g,q,h1,h2⟩:=zG h;obtain⟨g1,g2,b,c⟩:=yqu hm h1;obtain⟨k1,k2,k3⟩:=S4 hm n _ _ _ _ h2 (Fo.fT _ _ ha g1) (Fo.gi _ _ hb g2) (λk a=>by
    rw[Fo.Cf _ _ hb]at a;rcases zS.1 a with a|a
    .exact hc k a
    .exact b k a)
   rw[Fo.ZL]at k3;exact⟨k1,k2,J⟩
def ND{form:Nat}{o:Wd}(h:U5 rs form i = .ok (o,j)):yg o<=999999999/\i<=j:=by
 have h0:=Me h;refine⟨?_,h0⟩;unfold U5 at h;split at h
 .obtain⟨a,q,h1,h2⟩:=zG h;cases h2;obtain⟨b,c,d,e⟩:=Im h1;exact S3 b c
 .cases h;decide
def yqq(hm:∀m,msg=some m->Cb m)(h:gC rs msg i = .ok (f,j)):f.fit/\f.uB+44*i<=44*j:=by
 unfold gC at h;obtain⟨u,a,h1,h2⟩:=zG h;obtain⟨nm,b,B,n⟩:=zG h2;have E:=(yR h1).2;have F:=ya rs a;obtain⟨hn,G⟩:=JD B;have H:=ya rs b;clear h h1 h2 B;split at n
 .obtain⟨u,z,p,e⟩:=zG n;have:=(yR p).2;cases e;exact⟨⟨hn,trivial⟩,by simp only[Fo.uB];omega⟩
 .obtain⟨N,c,p,e⟩:=zG n;have I:=jl p;have K:=ya rs (yt rs b+1);have L:=ya rs c;clear n p;split at e
  .obtain⟨u,z,x,y⟩:=zG e;have:=(yR x).2;cases y;exact⟨⟨hn,trivial⟩,by simp only[Fo.uB];omega⟩
  .split at e
   .cases e
   .next form g =>
    obtain⟨u,d,x,y⟩:=zG e;obtain⟨o,l,C,r⟩:=zG y;obtain⟨bs,q,s,t⟩:=zG r;obtain⟨u,z,v,w⟩:=zG t;have:=(yR x).2;have:=ya rs d;obtain⟨D,_⟩:=ND C;obtain⟨b1,b2,b3⟩:=S4 hm _ _ _ _ _ s trivial rfl (λk hk=>YX);have M:=(yR v).2;have A:=BE g;cases w;refine⟨⟨hn,A,D,b2,b1,trivial⟩,?_⟩;simp only[Fo.uB]at b3|-;omega
def JB{num:Bool}(hm:∀m,msg=some m->Cb m):∀(n:Nat) (acc:Fo) (i j:Nat) (f:Fo),vV rs msg num n acc i = .ok (f,j)->acc.fit->f.fit/\f.uB+44*i<=acc.uB+44*j
 | 0,acc,i,j,f,h,_=>xc
 |n+1,acc,i,j,f,h,ha=>by
  rw[vV]at h;split at h
  .exact Wc
  split at h
  .obtain⟨g,q,h1,h2⟩:=zG h;obtain⟨g1,g2⟩:=yqq hm h1;obtain⟨k1,k2⟩:=JB hm n _ _ _ _ h2 (Fo.fT _ _ ha g1);rw[Fo.ZL]at k2;exact⟨k1,J⟩
  split at h
  .obtain⟨k1,k2⟩:=JB hm n _ _ _ _ h (Fo.fT _ _ ha trivial);rw[Fo.ZL]at k2;simp only[Fo.uB]at k2;exact⟨k1,J⟩
  .obtain⟨t1,t2⟩:=Fo.S1 ha (qv rs num i).1;obtain⟨k1,k2⟩:=JB hm n _ _ _ _ h t1;have a:=Il rs num i;have b:=Jz rs num i;exact⟨k1,J⟩
def S5:∀n,Cb (gH rs n)
 | 0,num,i,f,j,h=>by
  rw[gH]at h;simpa[Fo.uB]using JB (λm e=>gJ) _ _ _ _ _ h trivial
 |n+1,num,i,f,j,h=>by
  rw[gH]at h;simpa[Fo.uB]using JB (λm e=>by cases e;exact S5 n) _ _ _ _ _ h trivial
end
def Qz(h:xw l = .ok f)(hc:fG f=none):f.YK/\f.uB<=44000/\f.fit:=by
 have b:=Uv h;unfold xw at h;split at h
 .cases h
 split at h
 .cases h
 next h1 _ =>
 have Qf:=Uh l;have hr:(xz l).length<=1000:=J;cases hp:gu (xz l) with
 |error e=>rw[hp]at h;cases h
 |ok x =>
  rw[hp]at h;cases h;unfold gu at hp;obtain⟨g,q,h2,a⟩:=zG (show _=yzx (x.1,x.2)from hp);obtain⟨hf,hm⟩:=S5 5 _ _ _ _ h2;have he:q<=(xz l).length:=ZV _ _ _ _ _ h2 (zQ _);split at a
  .cases a;exact⟨Fo.Yv _ hf b.wf J (S2 hc),J,hf⟩
  .cases a
def CZ(h:xw l = .ok f)(hc:fG f=none):f.YK/\f.cw<=44000:=by
 obtain⟨h1,h2,-⟩:=Qz h hc;exact⟨h1,zj (Fo.Ui f) h2⟩
end Go.Proofs.YtpggmjffejgakaaGreatDoor
