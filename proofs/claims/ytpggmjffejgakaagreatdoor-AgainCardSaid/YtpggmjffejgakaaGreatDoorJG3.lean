import Derived.Test.YtpggmjffejgakaaGreatDoorJG2
import Derived.BigQuiet
import Derived.Deep.QuietTactic
import Derived.IntWalk
import Derived.Deep.RegionHeld
import Derived.Laws.IdiomStrings
import Derived.OwnWalk
import Derived.Laws.Externs
import Derived.Lib.BufferMore
import Derived.Shelf.SlicesE.Reverse
import Derived.Lib.Bytealg
import Derived.Deep.CutBlock
import Derived.Lib.AppendStr
import Derived.Lib.Builder
import Derived.Lib.UnsafeStr
import Derived.Shelf.RegionOpenPlain
import Derived.Deep.LoopGhost
import Derived.LaidEql
import Derived.RowKitTokens
import Derived.Lib.RuneBytes
import Derived.Maps.Own
import Derived.Deep.RegionWith
import Derived.Laws.IdiomCopy
set_option linter.defProp false
set_option maxHeartbeats 64000000
open Go renaming Addr->yI,Calls->zE,DataW->ib,Ending->xX,method->iX,Leaves->Ur,Oper->je,Program->Gz,TypeId->xM,Value->zx,World->z8,bodyPostS->TK,bodyPost_ret->yU,callsD_of_wpS->Xd,grownCap->wV,heap_alloc_new->ur,info_parts->V9,isAgg->xjy,leaves_cons->kI,loadVar->Hw,madeCells->zr4,maxLen->vp,plainElem_int->bG,results->yN,rounds_succ->xR,run_callFunc_extern->TB,run_typeAssert_lacksB->Jh,run_underlying->kJ,storeVar->iY,underlying->KI,unsupported->yfk,wpList_make_full->OD,wpS_of_wp->TQ,wpS_region->EJ,wp_loop_rounds->gV
open Go.Addr renaming add->fG,block->qb
open Go.Addr.mk renaming injEq->YS
open And renaming intro->zf
open Array renaming getElem?_eq_none->jA,getElem?_eq_some_iff->yR,getElem?_modify->xc,replicate->vQ,toList_append->zzd
open Go.RowKit renaming Below->yE
open Go.RowKit.Below renaming alloc->KH,drew->qs,heap_alloc->xQ,heap_setCell->yX,refl->zu,setCell->ZE
open Bool renaming and_eq_true->zv,and_true->zzj,eq_iff_iff->xA,false_and->oK,not_eq_true->bE,not_eq_true'->vA,not_false->LB,or_eq_true->vW,true_and->jd
open Go.Builtin renaming append_->Z5,unsafeSliceData_->YT,zeroCells->Jt
open ByteArray renaming mk->vD
open Go.DataW.lit renaming injEq->EW
open Go.Departure renaming mixedOrders->Xb
open Go.Exit renaming thenS->VY
open Go.Extern.AbiNoEscape renaming same->YW
open Go.Extern.BytealgCompare renaming cmp->wK,compare->XK
open Go.Extern.Bytes renaming bytesOf->XQ,loadBytes->vq5
open Go.ByteArray renaming toList_eq->Di
open Go.Instr renaming field->vq6,lookup->Jr,makeFunc->qA,makeMap->yeu,mapUpdate->TJ,typeAssert->za
open Int renaming toNat_natCast->TX
open Go.IntKind renaming bits->OQ,i64->vG,signed->EU,u8->Vz,wrap->yf9
open Go.Lib renaming BuilderAt->TC,IsBuilder->xe,Utf8Tabs->Yv,byteCells->yq,bytesOf->Zb,cell_of_heap->yx,compareBytes->yfu,encodeRune->yi,frozen_of_heap->vF,hasPrefix->yc,hid->Z,run_append_own_string->Ol,run_from_unsafe->yeq,run_neq_ptr_same->yfq,run_noEscape->vz5,run_to_unsafe->xjz,runeCells->wY,runeCells_le->yfj,strCells->xu7,trimPrefix->vO
open Go.Lib.BuilderAt renaming put->vz6
open List renaming all_append->uJ,all_cons->u7,all_eq_true->zm,append_eq_nil_iff->xvj,append_nil->qt,append_toArray->xu0,cons_append->xd,dropWhile_cons_of_neg->fF,dropWhile_cons_of_pos->VU,dropWhile_sublist->di,drop_eq_getElem_cons->yd,drop_of_length_le->yL,drop_replicate->wJ,drop_set->xu5,drop_zero->qW,eq_nil_of_length_eq_zero->zN,eq_of_mem_replicate->dQ,ext_getElem->xu1,foldl_append->TF,foldl_cons->vP,getD_eq_getElem?_getD->zA,getElem?_append_left->zi,getElem?_append_right->yp,getElem?_cons_succ->qe,getElem?_cons_zero->qc,getElem?_eq_getElem->zj,getElem?_eq_none->uG,getElem?_eq_some_iff->zD,getElem?_map->Ql,getElem?_modify->yez,getElem?_take->OJ,getElem?_toArray->gQ,getElem_append_left->VR,getElem_append_right->Te,getElem_mem->yf,idxOf_cons->xj9,idxOf_le_length->Ft,isPrefixOf->uT,length->xJ,length_append->zy,length_cons->zY,length_drop->yr,length_map->vU,length_pos_iff->zt,length_replicate->fL,length_take->u4,map_append->Tn,map_cons->vV,map_nil->De,map_toArray->Jp,mem_append->zS,mem_iff_getElem->ja,mem_map->uy,mem_of_getElem?->ze,mem_of_mem_drop->jz,mem_of_mem_take->oJ,mem_reverse->Zd,mem_singleton->zG,nil_append->xV,range->xH,replicate->zX,replicate_succ->qa,setIfInBounds_toArray->Qm,take_append_drop->fY,take_left->Jo,take_length->YP,take_of_length_le->ye,take_succ_eq_append_getElem->yj
open Go.Lit.int renaming injEq->yzq
open Go.Maps renaming atKey_put_other->dc,atKey_put_same->Uo,has_put_other->OU,has_put_same->Qi,int_keyed->vz2,keyOf_int_mk->yev
open Nat renaming add_assoc->uR,add_mul->kh,add_sub_cancel->Z3,add_sub_cancel_left->Z7,add_zero->EK,eq_zero_or_pos->xu6,le_refl->Y,le_succ->dJ,le_trans->zg,lt_irrefl->qV,lt_of_lt_of_le->zC,lt_or_ge->ud,lt_succ_self->dK,mod_lt->xu3,mul_assoc->Up,mul_comm->dU,mul_le_mul_right->uM,mul_zero->iZ,not_lt_zero->ZH,one_le_pow->xu4,one_mul->vq4,pow_succ->fC,zero_add->uE,zero_le->zJ
open Go.Op renaming bytesLess->bH
open Go.Oper renaming upon_value->jc,wp->j6
open Option renaming getD_some->Vd,map_some->Y8
open Option.some renaming inj->zL,injEq->vr
open Prod.mk renaming injEq->Ht
open Go.Result renaming andThen->yt,andThen_ok->XU
open Go.Sem renaming run_bind->kp,run_pure->wQ
open SizeOf renaming sizeOf->zH
open Go.Sort renaming ahead->zzf
open UInt8 renaming lt_iff_toNat_lt->To,toNat_inj->Xf,toNat_ofNat'->Xg
open UInt8.toNat renaming inj->Y9
open Go.Value renaming bool->gL,cells->Js,int->yZ,ownBlock->yA,slice->ux
open Go.Value.slice renaming injEq->gX
open Go.WideAt renaming IsKeyLit->kF
open Go.World renaming block_lt_of_cell?->X,cell?->FK,cell?_alloc_lt->zc,cell?_alloc_some->bJ,cell?_of_block->yD,cell?_setCell_other->yO,cell?_setCell_same->qY,frozen?_alloc_old->fI,frozen?_of_block->zU,frozen?_setCell->zP,ownsMap_made->Hh,ownsRow_nil->xz,setCell->xu,setCells->yfg
open Go.World.grownBy renaming refl->vz4
open Go.World.ownsRow renaming drew->FG,lt->vz3
open Go.Proofs.Tryz
namespace Go.Proofs.YtpggmjffejgakaaGreatDoor
open Go Go.RowKit
set_option maxRecDepth 10000
variable{L:XX}{s:MkS}{hi lo p:Nat}{w w0:z8}
def pR(h:uU p L s w)(N:Nat)(r:N<=(w:Nat)) :
  ∃W,W=(((w.alloc (.map #[] 0)).alloc (.cells #[.map (some (w:Nat))] 139)).alloc (.map #[] 0)).alloc (.cells #[.map (some ((w:Nat)+2))] 279) /\
   Xl N p ((w:Nat)+3) ((w:Nat)+2) ((w:Nat)+1) (w:Nat) [] [] s L W/\Fr yH yH w W:=by
 obtain⟨A,hA⟩:=zw (w.alloc (.map #[] 0));have j:(A:Nat)=(w:Nat)+1:=by rw[<-hA];simp
 have d:=jG.made 3 w;have m:Fr yH yH w A:=Iz;rw[hA]at d|-;clear hA;obtain⟨B,hB⟩:=zw (A.alloc (.cells #[.map (some (w:Nat))] 139));have k:(B:Nat)=(w:Nat)+2:=by rw[<-hB];simp[j]
 have a:=zZ A #[.map (some (w:Nat))] 139 (0,0) 0;have b:Fr yH yH A B:=WN;rw[hB,j]at a;rw[hB];clear hB;obtain⟨C,hC⟩:=zw (B.alloc (.map #[] 0));have i:=X0.made B;have o:(C:Nat)=(w:Nat)+3:=by rw[<-hC];simp[k]
 have n:Fr yH yH B C:=WO;rw[hC,k]at i;rw[hC];clear hC;have c:Fr yH yH C (C.alloc (.cells #[.map (some ((w:Nat)+2))] 279)):=(Fr.refl _ _).alloc _;have f:=n.trans c;have no:∀g,(w:Nat)<=g->¬L.has p g:=λg t q=>by have:=h.lt q;omega
 have l:UQ []=λ_=>none:=by funext x;simp[UQ]
 refine⟨_,rfl,⟨?_,i.fr c id,f.cell a id,by rw[l];exact d.fr (b.trans f) id,J,⟨no _ J,no _ J,no _ J,no _ J⟩,J,(λe he=>by cases he),(λe he=>by cases he)⟩,m.trans (b.trans f)⟩;rw[<-o];exact zZ C #[.map (some ((w:Nat)+2))] _ _ _
def my(k:Wd)(h:k.head? = some 61):yc k [61]=true/\vO k [61]=k.tail:=by
 cases k with
 |nil=>cases h
 |cons c t=>simp at h;subst h;constructor<;>simp[yc,vO]
def mq(k:Wd)(h:¬k.head? = some 61):yc k [61]=false/\vO k [61]=k:=by
 cases k with
 |nil=>constructor<;>simp[yc,vO]
 |cons c t =>
  have hc:¬c=61:=λe=>h (by rw[e];rfl)
  have a:¬61=c:=λe=>hc e.symm
  constructor<;>simp[yc,vO,uT,hc,a]
def pS(l:Wd)(h:l.length<=9)(hd:l.all yC=true):yb l<=4000000000:=zgf
def aI(b0:Nat)(n:Wd)(a fo:Nat)(of:Wd)(cl:Nat)(bs:Fo)(p:Nat)(L:XX)(s:MkS)(w:z8)
  (ih:∀m:Fo,zH m<zH bs->Rb lo hi w0 m) (h:uU p L s w) (he:Xi lo hi w0 L.B w) (lK:fo≠0)
  (D9:yY lo hi w0 [.iface 199 (b0,0)] (.br n a fo of cl bs .nil)) (hc:(Fo.br n a fo of cl bs .nil).YD) (IF:(Fo.br n a fo of cl bs .nil).wf 2000000=true) (hs:s.sz+(40+bs.cw)<=900000) :
  zE prog 98 #[(p,0),(b0,0)] w (MQ p L ((D7 bs (MkS.kV n of bs s) (MkS.kU n of fo bs s)).put 5 0 [] []) w):=by
 have Ew:=@run_makeMap prog;have HND:=Z D9;obtain⟨vt,b',ba,bc,ws,hee,Q,S,YU,VK,XY,IK,DL,R3,Bf,Dz,_⟩:=D9;cases hee;obtain⟨IG,hfl,hov,hL,zc2,hks,Pa,-⟩:=hc;have Bd:(decide (n.length<=4000001) && decide (fo<3) && bs.xm && decide (bs.len<=2000000) && bs.wf 2000000 && Fo.nil.wf 2000000)=true:=IF;simp only[zv,decide_eq_true_eq]at Bd;obtain⟨⟨⟨-,hbn⟩,XO⟩,-⟩:=Bd;have c0:=yM he.keep YU Q S;have c1:=yM he.keep VK Q S;have c2:=yM he.keep IK Q S;have c4:=yM he.keep DL Q S;have c3:=yM he.keep XY Q S;have Z0:s.cs.length<=900000/\s.code.length<=900000/\s.pos<=900000:=WI;obtain⟨HC,HH,HE,IJ,aY,HL,aU,HKS⟩:=OH (Qf p L s n w.drew h.drew J J) h he Bf Dz hL zc2 hks;obtain⟨HBC,HBW,HIH,HS⟩:=hdd Pa XO ih hs;obtain⟨M,hM⟩:=zw bs.len;have HM:=Z hM;rw[hM]at c4 hbn;obtain⟨k0,iA⟩:=zw (s.num n);rw[iA]at HC;have HK0:=Z iA;obtain⟨ov,yr3⟩:=zw (yb of);rw[yr3]at c2 hov;have HOV:=Z yr3;clear h he Bf Dz hL zc2 hks Pa XO ih hs hM YU VK XY IK DL R3 iA IF yr3;go_enter func98,ntmps98;go_wp2_with fail;refine Vy (λW':z8=>zk W' b0 0 (zO n)/\zk W' b0 3 ov) [0,1,2,3,4,5,6,9,10,11,12] 4 ⟨c0,c2⟩ ?_;refine gU 7 (λP z=>?_);go_simp;refine HC.o.mono ?_;rintro e w1 ⟨rfl,L1,Q9,⟨hq1,oL⟩,Q6⟩;clear HC;have Q6:=Q6.und;have F:¬L.has p b0:=λq=>by have:=HH.o.lo _ q;have:=HE.o.hB;omega
 have d0:=Q6.cell c0 F;have d2:=Q6.cell c2 F;refine z.out _ _ ⟨d0,d2⟩ λ_=>?_
 clear z P;refine gU 8 (λP z=>?_);go_simp;refine z.out _ _ ⟨yu d0 _,yu d2 _⟩ λ_=>?_
 clear z P;refine Tt [13] 1 ⟨yu d0 _,yu d2 _⟩ ?_;refine ty ?_;try simp only[pl]
 refine yW ?_;refine gU 14 (λP z=>?_);go_simp;have pj:=uk.lit w1 [k0] zV;have xi7:=Q9.alloc (.cells (bh [k0]).toArray 3);obtain⟨z1,z2,z3⟩:=xS s n;have hk9:k0<=900000:=by have:=N5 s n;have:=HK0.o;omega
 have Dt:(xE ⟨4,(s.const n).pos,ov,[k0],[]⟩).length=7:=WT;have hF1:qg (w1.alloc (.cells (bh [k0]).toArray 3)):=(HE.o.fo.fr Q6 HH.o.lo HE.o.g1).fr ((Fr.refl yH w1).alloc _) (λ_ q=>q.elim) HE.o.g1;have HP:=Z (Zy p L1 (s.const n) 4 ov [k0] [] (.slice (w1,0) 1 1) (.slice none 0 0) (w1.alloc (.cells (bh [k0]).toArray 3)) xi7 pj (uk.nil _) (λg hg q=>zqd) (λg hg=>U3) (λg hg=>by cases hg)
  (λg hg=>zvv)
  ⟨(by decide:4<12),by show ov<=_;omega,yF,zV,zV,rfl⟩ hF1 (by rw[oL];exact HE.o.g1) (by rw[z2];omega) (by rw[z3];omega) (by rw[Dt];omega))
 refine HP.o.mono ?_;rintro e w2 ⟨bx,cx,rfl,-,-,-,L2,Jz,⟨KO,DG⟩,ZL,-,-⟩;have fA:Fr yH yH w1 (w1.alloc (.cells (bh [k0]).toArray 3)):=(Fr.refl _ _).alloc _;have F2:Fr (L.has p) (L2.has p) w w2:=(Q6.trans (fA.wide (λ_ q=>q.elim))).tr ZL (λq hq=>zvb);obtain⟨s2,Yt⟩:=zw ((s.const n).put 4 ov [k0] []);have EE:s2.sz<=s.sz+9:=by rw[<-Yt,gh,Dt];omega
 rw[Yt]at Jz;have d0:=F2.cell c0 F;have d2:=F2.cell c2 F;have d4:=F2.cell (a:=(zQ b0 4)) c4 F;have d3:=F2.cell (a:=(zQ b0 2)) c3 F;refine z.out _ _ ⟨d0,d2⟩ λ_=>?_
 clear z P;refine Y5 ?_ _;have Va:=Z F2;have EI:=Z Jz;have dw:=Z Yt;obtain⟨W,hW,ZR,OW⟩:=pR (s:=s2) Jz (w:Nat) F2.size;have c4a:=λo1 o2 o3 o4=>yu (yu (yu (yu d4 o1) o2) o3) o4
 have xi8:L2.q=L.q/\L2.B=L.B:=⟨KO.trans hq1,DG.trans oL⟩;have HQ:=Z xi8;clear Q9 xi7 pj hF1 HP Q6 ZL fA F2 Jz Yt hq1 KO oL DG xi8 Dt z1 z2 z3;go_wp2_with fail;rw[show (w2:Nat)+1+1+1=(w2:Nat)+3 from rfl,show (w2:Nat)+1+1=(w2:Nat)+2 from rfl,<-hW];obtain⟨ab,hab⟩:=zw ((w2:Nat)+3);obtain⟨am,ham⟩:=zw ((w2:Nat)+2);obtain⟨hb,hhb⟩:=zw ((w2:Nat)+1);obtain⟨hm,hhm⟩:=zw (w2:Nat);rw[hab,hhb];rw[hab,ham,hhb,hhm]at ZR;obtain⟨R,hR⟩:=zw (MkS.vX bs s2 []);have HR:=Z hR;clear hab ham hhb hhm hR hW;go_loopw [36] (λiv wr=>∃i us xs r d u al pre,iv = .int .i64 (i:Nat)/\i<=M/\yY lo hi w0 xs r/\r.xm=true/\us.length=i*3/\ws=us++xs/\i+r.len=M/\bs.keys=pre++r.keys /\
  uU p u d wr/\(u.q=L.q/\u.B=L.B)/\Fr (L.has p) (u.has p) w wr/\Xl (w:Nat) p ab am hb hm pre al d u wr/\MkS.vX r d al.ix=R/\pre.length=i/\al.length<=i/\d.sz+8*r.keys.length<=899990) (λiv _=>M - (intOf iv).toNat)
 case atStart =>
  exact⟨0,[],ws,bs,s2,L2,[],[],rfl,zJ _,aY.o,HL.o,rfl,rfl,by have:=HM.o;omega,rfl,EI.o.fr OW (λ_ q=>q.elim),HQ.o,Va.o.trans (OW.wide (λ_ q=>q.elim)),ZR,HR.o,rfl,Y _,by have:=HS.o;have:=Fo.Xe bs;omega⟩
 case round =>
  clear ZR OW c4a d0 d2 d3 d4;obtain⟨i,us,xs,r,d,u,al,pre,rfl,hiM,uB,D4,K0,RZ,Z9,l,I,⟨TN,C⟩,D,A,Nv,yr4,Ke,Vu⟩:=hrel;have U:Xi lo hi w0 u.B wr:=by rw[C];exact HE.o.fr D HH.o.lo
  obtain⟨Dy,HE3,oe,HPL,Gf,HLR,HUS,HWS⟩:=OH I U D A Nv D4 K0 RZ;obtain⟨QI,p6,KM,HPR⟩:=hdd Z9 l Vu yr4;by_cases uh:i<M
  .cases r with
   |nil=>exfalso;simp[Fo.len]at Z9;omega
   |text t r=>cases D4
   |hash r=>cases D4
   |put n a r=>cases D4
   |num n a r=>cases D4
   |br n a fo of cl bs r=>cases D4
   |xi k1 a0 m0 r0 =>
    obtain⟨R4,ma,mc,ms,rfl,Ud,lL,Ug⟩:=uB;obtain⟨g2,o2,rfl,e0,e1,e2⟩:=Gs U.keep IJ.o K0 RZ;have DE:=Z Ug;have k3:(i:Int)<(M:Int):=J;have k4:decide ((i:Int)<(M:Int))=true:=yF;have hfA:Fr yH yH wr (wr.alloc (.cells #[zO k1,a0,.slice ma m0.len mc] 221)):=(Fr.refl _ _).alloc _;have hpA:=A.al' hfA (λ_ q=>q.elim);have Eo:=QI.o;simp only[Fo.len]at Eo;have aC:=KM.o;simp only[Fo.keys,zY]at aC;have hkb:k1∈bs.keys:=MS;have yr5:k1 ∉ pre:=λq=>by
     have h1:=aU.o;rw[p6.o]at h1;exact(List.nodup_append.1 h1).2.2 k1 q k1 (by simp[Fo.keys]) rfl
    have vbb:=Z yr5;obtain⟨vb6,yr6⟩:=HKS.o k1 hkb;have TO:=hpA.mh.FN Gp k1 J;rw[show UQ pre k1=none from yv yr5]at TO;obtain⟨wp,xiy,hmp,E⟩:=hpA.mh.put Gp k1 J 1 1 rfl J J;have H:=Z (hpA.key hmp E);have hfp:Fr (λg=>g=hm) (λg=>g=hm) (wr.alloc (.cells #[zO k1,a0,.slice ma m0.len mc] 221)) wp:=⟨E.os,E.tape,E.output,E.size,λk hk hn=>E.block k hk (λe=>hn (zL e)),λ_ q => .inl q⟩;have hcA:=hpA.ch;have HFP:=Z hfp;have kec:zk wp (wr:Nat) 0 (zO k1):=hfp.cell (zZ _ _ _ _ _) (λe=>by have:=A.lt.2.2.2;simp only at e;omega);have HMP:=Z ((I.fr hfA (λ_ q=>q.elim)).fr hfp (by rintro g rfl;exact A.out.2.2.2));have Vs:=Z ((D.trans (hfA.wide (λ_ q=>q.elim))).over hfp (by rintro g rfl;exact .inr A.lo.2.2.2));have f:=Tryz.strings_CutPrefix ⟨k1.toArray⟩ ⟨#[61]⟩ wp;rw[show(vD k1.toArray).data.toList=k1 by simp,show(vD #[61]).data.toList=[61]from rfl]at f;clear I U D Nv D4 K0 RZ Ud lL Ug Z9 l Vu yr4 hfA hpA A yr5 hmp E hfp;by_cases hx:k1.head? = some 61
    .rw[(my k1 hx).1,(my k1 hx).2]at f;have G:=Z f;obtain⟨q1,q2,q3⟩:=yr6 lK hx;have HAT:=Z (lY k1.tail wp q2 q3 q1);have HX:=Z hx;obtain⟨kv,aD⟩:=zw (yb k1.tail);obtain⟨kt,hkt⟩:=zw k1.tail;have uc0:kv<=4000000000:=(by rw[<-aD];exact pS _ q2 q3);rw[aD,hkt]at HAT;rw[hkt]at G;have HKV:=Z aD;clear f hx yr6 q1 q2 q3 aD hkt;go_wp2_with fail;refine G.o.mono ?_;rintro e w4 ⟨rfl,rfl⟩;go_wp2_with fail;refine HAT.o.mono ?_;rintro e w5 ⟨rfl,ZV⟩;have f5:Fr yH yH w4 w5:=Fr.of ZV;clear G HAT xiy TO hcA;have ca5:=f5.cell H.o.ca id;have ke5:=f5.cell kec id;go_wp2_with fail;refine Vy (λW':z8=>zk W' ab 0 (.map (some am))/\zk W' (wr:Nat) 0 (zO k1)) [0,1,2,3,4] 4 ⟨ca5,ke5⟩ ?_;refine gU 5 (λP z=>?_);obtain⟨w6,hmk,hk6,V⟩:=Qb 1 w5.drew J;rw[show((1:Nat):Int)=1 from rfl]at hmk;have V:=V.und;have ca6:=V.cell ca5 id;have ke6:=V.cell ke5 id;go_simp;refine z.out _ _ ⟨ca6,ke6⟩ λ_=>?_
     clear z P;refine Tt [6] 2 ⟨ca6,ke6⟩ ?_;refine ty ?_;try simp only[pl]
     refine yW ?_;refine gU 7 (λP z=>?_);go_simp;have f46:Fr yH yH w4 w6:=f5.trans V;have hm6:=HMP.o.fr f46 (λ_ q=>q.elim);have hp6:=H.o.al' f46 (λ_ q=>q.elim);have lN:=aC;unfold MkS.sz at lN;have h8:(xE ⟨7,d.pos,kv,[],zX 1 0⟩).length=7:=WT;have he6:Xi lo hi w0 u.B w6:=(by rw[C];exact(HE.o.fr Vs.o HH.o.lo).fr f46 (λ_ q=>q.elim));have HP:=Z (Zy p u d 7 kv [] (zX 1 0) (.slice none 0 0) (.slice (w5,0) 1 1) w6 hm6 (uk.nil _) hk6 (λg hg=>U3) (λg hg q=>by cases hg;have h1:=HMP.o.lt q;have h2:=f5.size;exact absurd h1 (by show ¬(w5:Nat)<(w4:Nat);omega)) (λg hg q=>kG)
      (λg hg=>by rcases hg with hg|hg<;>cases hg;have h1:=HMP.o.base;have h2:=f5.size;show u.B<=(w5:Nat);omega)
      ⟨(by decide:7<12),by show kv<=_;omega,zV,zV,zV,rfl⟩ he6.fo he6.g1 J J J)
     refine HP.o.mono ?_;rintro e w7 ⟨b,c,rfl,va1,XZ,hc7,L4,hm7,⟨hq7,hB7⟩,PN,nb7,nc7⟩;have f47:Fr (u.has p) (L4.has p) w4 w7:=(f46.wide (λ_ q=>q.elim)).tr PN (λq hq=>by
      rcases hq with hq|hq|hq
      .exact .inl hq
      .cases hq
      .cases hq;exact .inr f5.size)
     have nk1:¬u.has p (wr:Nat):=λq=>by have:=Dy.o.lt q;omega
     have ca7:=f47.cell H.o.ca H.o.out.1;have ke7:=f47.cell kec nk1;have N:=H.o.fr f47 (MkS.Zm d 7 kv [] (zX 1 0));obtain⟨w8,xix,xiv,j⟩:=N.ma.put k1 J (b,c) J;have HP8:=Z (N.ask (k:=k1) zV (λe he q=>vbb.o (by rw[<-q];exact HPL.o.ks e he)) xiv j va1 nb7 nc7 (i:=d.code.length) (y:=⟨7,d.pos,kv,[],zX 1 0⟩) (by simp[MkS.put]) zV);have hf8:Fr (λg=>g=am) (λg=>g=am) w7 w8:=⟨j.os,j.tape,j.output,j.size,λk hk hn=>j.block k hk (λe=>hn (zL e)),λ_ q => .inl q⟩;have HM8:=Z (hm7.fr hf8 (by rintro g rfl;exact N.out.2.1));have HF8:=Z ((Vs.o.trans f47).over hf8 (by rintro g rfl;exact .inr N.lo.2.1));have ca8:=hf8.cell ca7 N.ne.1;have ke8:=hf8.cell ke7 (λe=>by have:=HPL.o.lt.2.1;have e2:(wr:Nat)=am:=e;omega);have hz8:=gh d 7 kv [] (zX 1 0);refine z.out _ _ ⟨ca7,ke7⟩ λ_=>?_
     clear z P;refine gU 8 (λP z=>?_);go_simp;refine z.out _ _ ⟨ca8,ke8⟩ λ_=>?_
     clear z P;refine Y5 ?_ _;have hq9:=hq7;clear xix N xiv j hm7 PN f47 f46 hm6 hp6 he6 HP hmk;go_wp2;go_roundw
     case rel =>
      refine⟨i+1,us++[zO k1,.int .i64 a0,.slice ma m0.len mc],R4,r0,d.put 7 kv [] (zX 1 0),L4,al++[(k1,d.code.length,b,c)],pre++[k1],by go_num,J,DE.o,HLR.o,BL,BO,J,MS,HM8.o,⟨hq7.trans TN,hB7.trans C⟩,HF8.o,HP8.o,?_,by simp[HPR.o],by simp;omega,J⟩;have:=Gf.o;rw[MkS.vX,yK HX.o,HKV.o]at this;simpa[UK.ix]using this
     case measure=>simp only[intOf];omega
    .rw[(mq k1 hx).1,(mq k1 hx).2]at f;have G:=Z f;have HX:=Z hx;clear f hx yr6;go_wp2_with fail;refine G.o.mono ?_;rintro e w4 ⟨rfl,rfl⟩;clear G xiy TO hcA;go_wp2;go_roundw
     case rel =>
      refine⟨i+1,us++[zO k1,.int .i64 a0,.slice ma m0.len mc],R4,r0,d,u,al,pre++[k1],by go_num,J,DE.o,HLR.o,BL,BO,J,by rw[p6.o];simp[Fo.keys],HMP.o,⟨TN,C⟩,Vs.o,H.o,?_,by simp[HPR.o],J,J⟩;have:=Gf.o;rw[MkS.vX,yv HX.o]at this;exact this
     case measure=>simp only[intOf];omega
  .have kL:r.keys=[]/\MkS.vX r d al.ix=(d,al.ix):=ydb;have hP1:MkS.VH n of bs s=(d,al.ix):=by
    unfold MkS.VH;rw[HK0.o,HOV.o,dw.o,HR.o];exact Nv.symm.trans kL.2
   have wO:=Z hP1;have HK1:=Z (show bs.keys=pre by rw[l,kL.1];simp);have k3:¬(i:Int)<(M:Int):=J;have k4:decide ((i:Int)<(M:Int))=false:=yF;obtain⟨wm,hmk,hkm,lF⟩:=Qb 6 wr J;rw[show((6:Nat):Int)=6 from rfl]at hmk;have xiu:=I.fr lF (λ_ q=>q.elim);have hem:=U.fr lF (λ_ q=>q.elim);have hpm:=A.al' lF (λ_ q=>q.elim);have f3m:Fr (L.has p) (u.has p) w wm:=D.trans (lF.wide (λ_ q=>q.elim));have c3m:=D.cell (a:=(zQ b0 2)) c3 F;obtain⟨HMM,HEM,HPM,H3M,HKM,HFM⟩:=ED xiu hem hpm f3m hkm lF;have lN:=Vu;unfold MkS.sz at lN;have hs9:d.sz<=899990:=J;obtain⟨op,K⟩:=zw ((if fo=2 then 9 else 8));have HSS:=Z (show d.put op 0 [] (zX 6 0)=MkS.kU n of fo bs s by unfold MkS.kU;rw[hP1,K]);have lwr:=I.base.2;clear I U D A Nv D4 K0 RZ Z9 l Vu uB kL yr4 hP1 xiu hem hpm f3m hkm;have yrz:(((fo:Int)==2)=true/\9=op)\/(((fo:Int)==2)=false/\8=op):=by
    by_cases q:fo=2
    .left;rw[yK q]at K;exact⟨by simp[q],K⟩
    .right;rw[yv q]at K;exact⟨yF,K⟩
   clear K;have PM:op<12:=J;have DN:okB (uA op) 0 6=true:=(by rcases yrz with⟨-,rfl⟩|⟨-,rfl⟩<;>rfl);have pT:(xE ⟨op,d.pos,0,[],zX 6 0⟩).length<=1000000:=(by rcases yrz with⟨-,rfl⟩|⟨-,rfl⟩<;>simp[xE,uA,ue,vq]);have HP:=Z (Zy p u d op 0 [] (zX 6 0) (.slice none 0 0) (.slice (wr,0) 6 6) wm HMM.o (uk.nil _) HKM.o (λg hg=>U3) (λg hg q=>zff) (λg hg q=>kG)
    (λg hg=>by rcases hg with hg|hg<;>cases hg;have h1:=Dy.o.base;show u.B<=(wr:Nat);omega)
    ⟨PM,zV,zV,zV,zV,DN⟩ HEM.o.fo HEM.o.g1 J J pT)
   have HI6:=Z (show ∃x,(d.put op 0 [] (zX 6 0)).code[d.code.length]? = some x/\x.tg.length=6 from⟨_,by simp[MkS.put];rfl,zV⟩);have HLE:=Z (MkS.Zm d op 0 [] (zX 6 0));clear PM DN pT;rcases yrz with⟨kf,rfl⟩|⟨kf,rfl⟩;all_goals
    go_wp2_with fail;refine HP.o.mono ?_;rintro e w5 ⟨b,c,rfl,RY,-,-,L4,TP,⟨hq5,hB5⟩,OA,nb5,nc5⟩;have f35:Fr (u.has p) (L4.has p) wr w5:=(HFM.o.wide (λ_ q=>q.elim)).tr OA (λq hq=>by
     rcases hq with hq|hq|hq
     .exact .inl hq
     .cases hq
     .cases hq;exact .inr (Y _))
    have fw5:Fr (L.has p) (L4.has p) w w5:=oe.o.trans f35;have he5:Xi lo hi w0 L4.B w5:=(by rw[hB5,C];exact HE.o.fr fw5 HH.o.lo);have hp5:=HPL.o.fr f35 HLE.o;obtain⟨x,hx,hx6⟩:=HI6.o;have oT:∀k∈pre,k.length<=17:=λk hk=>(HKS.o k (by rw[HK1.o];exact hk)).1
    obtain⟨wT,hwT⟩:=zw (w5.alloc (.cells #[Zl b c] 143));obtain⟨T,hI⟩:=yvj hp5 RY nb5 nc5 he5.na he5.g2 TP hx hx6 oT hwT;have hfT:Fr yH yH w5 wT:=(by rw[<-hwT];exact(Fr.refl _ _).alloc _);have hbg:MkS.kV n of bs s=plG pre al.ix d.code.length:=by
     funext k x;unfold MkS.kV plG;rw[wO.o,HK1.o];rfl
    rw[<-hbg,HSS.o,<-HK1.o]at T;have hmT:=TP.fr hfT (λ_ q=>q.elim);rw[HSS.o]at hmT;have hzp:=(MkS.Nx n of fo bs s).2;have hgk:=Fo.Xe bs;have hsb:=HS.o;have O:=Z (C1 b0 n a fo of cl bs p L4 (MkS.kU n of fo bs s) (MkS.kV n of bs s) _ _ wT HIH.o hmT (he5.fr hfT (λ_ q=>q.elim)) HND.o HL.o HBC.o HBW.o (by rw[HM.o];exact hbn) J T hI);have HWT:=Z (fw5.trans (hfT.wide (λ_ q=>q.elim)));have hz9:(D7 bs (MkS.kV n of bs s) (MkS.kU n of fo bs s)).sz<=900000:=by
     obtain⟨-,q⟩:=MkS.go_le bs (MkS.kV n of bs s) (MkS.kU n of fo bs s) [] (λk x=>MkS.N8 n of bs s k x);exact WJ
    obtain⟨s9,hs9⟩:=zw (D7 bs (MkS.kV n of bs s) (MkS.kU n of fo bs s));rw[hs9]at O hz9;have HS9:=Z hs9;unfold MkS.sz at hz9;clear hs9 T hI hmT hx hp5 he5 fw5 f35 OA TP RY hbg oT hfT;go_wp2_with fail;refine O.o.mono ?_;rintro e w9 ⟨rfl,L9,hm9,⟨hq9,hB9⟩,hf9⟩;have hw9:=HWT.o.trans hf9;have he9:Xi lo hi w0 L9.B w9:=(by rw[hB9,hB5,C];exact HE.o.fr hw9 HH.o.lo);have Wz:=Z (Zy p L9 s9 5 0 [] [] (.slice none 0 0) (.slice none 0 0) w9 hm9 (uk.nil _) (uk.nil _) (λg hg=>U3) (λg hg=>by cases hg) (λg hg=>by cases hg) (λg hg=>WW)
     ⟨(by decide:5<12),zV,zV,zV,zV,rfl⟩ he9.fo he9.g1 J J (by simp[xE,uA,ue]))
    have HW9:=Z hw9;clear hm9 hf9 hw9 he9 O hwT;go_wp2_with fail;refine Wz.o.mono ?_;rintro e wX ⟨b9,c9,rfl,-,-,-,LX,hmX,⟨hqX,hBX⟩,hfX,-,-⟩;have HMX:=Z hmX;have HFX:=Z hfX;clear hmX hfX Wz;go_wp2;refine yU (v := .tuple #[]) ?_ rfl ?_
    .simp[yN,results98,go_sem]
    rw[HS9.o];refine⟨rfl,LX,HMX.o,⟨by rw[hqX,hq9,hq5,TN],by rw[hBX,hB9,hB5,C]⟩,HW9.o.tr HFX.o (λq hq=>?_)⟩;rcases hq with hq|hq|hq
    .exact HW9.o.fp q hq
    .cases hq
    .cases hq
section
variable (b:Nat) (t:Wd) (w:z8)
def yvf:(za (.iface 206 (zO t)) 193 206 true).run prog w = .ok (.tuple #[zO t,.bool true]) w:=xG
def pW:(za (.iface 208 (.agg #[])) 193 206 true).run prog w = .ok (.tuple #[.string ⟨#[]⟩,.bool false]) w:=xG
def yvd:(za (.iface 208 (.agg #[])) 193 208 true).run prog w = .ok (.tuple #[.agg #[],.bool true]) w:=xG
def zc8:(za (.iface 210 (b,0)) 193 206 true).run prog w = .ok (.tuple #[.string ⟨#[]⟩,.bool false]) w:=xG
def zc9:(za (.iface 210 (b,0)) 193 208 true).run prog w = .ok (.tuple #[.agg #[],.bool false]) w:=xG
def zcz:(za (.iface 213 (b,0)) 193 206 true).run prog w = .ok (.tuple #[.string ⟨#[]⟩,.bool false]) w:=xG
def zcy:(za (.iface 213 (b,0)) 193 208 true).run prog w = .ok (.tuple #[.agg #[],.bool false]) w:=xG
def yvb:(za (.iface 199 (b,0)) 193 206 true).run prog w = .ok (.tuple #[.string ⟨#[]⟩,.bool false]) w:=xG
def yu0:(za (.iface 199 (b,0)) 193 208 true).run prog w = .ok (.tuple #[.agg #[],.bool false]) w:=xG
end
def zcx(f:Fo)(ih:∀m:Fo,zH m<zH f->Rb lo hi w0 m):Rb lo hi w0 f:=by
 intro p L s w a c vs h he S O hm hw hc hl hs;obtain⟨M,hM⟩:=zw f.len;rw[hM];have hvl:vs.length=M:=(yY.count f vs O hm).trans hM;obtain⟨R,hR⟩:=zw (MkS.Zx f s);rw[hR];obtain⟨HH,HE,Yy,Gb,HM,HC,HW,HR⟩:=OH h he S O hm hc hw hR;obtain⟨HIH,iK,HL,HS⟩:=hdd ih hvl hM hs;have hL2:M<=2000000:=J;clear h he S O hm hc hw hR ih hvl hM hs hl;go_enter func50,ntmps50;go_wp2_with fail;go_loopw [13] (λiv wr=>∃i us xs r d u,iv = .int .i64 (i:Nat)/\i<=M/\yY lo hi w0 xs r/\r.ya=true/\r.YD/\r.wf 2000000=true/\us.length=i/\vs=us++xs/\i+r.len=M/\zH r<=zH f /\
  uU p u d wr/\(u.q=L.q/\u.B=L.B)/\Fr (L.has p) (u.has p) w wr/\MkS.Zx r d=R/\d.sz+r.cw<=900000) (λiv _=>M - (intOf iv).toNat)
 case atStart=>exact⟨0,[],vs,f,s,L,rfl,zJ _,Gb.o,HM.o,HC.o,HW.o,rfl,rfl,by have:=HL.o;omega,Y _,HH.o,⟨rfl,rfl⟩,Fr.refl _ _,HR.o,HS.o⟩
 case round =>
  obtain⟨i,us,xs,r,d,u,rfl,hiL,uB,hmr,hcr,EP,K0,hvs,Z9,Z0,Q9,⟨hq1,T⟩,V,DJ,Vu⟩:=hrel;have he1:Xi lo hi w0 u.B wr:=by rw[T];exact HE.o.fr V HH.o.lo
  obtain⟨HN,EL,l8,I,Pv,HUS,C,j⟩:=OH uB hmr hcr EP hvs K0 Q9 he1;obtain⟨EN,D,H,QI,ZX⟩:=G0 V DJ Vu Z9 Z0;clear uB hmr hcr EP hvs K0 Q9 he1 V DJ Vu;by_cases uh:i<M
  .obtain⟨x0,xt,IQ⟩:∃x0 xt,xs=x0::xt:=zyf;subst IQ;obtain⟨g,o,rfl,FD,Ik,E⟩:=Yy.o i (by have:=iK.o;omega);have lx:vs[i]'(by have:=iK.o;omega)=x0:=zyq;rw[lx]at E;have VK:=yM j.o.keep E FD Ik;have k1:(i:Int)<(M:Int):=J;have k2:decide ((i:Int)<(M:Int))=true:=yF;clear E lx Z9 Z0;have P:∀(x:zx) (xt:List zx) (r':Fo) (s2:MkS) (L2:XX) (w2:z8),x0=x->vs=us++x::xt->yY lo hi w0 xt r'->r'.ya=true->r'.YD->r'.wf 2000000=true->i+(r'.len+1)=M->zH r'<=zH f->uU p L2 s2 w2->(L2.q=u.q/\L2.B=u.B)->Fr (u.has p) (L2.has p) wr w2->MkS.Zx r' s2=R->s2.sz+r'.cw<=900000 ->
     ∃i' us' xs' r d u,(yZ .i64 ((i:Int)+1)) = .int .i64 (i':Nat)/\i'<=M/\yY lo hi w0 xs' r/\r.ya=true/\r.YD/\r.wf 2000000=true/\us'.length=i'/\vs=us'++xs'/\i'+r.len=M/\zH r<=zH f /\
      uU p u d w2/\(u.q=L.q/\u.B=L.B)/\Fr (L.has p) (u.has p) w w2/\MkS.Zx r d=R/\d.sz+r.cw<=900000 :=
    λx xt r' s2 L2 w2 e1 e2 e3 e4 e5 e6 e7 e8 e9 e10 e11 e12 e13=>⟨i+1,us++[x],xt,r',s2,L2,zV,J,e3,e4,e5,e6,K9,by rw[e2];simp,J,e8,e9,⟨e10.1.trans hq1,e10.2.trans T⟩,EN.o.trans e11,e12,e13⟩
   have zkd:=Z P;clear P;cases r with
   |nil =>
    have:=HN.o;cases this
   |xi k0 a0 m0 r0=>have:=EL.o;cases this
   |text t r =>
    obtain⟨vt,z,uB⟩:=HN.o;cases z;have a1:=yvf t;have DE:=Z uB;have A:=l8.o;have y:=H.o;have hso:=d.Gr 1 t (.inl rfl);simp only[Fo.cw]at y;have l:=Z (N6 p u d 1 t wr C.o (.inl rfl) A.1 J j.o.fo j.o.g1);clear uB A;go_wp2_with fail;refine l.o.mono ?_;rintro e w2 ⟨rfl,L2,Jz,KO,ZL⟩;have EI:=Z Jz;have Va:=Z ZL;clear Jz ZL l;go_wp2;go_roundw
    case rel=>exact zkd.o _ _ r (d.one 1 t) L2 w2 rfl Pv.o DE.o EL.o l8.o.2 I.o QI.o GH EI.o KO Va.o D.o J
    case measure=>simp only[intOf];omega
   |hash r =>
    obtain⟨vt,z,uB⟩:=HN.o;cases z;have a1:=pW;have a2:=yvd;have DE:=Z uB;have y:=H.o;simp only[Fo.cw]at y;have va8:=y;unfold MkS.sz at va8;have Q:Fr yH yH wr (wr.alloc (.cells #[] 208)):=(Fr.refl _ _).alloc _;have hx:(xE ⟨6,d.pos,0,[],[]⟩).length=1:=Iq;have oE:=gh d 6 0 [] [];have U:=j.o.fr Q (λ_ q=>q.elim);have Wz:=Z (Zy p u d 6 0 [] [] (.slice none 0 0) (.slice none 0 0) (wr.alloc (.cells #[] 208)) (C.o.fr Q (λ_ q=>q.elim)) (uk.nil _) (uk.nil _) (λg hg=>U3) (λg hg=>by cases hg) (λg hg=>by cases hg) (λg hg=>WW)
     ⟨(by decide:6<12),zV,zV,zV,zV,rfl⟩ U.fo U.g1 J J (by rw[hx];omega))
    have HFA:=Z Q;clear uB Q U;go_wp2_with fail;refine Wz.o.mono ?_;rintro e w2 ⟨b9,c9,rfl,-,-,-,L2,Jz,KO,ZL,-,-⟩;have EI:=Z Jz;have Va:=Z (show Fr (u.has p) (L2.has p) wr w2 from(HFA.o.wide (λ_ q=>q.elim)).tr ZL (λq W=>by
     rcases W with W|W|W
     .exact .inl W
     .cases W
     .cases W))
    clear Jz ZL Wz;go_wp2;go_roundw
    case rel=>exact zkd.o _ _ r (d.put 6 0 [] []) L2 w2 rfl Pv.o DE.o EL.o l8.o I.o QI.o GH EI.o KO Va.o D.o J
    case measure=>simp only[intOf];omega
   |put n a r =>
    obtain⟨vt,b0,z,F,G,K,-,uB⟩:=HN.o;cases z;have EM:=yM j.o.keep K F G;have a1:=zc8 b0;have a2:=zc9 b0;have a3:=Kv b0;have DE:=Z uB;have A:=l8.o;have y:=H.o;have hso:=d.Gr 2 n J;simp only[Fo.cw]at y;have Bd:(decide (n.length<=4000001) && r.wf 2000000)=true:=I.o;simp only[zv,decide_eq_true_eq]at Bd;have HWQ:=Z Bd.2;have l:=Z (N6 p u d 2 n wr C.o J (by have:=A.1;omega) J j.o.fo j.o.g1);clear uB A K Bd;go_wp2_with fail;refine l.o.mono ?_;rintro e w2 ⟨rfl,L2,Jz,KO,ZL⟩;have EI:=Z Jz;have Va:=Z ZL;clear Jz ZL l;go_wp2;go_roundw
    case rel=>exact zkd.o _ _ r (d.one 2 n) L2 w2 rfl Pv.o DE.o EL.o l8.o.2 HWQ.o QI.o GH EI.o KO Va.o D.o J
    case measure=>simp only[intOf];omega
   |num n a r =>
    obtain⟨vt,b0,z,F,G,K,-,uB⟩:=HN.o;cases z;have EM:=yM j.o.keep K F G;have a1:=zcz b0;have a2:=zcy b0;have a3:=Ku b0;have a4:=XW b0;have DE:=Z uB;have A:=l8.o;have y:=H.o;have hso:=d.Gr 3 n J;simp only[Fo.cw]at y;have Bd:(decide (n.length<=4000001) && r.wf 2000000)=true:=I.o;simp only[zv,decide_eq_true_eq]at Bd;have HWQ:=Z Bd.2;have l:=Z (N6 p u d 3 n wr C.o J (by have:=A.1;omega) J j.o.fo j.o.g1);clear uB A K Bd;go_wp2_with fail;refine l.o.mono ?_;rintro e w2 ⟨rfl,L2,Jz,KO,ZL⟩;have EI:=Z Jz;have Va:=Z ZL;clear Jz ZL l;go_wp2;go_roundw
    case rel=>exact zkd.o _ _ r (d.one 3 n) L2 w2 rfl Pv.o DE.o EL.o l8.o.2 HWQ.o QI.o GH EI.o KO Va.o D.o J
    case measure=>simp only[intOf];omega
   |br n a fo of cl bs r =>
    obtain⟨vt,b0,ba,bc,ws,z,F,G,hd0,Tw,Ec,hd3,hd4,hd5,Bf,Dz,uB⟩:=HN.o;cases z;have hh2:=yM j.o.keep Ec F G;have a1:=yvb b0;have a2:=yu0 b0;have a3:=Gi b0;have a4:=Qj b0;have a5:=Uj b0;have DE:=Z uB;have D9:yY lo hi w0 [.iface 199 (b0,0)] (.br n a fo of cl bs .nil):=⟨[],b0,ba,bc,ws,rfl,F,G,hd0,Tw,Ec,hd3,hd4,hd5,Bf,Dz,rfl⟩;obtain⟨k1',k2',k3',k4',k5',k6',k7',k8'⟩:=l8.o;have hck:(Fo.br n a fo of cl bs .nil).YD:=⟨k1',k2',k3',k4',k5',k6',k7',trivial⟩;have Bd:(decide (n.length<=4000001) && decide (fo<3) && bs.xm && decide (bs.len<=2000000) && bs.wf 2000000 && r.wf 2000000)=true:=I.o;have hwk:(Fo.br n a fo of cl bs .nil).wf 2000000=true:=by
     simp only[zv]at Bd;simp only[Fo.wf,zv];exact⟨Bd.1,trivial⟩
    simp only[zv,decide_eq_true_eq]at Bd;have HWQ:=Z Bd.2;have y:=H.o;simp only[Fo.cw]at y;have hih:∀m:Fo,zH m<zH bs->Rb lo hi w0 m:=λm hm=>HIH.o m GH
    by_cases N:fo=0
    .have kf:((fo:Int)==0)=true:=(by simp[N]);have Gf:=Z (show MkS.Zx r (D7 bs (MkS.bO n bs d) (MkS.ki n bs d))=R by
      have:=D.o;unfold MkS.Zx at this|-;rw[MkS.uw,yK N]at this;exact this)
     have hzb:(D7 bs (MkS.bO n bs d) (MkS.ki n bs d)).sz+r.cw<=900000:=by
      obtain⟨-,q⟩:=MkS.go_le bs (MkS.bO n bs d) (MkS.ki n bs d) [] (λk x=>MkS.N7 n bs d k x);have:=(MkS.Ny n bs d).2;exact WJ
     subst N;have HBR:=Z (Nu b0 n a of cl bs p u d wr hih C.o j.o D9 hck hwk J);exact zkf
    .have kf:((fo:Int)==0)=false:=(by simp;omega);have Gf:=Z (show MkS.Zx r ((D7 bs (MkS.kV n of bs d) (MkS.kU n of fo bs d)).put 5 0 [] [])=R by
      have:=D.o;unfold MkS.Zx at this|-;rw[MkS.uw,yv N]at this;exact this)
     have hzb:((D7 bs (MkS.kV n of bs d) (MkS.kU n of fo bs d)).put 5 0 [] []).sz+r.cw<=900000:=by
      obtain⟨-,q⟩:=MkS.go_le bs (MkS.kV n of bs d) (MkS.kU n of fo bs d) [] (λk x=>MkS.N8 n of bs d k x);have:=(MkS.Nx n of fo bs d).2;have hx:∀p,(xE ⟨5,p,0,[],[]⟩).length=1:=λp=>Iq
      rw[gh,hx];exact WJ
     have HBR:=Z (aI b0 n a fo of cl bs p u d wr hih C.o j.o N D9 hck hwk J);exact zkf
  .have kL:r = .nil:=by
    have:=QI.o;have:=EL.o;cases r with
    |nil=>rfl
    |xi k a m r=>cases this
    |_=>simp only[Fo.len]at *;omega
   have HX:=Z (show d=R by rw[<-D.o,kL];rfl);have k1:¬(i:Int)<(M:Int):=J;have k2:decide ((i:Int)<(M:Int))=false:=yF;clear kL;go_wp2;refine yU (v := .tuple #[]) ?_ rfl ?_
   .simp[yN,results50,go_sem]
   rw[<-HX.o];exact⟨rfl,u,C.o,⟨hq1,T⟩,EN.o⟩
def yu1:∀f:Fo,Rb lo hi w0 f:=by
 have key:∀n (f:Fo),zH f<n->Rb lo hi w0 f:=by
  intro n;induction n with
  |zero=>intro f h;omega
  |succ n a=>intro f h;exact zcx f (λm hm=>a m J)
 intro f;exact key _ f (dK _)
variable{m n:Nat}{w':z8}
def jS(w:z8)(b n:Nat)(f:Nat->Option Nat):Prop :=
 ∃D:ib Unit,w.ownsMap prog 3 (plainElem prog 3) b n D/\∀m:Nat,Maps.has D (.int .i64 (m:Int))=(f m).isSome/\D.atKey (.int .i64 (m:Int)) (.lit (.int .i64 0)) = .lit (.int .i64 (((f m).getD 0:Nat):Int))
def jS.lt{b:Nat}{f:Nat->Option Nat}(h:jS w b n f):b<(w:Nat):=iL
def jS.keep{b:Nat}{f:Nat->Option Nat}(h:jS w b n f)(hb:w'.heap[b]? = w.heap[b]?):jS w' b n f:=zx3
def jS.made(w:z8):jS (w.alloc (.map #[] 0)) (w:Nat) 0 (λ_=>none):=⟨.map [],Hh w _ _ _,λm=>⟨rfl,rfl⟩⟩
def aL(hm:m<=4000000000):(Lit.int .i64 (m:Int)).wf=true:=zx5
def jS.look{b:Nat}{f:Nat->Option Nat}(h:jS w b n f)(m:Nat)(hm:m<=4000000000) :
  (Jr 82 (.map (some b)) (m:Int) true).run prog w = .ok (.tuple #[(((f m).getD 0:Nat):Int),.bool (f m).isSome]) w:=by
 obtain⟨D,h1,h3⟩:=h;obtain⟨v,ps,bu,hv⟩:=h1.look_ok (vz2 underlying3) underlying82 (z := .int .i64 0) K1 (bG underlying3 zW)
  (key := .int .i64 (m:Int)) (yev underlying3 (aL hm))
 rw[(h3 m).1]at bu;rw[(h3 m).2]at hv;obtain⟨c,rfl,hc,_⟩:=plainElem_int_inv underlying3 hv;simp only[Ht,EW,yzq]at hc;rw[bu,<-hc.1.2]
def jS.put{b:Nat}{f:Nat->Option Nat}(h:jS w b n f)(m:Nat)(hm:m<=4000000000)(k:Nat)(hk:k<=4000000000)(hn:n<=1000000000) :
  ∃w',(TJ 82 (.map (some b)) (.int .i64 (m:Int)) (.int .i64 (k:Int))).run prog w = .ok () w'/\jS w' b (n+1) (λx=>if m=x then some k else f x)/\w.grownBy w' (some b):=by
 obtain⟨D,h1,h3⟩:=h;have hi:=h1.isMap;obtain⟨w',bu,uW,hg⟩:=h1.update (vz2 underlying3) underlying82 (by unfold vp;omega) (key := .int .i64 (m:Int)) (yev underlying3 (aL hm))
  (bG underlying3 (q := .i64) (a:=(k:Int)) (aL hk))
 refine⟨w',bu,⟨_,uW,λx=>?_⟩,hg⟩;by_cases hx:m=x
 .subst hx;simp only[↓reduceIte];exact⟨by rw[Qi hi (show kF (.int .i64 (m:Int))from trivial)];simp,by rw[Uo hi (show kF (.int .i64 (m:Int))from trivial)];simp⟩
 .simp only[hx,↓reduceIte];have gN:(Lit.int .i64 (x:Int)) ≠ .int .i64 (m:Int):=λq=>hx (by cases q;rfl)
  exact⟨by rw[OU gN];exact(h3 x).1,by rw[dc gN];exact(h3 x).2⟩
def qp(code:List uF):Nat->Nat->Option Nat
 | 0,_=>none
 |k+1,x=>if (code[k]?.map (·.pos))=some x then some k else qp code k x
def pA(t:xM)(k e:xM)(a:prog.underlying t=some (.map k e))(n:Nat)(w:z8):(yeu t (some (.int .i64 (n:Int)))).run prog w = .ok (.map (some (w:Nat))) (w.alloc (.map #[] 0)):=by
 simp[yeu,kJ a,asInt,go_sem]
def va9(p:Nat)(L:XX)(s:MkS)(w:z8)(e:xX)(w':z8):Prop :=
 e = .returned (.tuple #[])/\∃mb,(w:Nat)<=mb/\zk w' L.q 0 L.vC/\zk w' L.q 1 L.vI/\zk w' L.q 2 (.map (some mb))/\jS w' mb s.code.length (qp s.code s.code.length)/\Fr (λg=>g=L.q) (λg=>g=L.q\/g=mb) w w'
def pw(p:Nat)(L:XX)(s:MkS)(w:z8)(h:uU p L s w)(hl:s.code.length<=1000000)(hp:∀x∈s.code,x.pos<=4000000000) :
  zE prog 52 #[(L.q,0)] w (va9 p L s w):=by
 have V:=Z h;have HP:=Z hp;obtain⟨ia,ic,l⟩:=zo h.cI;obtain⟨n,hn⟩:=zw s.code.length;have q1:=h.q1;rw[l,hn]at q1;have S:=λo=>yu q1 o
 have q2:=h.q2;have T:=λo=>yu q2 o
 have lq:=uO h.tq;have U:∀o j,(w.alloc o).frozen? ⟨L.q,j,none⟩=false:=λo j=>(zU (xQ _ _ _ lq)).trans (h.zq j)
 have N:=pA 82 _ _ underlying82 n;obtain⟨A,hA⟩:=zw ((w.alloc (.map #[] 0)).setCell (zQ L.q 2) (.map (some (w:Nat))));have fA:Fr (λg=>g=L.q) (λg=>g=L.q) w A:=by rw[<-hA];exact((Fr.refl _ _).alloc _).set _ (.inl rfl)
 have a0:zk A L.q 0 L.vC:=by rw[<-hA,zr,yv zV];exact yu h.q0 _
 have a1:zk A L.q 1 L.vI:=by rw[<-hA,zr,yv zV];exact yu h.q1 _
 have a2:zk A L.q 2 (.map (some (w:Nat))):=by rw[<-hA];exact xq (yu h.q2 _) _
 have M:jS A (w:Nat) 0 (λ_=>none):=by
  rw[<-hA];exact(jS.made w).keep (yX _ _ _ _ (by show (w:Nat)≠L.q;omega))
 have m:w.ownsRow 0 87 5 L.vI n (dN s.code L.rs):=by rw[<-hn];exact h.cI
 obtain⟨mb,c⟩:=zw (w:Nat);have u:=Z m;have pj:n<=1000000:=by rw[<-hn];exact hl
 have HN:=Z hn;have H:=Z fA;have t:=Z l;have nI:∀g,zM L.vI g->g≠L.q:=λg C=>(h.nI C).2.1
 have R:∀g,zM L.vI g->g<mb:=λg C=>by rw[<-c];exact ug h.cI C
 rw[l,hn]at a1;rw[c]at a2 M;clear h hp fA m hn l;go_enter func52,ntmps52;go_wp2_with fail;have z:(w.alloc (.map #[] 0)).setCell (zQ L.q 2) (.map (some mb))=A:=by rw[<-c];exact hA
 rw[z];have i:=Z c;clear hA z c q1 S q2 T U N;go_loopw [17] (λkv wr=>∃k,kv = .int .i64 (k:Nat)/\k<=n/\jS wr mb k (qp s.code k)/\Fr (λg=>g=L.q) (λg=>g=L.q\/g=mb) w wr/\zk wr L.q 0 L.vC/\zk wr L.q 1 (.slice ia n ic)/\zk wr L.q 2 (.map (some mb))) (λkv _=>n - (intOf kv).toNat)
 case atStart=>exact⟨0,rfl,zJ _,M,H.o.tg (λg C=>C.elim .inl (λe => .inr (by rw[e,i.o];exact Y _))),a0,a1,a2⟩
 case round =>
  clear M a0 a1 a2;obtain⟨k,rfl,hk,d,hf,c0,c1,c2⟩:=hrel;have HF:=Z hf;by_cases uh:k<n
  .obtain⟨x,hx⟩:∃x,s.code[k]? = some x:=⟨_,zj Vv⟩;obtain⟨r,hr⟩:∃r,L.rs[k]? = some r:=⟨_,zj (by have:=V.o.rows.len;have:=HN.o;omega)⟩;obtain⟨I,ic2,hv,-,hI,B⟩:=xY u.o J;have P:ia=some ⟨I,0,none⟩:=(by have:=t.o;rw[hv]at this;cases this;rfl);subst P;have rI:zM L.vI I:=(by rw[t.o];rfl);have d1:zk w I (k*5+1) x.pos:=by
    rw[B _ J,Jx _ _ V.o.rows.len k 1 x r hx hr J];rfl
   have d2:=hf.cell d1 (nI I rI);have Q:=HP.o x (ze hx);obtain⟨w2,F,f,b⟩:=(d.keep (w':=wr.drew) rfl).put x.pos Q k J J;have E:(λy=>if x.pos=y then some k else qp s.code k y)=qp s.code (k+1):=by
    funext y;simp only[qp,hx,Y8,vr]
   rw[E]at f;have a:Fr (λg=>g=mb) (λg=>g=mb) wr w2:=(show Fr (λg=>g=mb) (λg=>g=mb) wr.drew w2 from⟨b.os,b.tape,b.output,b.size,λk hk hn=>b.block k hk (λe=>hn (zL e)),λ_ q => .inl q⟩).und;have O:L.q≠mb:=(by have:=i.o;omega);have K:=Z f;have G:=Z (hf.over a (by rintro g rfl;exact .inr (by rw[i.o];exact Y _)));have e0:=a.cell c0 O;have W:=a.cell c1 O;have e2:=a.cell c2 O;have d3:=a.cell d2 (show I≠mb by have:=R I rI;omega);have k3:(k:Int)<(n:Int):=J;have k4:decide ((k:Int)<(n:Int))=true:=yF;clear hf d f b a B hx hr hv d1;go_wp2_with fail;refine Vy (λW':z8=>zk W' L.q 1 (.slice (zQ I 0) n ic)/\zk W' L.q 2 (.map (some mb))/\zk W' I (k*5+1) x.pos) (xH 13) 1 ⟨c1,c2,d2⟩ ?_;refine gU 13 (λJk hJ=>?_);go_simp;refine hJ.out _ _ ⟨W,e2,d3⟩ λ_=>?_
   clear hJ Jk;refine Y5 ?_ _;clear F;go_wp2;go_roundw
   case rel=>exact⟨k+1,uN,J,K.o,G.o,e0,W,e2⟩
   case measure=>simp only[intOf];omega
  .have D:k=n:=(by omega);have HK:=Z (show jS wr mb s.code.length (qp s.code s.code.length)by rw[HN.o];rw[D]at d;exact d);have k3:¬(k:Int)<(n:Int):=J;have k4:decide ((k:Int)<(n:Int))=false:=yF;clear hf d D;go_wp2;refine yU (v := .tuple #[]) ?_ rfl ?_
   .simp[yN,results52,go_sem]
   exact⟨rfl,mb,by rw[i.o];exact Y _,c0,by rw[t.o,HN.o];exact c1,c2,HK.o,HF.o⟩
variable{xs:List zx}{cap:Nat}{e:xM}{v:zx}
def QP(c:UInt8):Nat:=if 97<=c.toNat/\c.toNat<=122 then 1 else if 48<=c.toNat/\c.toNat<=57 then 2 else if c.toNat=32 then 3 else 0
def C4(l:List UInt8):Bool:=uY l && (decide (l.length<=9) && (decide (l.length=1) ||decide (l.headD 0≠48)))
def Zv(l:List UInt8):Nat:=l.foldl (λv c=>10*v+(c.toNat - 48)) 0
def IL(l:List UInt8)(c:UInt8):Zv (l++[c])=10*Zv l+(c.toNat - 48):=by simp[Zv]
def mg:∀(l:List UInt8),l.all yC=true->Zv l<10 ^ l.length:=by
 intro l;induction hn:l.length generalizing l with
 |zero=>intro _;have:=zN hn;subst this;simp[Zv]
 |succ n d =>
  intro h;have a:l≠[]:=λq=>by rw[q]at hn;cases hn
  obtain⟨t,c,rfl⟩:∃t c,l=t++[c]:=⟨l.dropLast,l.getLast a,WQ⟩;rw[uJ,zv]at h;have hc:yC c=true:=by simpa using h.2
  have hd:=(vy c).1 hc;have b:t.length=n:=by simpa using hn
  have:=d t b h.1;rw[IL,fC];omega
def Xm(w:z8)(v:zx)(ws:List (List UInt8)):Prop:=∃a cap,v = .slice a ws.length cap/\ws.length<=cap/\cap<=vp/\(a=none->cap=0)/\∀j (h:j<ws.length),∃b,a=some b/\w.cell? (b.add j)=some (zO ws[j])
def Xm.below{ws:List (List UInt8)}(h:Xm w v ws)(hb:zR w w'):Xm w' v ws:=by
 obtain⟨a,cap,hv,f,hm,h0,hc⟩:=h;refine⟨a,cap,hv,f,hm,h0,λj e=>?_⟩;obtain⟨b,d,c⟩:=hc j e;refine⟨b,d,?_⟩;rw[hb.cell (X w _ c)];exact c
def MG{base:Nat}{g:Nat}(h:w.ownsRow base e 1 (.slice (g,0) n cap) n xs)(j:Nat)(k:j<n)(u:zx) :
  (w.setCell (g,j) u).ownsRow base e 1 (.slice (g,0) n cap) n (xs.set j u):=by
 have hx:xs.length=n:=by have:=h.1;simpa using this
 refine⟨by simp[hx],?_⟩;rcases h.2 with⟨hv,_⟩|⟨g2,b,a,hv,d,f,h1,h2,c,i⟩
 .cases hv
 .simp only[gX,vr,YS]at hv;obtain⟨⟨rfl,-⟩,-,rfl⟩:=hv;refine .inr ⟨g,cap,a.setIfInBounds j u,rfl,d,?_,h1,h2,by simpa using c,?_⟩
  .simp[xu,xc,f]
  .rw[Array.toList_setIfInBounds,<-i,List.take_set]

def yc0(out:List (List UInt8))(c:UInt8):List (List UInt8):=out.set (out.length - 1) (out.getD (out.length - 1) []++[c])
def Xn:List UInt8->List (List UInt8)->Nat->Option (List (List UInt8))
 |[],out,_=>some out
 |c::t,out,last =>
  if QP c=3 then Xn t out 3
  else if 0<QP c/\QP c=last then Xn t (yc0 out c) (QP c)
  else if 0<QP c\/c=61\/c=44\/c=37 then Xn t (out++[[c]]) (QP c)
  else match t with
   |[]=>none
   |d::t2=>if (c=33/\d=61)\/(c=46/\d=46)then Xn t2 (out++[[c,d]]) 0 else none
def go_join{c:UInt8}{t out last}(a:QP c≠3)(h:0<QP c/\QP c=last):Xn (c::t) out last=Xn t (yc0 out c) (QP c):=by rw[Xn.eq_def];dsimp only;rw[yv a,yK h]
variable{k:Nat}
def xI:Yz prog 34 5 (.int .u8 0) 1 1 :=
 ⟨underlying34,V9 yg,rfl,zW,zW⟩
def vu(l:List UInt8):List zx:=l.map λc => .int .u8 ((c.toNat:Int) - 48)
def aN(l:List UInt8)(w:z8)(e:xX)(w':z8):Prop :=
 (if l.all yC then ∃v,e = .returned (.tuple #[v,.bool true])/\w'.ownsRow (w:Nat) 5 1 v l.length (vu l)else e = .returned (.tuple #[.slice none 0 0,.bool false]))/\zR w w'
def r6(c:UInt8)(h:yC c=true):Vz.wrap ((c.toNat:Int) - 48)=(c.toNat:Int) - 48/\(c.toNat:Int) - 48<=9:=by
 have:=(vy _).1 h;refine⟨?_,J⟩;simp only[yf9,EU,OQ];simp;omega
def zcv(c:UInt8)(h:yC c=false):9<((c.toNat:Int) - 48) % 256:=by
 have:=(On _).1 h;have:=c.toNat_lt;omega
def aO(s:ByteArray)(w:z8)(hs:s.size<=1000000) :
  zE prog 68 #[.string s] w (aN s.data.toList w):=by
 have hcv:=λw s=>run_bytes_of_string (P:=prog) w 9 34 5 s underlying9 underlying34 underlying5
 obtain⟨i,hi,Q,h2,L⟩:=xI.info;go_enter func68,ntmps68;go_wp2_with (refine wpList_make_own _ rfl _ _ _ rfl (w:Nat) _ i _ 1 xI.under hi Q h2 .i64 .i64 _ s.size rfl rfl ?c1 ?c2 ?c3 zV ?_)
 case c1=>first|rfl|simp
 case c2=>rw[L];omega
 case c3=>unfold vp;omega
 intro w1 c t;go_wp2;refine Gu ?_;intro wc e;have M:(wc:Nat)=(w1:Nat)+1:=by rw[e];simp
 have h:zR w w1:=(zu _ _).grown t (Y _) zV;have A:zR w wc:=by rw[e];exact(qs h).alloc h.size _
 have a:∀j (x:j<s.size),zk wc (w1:Nat) j (.int .u8 (s[j].toNat:Int)):=by
  intro j x;rw[e];have:=bytesRow_at s (wV w1 s.size 0 5) j x;show(w1.alloc _).cell? _=_;rw[zZ];exact this
 have p:wc.ownsRow (w:Nat) 5 1 (ux (zQ (w:Nat) 0) 0 s.size) 0 []:=by rw[e];exact(FG c).alloc _
 have N:=h.size;have G:=(c.lt (w:Nat) rfl).2;clear e c t;go_loopw [4,14] (λv i wr=>∃k:Nat,k<=s.size/\i = .int .i64 k/\v = .slice (w,0) k s.size/\wr.ownsRow (w:Nat) 5 1 v k (vu (s.data.toList.take k))/\zR w wr/\(s.data.toList.take k).all yC=true/\((w1:Nat)<wr.heap.size)/\∀j (x:j<s.size),zk wr (w1:Nat) j (.int .u8 (s[j].toNat:Int))) (λ_ i _=>s.size - (intOf i).toNat)
 case atStart=>exact⟨0,J,rfl,rfl,by simpa[vu]using p,A,zV,J,a⟩
 case round =>
  obtain⟨k,R,rfl,hv,d,hb,F,D,a⟩:=hrel;have z:=Z F;have E:=Z hv;clear F hv;by_cases f:k<s.size
  .have hc:=a k f;by_cases hd:yC s[k]=true
   .obtain⟨hy,O⟩:=r6 _ hd;have I:=Z hd;clear hd;have m:wr.ownsRow (w:Nat) 5 1 (.slice (zQ (w:Nat) 0) k s.size) k (vu (s.data.toList.take k)):=(by rw[<-E.o];exact d);go_wp2_with (at_builtin;refine wpList_append_own_spare _ rfl _ _ _ rfl (w:Nat) _ i 1 xI.under hi h2 (w:Nat) k s.size (vu (s.data.toList.take k)) E.o (m.alloc _) ⟨(wr:Nat),0,none⟩ 1 1 [.int .u8 ((s[k].toNat:Int) - 48)] rfl rfl ?c1 ?c2 ?c3 ?_)
    case c1=>exact cells_one zV
    case c2=>intro u H;simp at H;subst H;rfl
    case c3=>omega
    intro w2 n b;have C:=b.size;have r:=zy2 z.o I.o;rw[<-I4 s k f]at r;have K:=Z r;clear r;go_wp2;go_roundw
    case rel =>
     refine⟨k+1,J,uN,rfl,?_,((hb.alloc hb.size _).grown b Z1 (λq hq=>AG)),K.o,?_,?_⟩
     .rw[I4 s k f];simpa[vu]using n
     .simp at C;omega
     .intro j x;refine b.cell ?_ yF;rw[zc _ _ _ D];exact a j x
    case measure=>simp[intOf];omega
   .have l:yC s[k]=false:=(by simpa using hd);have hn:=zcv _ l;have g:s.data.toList.all yC=false:=LO s k f l;have HF:=Z g;clear g hd l;go_wp2;go_ret2
    refine⟨gJ,hb⟩
  .have B:k=s.size:=(by omega);subst B;have y:=z.o;rw[Dm]at y;rw[Dm]at d;have HF:=Z y;clear y z;go_wp2;go_ret2
   refine⟨?_,hb⟩;rw[yK HF.o,vL];exact⟨_,rfl,d⟩
def RU(d:Int)(w:z8):zE prog 118 #[.int .u8 d] w λe w'=>e = .returned (.bool (d !=0))/\w=w':=by
 go_enter func118,ntmps118;exact B0
def yry{l:List Int}(h:k<l.length)(hn:(l[k] !=0)=true):l.any (· != 0)=true:=List.any_eq_true.2 ⟨l[k],yf h,hn⟩
def zcu{l:List Int}(h:k<l.length)(a:(l.take k).any (· != 0)=false)(hn:(l[k] !=0)=false):(l.take (k+1)).any (· != 0)=false:=by
 rw[yj h,List.any_append,a];simpa using hn
def yJ(w:z8)(a:Option yI)(l:List Int):Prop:=∀j (h:j<l.length),∃b,a=some b/\w.cell? (b.add j)=some (.int .u8 l[j])
def yJ.alloc{a:Option yI}{l:List Int}(h:yJ w a l)(o:Obj):yJ (w.alloc o) a l:=λj c=>by
 obtain⟨b,hb,hc⟩:=h j c;refine⟨b,hb,?_⟩;exact AN
def RQ(l:List Int)(a:Option yI)(c:Nat)(w:z8)(q:l.length<=1000000)(hc:yJ w a l) :
  zE prog 156 #[.slice a l.length c,.func (.func 118) #[] #[]] w λe w'=>(∃n:Int,e = .returned n/\decide (0<=n)=l.any (· != 0))/\w=w':=by
 go_enter func156,ntmps156;go_wp2;go_loop [8] (λi=>∃k:Nat,k<=l.length/\i = .int .i64 k/\(l.take k).any (· != 0)=false) (λi=>l.length - (intOf i).toNat)
 case atStart=>exact⟨0,J,rfl,zV⟩
 case round =>
  obtain⟨k,p,rfl,f⟩:=hrel;have g:=Z f;clear f;by_cases d:k<l.length
  .obtain⟨b,rfl,h⟩:=hc k d;go_wp2_with fail;refine(RU _ _).mono ?_;rintro e w' ⟨rfl,rfl⟩;by_cases hn:(l[k] !=0)=true
   .have HF:=Z (yry d hn);go_wp2;go_ret;exact⟨⟨_,rfl,by rw[HF.o];simp⟩,rfl⟩
   .have m:(l[k] !=0)=false:=(by simpa using hn);have HF:=Z (zcu d g.o m);clear hn;exact zfx
  .have j:k=l.length:=(by omega);subst j;have f:=g.o;rw[YP]at f;have HF:=Z f;clear f g;go_wp2;go_ret;exact⟨⟨_,rfl,gJ⟩,rfl⟩
def UJ(l:List Int)(a:Option yI)(c:Nat)(w:z8)(b:l.length<=1000000)(hc:yJ w a l) :
  zE prog 117 #[.slice a l.length c,.func (.func 118) #[] #[]] w λe w'=>e = .returned (.bool (l.any (· != 0)))/\w=w':=by
 go_enter func117,ntmps117;go_wp2_with fail;refine(RQ l a c w b hc).mono ?_;rintro e w' ⟨⟨n,rfl,hn⟩,rfl⟩;go_wp2;go_ret;exact⟨rfl,rfl⟩
def zcq(l:List Int)(a:Option yI)(c:Nat)(b:Bool)(sc:Int)(w:z8)(d:l.length<=1000000)(hc:yJ w a l) :
  zE prog 69 #[.agg #[.bool b,.slice a l.length c,sc]] w λe w'=>e = .returned (.bool (!l.any (· != 0)))/\zR w w':=by
 go_enter func69,ntmps69;go_wp2_with fail;refine(UJ l a c _ d (hc.alloc _)).mono ?_;rintro e w' ⟨rfl,rfl⟩;go_wp2;go_ret;exact⟨rfl,(zu _ _).alloc (Y _) _⟩
variable{vs:List zx}{u v':zx}{w1:z8}
def r7(s:ByteArray):s.toList=s.data.toList:=by
 exact Di s
def mf(w0 w:z8)(base:Nat)(v:zx)(ps:List (List (List UInt8))):Prop :=
 ∃vs:List zx,w.ownsRow base 22 1 v ps.length vs/\∀j (h:j<ps.length),∃u,vs[j]? = some u/\Xm w0 u ps[j]
def add_add(a:yI)(i j:Nat):(a.add i).add j=a.add (i+j):=by
 unfold fG;by_cases hi:i=0
 .subst hi;simp
 .by_cases b:j=0
  .subst b;simp
  .simp[hi,b,uR]
def mf.more{wr:z8}{base:Nat}{acc:List (List (List UInt8))}{p:List (List UInt8)}(b:vs.length=acc.length)
  (hp:∀j (h:j<acc.length),∃u,vs[j]? = some u/\Xm w u acc[j]) (ho:w1.ownsRow base 22 1 v' (acc.length+1) (vs++[u])) (c:Xm w u p):mf w w1 base v' (acc++[p]):=by
 refine⟨vs++[u],Bz,λj h=>?_⟩;by_cases a:j<acc.length
 .obtain⟨x,hx,hs⟩:=hp j a;exact⟨x,by rw[zi J];exact hx,by rw[VR a];exact hs⟩
 .have e:j=acc.length:=by simp at h;omega
  subst e;refine⟨u,by rw[yp J,b];simp,?_⟩;rw[Te J];simpa using c
def cmpL(a b:List UInt8):Int:=if a.length<b.length\/(a.length=b.length/\bH a b=true)then -1 else if a=b then 0 else 1
variable{l:List UInt8}
def UG(l:List UInt8)(m:Nat):Nat:=l.foldl (λr c=>(10*r+(c.toNat - 48)) % m) 0
def C5(l:List UInt8)(c:UInt8)(m:Nat):UG (l++[c]) m=(10*UG l m+(c.toNat - 48)) % m:=by simp[UG]
def zck(l:List UInt8)(m:Nat)(hm:0<m):UG l m<m:=by
 by_cases h:l=[]
 .subst h;exact hm
 .obtain⟨t,c,rfl⟩:∃t c,l=t++[c]:=⟨l.dropLast,l.getLast h,WQ⟩;rw[C5];exact xu3 _ hm
def stripL:List UInt8->List UInt8
 |c::d::t=>if c=48 then stripL (d::t)else c::d::t
 |l=>l
def gZ(l:List UInt8):List UInt8:=if l=[]then [48]else stripL l
def aP{c:UInt8}(h:l≠[])(hc:c=48):stripL (c::l)=stripL l:=by
 cases l with
 |nil=>exact absurd rfl h
 |cons d t=>rw[stripL,yK hc]
def aR{c:UInt8}(hc:¬c=48):stripL (c::l)=c::l:=by
 cases l with
 |nil=>rfl
 |cons d t=>rw[stripL,yv hc]
def uP(l:List UInt8):List UInt8:=(l.reverse.dropWhile (· == 48)).reverse
def short_zero(l:List UInt8):uP (l++[48])=uP l:=by simp[uP]
def aS(l:List UInt8)(c:UInt8)(h:¬c=48):uP (l++[c])=l++[c]:=by
 have:(c==48)=false:=QH;simp[uP,this]



end Go.Proofs.YtpggmjffejgakaaGreatDoor
namespace Go.Proofs.YtpggmjffejgakaaGreatDoor
open Go
set_option maxRecDepth 10000
abbrev Dg:=List UInt8×List UInt8
def brk(f:Wd):Bool:=f.any (· != 48)
def AU(w:Wd):Bool:=w==[109,111,100] ||w==[37]
abbrev gy:=Dg->Bool
def X1(w:Wd)(ws:List Wd):Bool:=ws.head? == some w
def gF:List Wd->Option (Nat×List Wd)
 |[]=>none
 |w::t=>if C4 w=true then some (Zv w,t)else none
def Gh(x:Dg)(v:Nat):Int :=
 if cmpL x.1 (xU v)<0 then -1 else if 0<cmpL x.1 (xU v)\/brk x.2=true then 1 else 0
def fQ(a b:Nat)(broken:Bool):gy:=λx=>decide (0<=Gh x a) && (decide (Gh x b<=0) && (broken || !(brk x.2)))
def QR(ws:List Wd):Option ((Nat×Nat)×List Wd) :=
 match gF ws with
 |none=>none
 |some (a,t) =>
  if X1 [46,46] t then
   match gF t.tail with
   |none=>none
   |some (b,u)=>if b<a then none else some ((a,b),u)
  else some ((a,a),t)
def qi(within:Bool):Nat->List gy->List Wd->Option (List gy×List Wd)
 | 0,_,_=>none
 |n+1,acc,ws=>match QR ws with
  |none=>none
  |some (q,t)=>if X1 [44] t then qi within n (acc++[fQ q.1 q.2 within]) t.tail else some (acc++[fQ q.1 q.2 within],t)
def Zn(l:List gy):gy:=λx=>l.any (λt=>t x)
def allT(l:List gy):gy:=λx=>l.all (λt=>t x)
abbrev Parser:=List Wd->Option (gy×List Wd)
def gx(within:Bool):Parser:=λws=>(qi within (ws.length+1) [] ws).map λq=>(Zn q.1,q.2)
def qy(ws:List Wd):Option ((gy×Bool)×List Wd) :=
 if X1 [61] ws then (gx false ws.tail).map λq=>((q.1,false),q.2)
 else if X1 [33,61] ws then (gx false ws.tail).map λq=>((q.1,true),q.2)
 else if X1 [105,115] ws then
  (gF (if X1 [110,111,116] ws.tail then ws.tail.tail else ws.tail)).map λq=>((fQ q.1 q.1 false,X1 [110,111,116] ws.tail),q.2)
 else
  let nt:=X1 [110,111,116] ws
  let u:=if nt then ws.tail else ws
  if X1 [119,105,116,104,105,110] u then (gx true u.tail).map λq=>((q.1,nt),q.2)
  else if X1 [105,110] u then (gx false u.tail).map λq=>((q.1,nt),q.2)
  else none
def uI(c:Wd):Option (Dg->Dg) :=
 if c=[110]then some (λx=>x)else if c=[105]then some (λx=>(gZ x.1,[]))else if c=[118]then some (λx=>(xU x.2.length,[]))
 else if c=[119]then some (λx=>(xU (uP x.2).length,[]))else if c=[102]then some (λx=>(gZ x.2,[]))
 else if c=[116]then some (λx=>(gZ (uP x.2),[]))else none
def oR(of:Dg->Dg)(m:Nat):Dg->Dg:=λx=>(xU (UG (of x).1 m),(of x).2)
def Py(of:Dg->Dg)(t:List Wd):Option ((Dg->Dg)×List Wd) :=
 if AU (t.headD []) then
  match gF t.tail with
  |none=>none
  |some (m,u)=>if m=0 then none else some (oR of m,u)
 else some (of,t)
def VJ:Parser
 |[]=>none
 |w::t=>match uI w with
  |none=>none
  |some of=>match Py of t with
   |none=>none
   |some (of',u)=>match qy u with
    |none=>none
    |some ((i,nt),v)=>some ((λx=>i (of' x) !=nt),v)
def bd(word:Wd)(one:Parser):Nat->List gy->List Wd->Option (List gy×List Wd)
 | 0,_,_=>none
 |n+1,acc,ws=>match one ws with
  |none=>none
  |some (T,t)=>if X1 word t then bd word one n (acc++[T]) t.tail else some (acc++[T],t)
def Nq(word:Wd)(tog:List gy->gy)(one:Parser):Parser:=λws=>(bd word one (ws.length+1) [] ws).map λq=>(tog q.1,q.2)
def RJ:Parser:=Nq [97,110,100] allT VJ
def pOr:Parser:=Nq [111,114] Zn RJ
def yo(c:UInt8):Nat:=if 97<=c.toNat/\c.toNat<=122 then 3 else if 48<=c.toNat/\c.toNat<=57 then 2 else if c.toNat=32 then 1 else 0
def C6:List UInt8->Option Wd
 | 33::61::_=>some [33,61]
 | 46::46::_=>some [46,46]
 | 61::_=>some [61]
 | 44::_=>some [44]
 | 37::_=>some [37]
 |_=>none
def bI:Nat->List (Wd)->List UInt8->Option (List Wd)
 |_,acc,[]=>some acc
 | 0,_,_::_=>none
 |n+1,acc,c::t=>match C6 (c::t) with
  |some g=>bI n (acc++[g]) ((c::t).drop g.length)
  |none =>
   if yo c=0 then none
   else bI n (if yo c=1 then acc else acc++[c::t.takeWhile (λd=>yo d==yo c)]) (t.dropWhile (λd=>yo d==yo c))
def aW(s:List UInt8):Option (List Wd):=bI (s.length+1) [] (s.take (s.idxOf 64))
def IM(s:List UInt8):Option gy :=
 if 200<s.length then none else match aW s with
 |none=>none
 |some ws=>match pOr ws with
  |some (T,[])=>some T
  |_=>none
end Go.Proofs.YtpggmjffejgakaaGreatDoor
namespace Go.Proofs.YtpggmjffejgakaaGreatDoor
open Go Go.RowKit
set_option maxRecDepth 10000
variable{l wh:List UInt8}
def J0(l:List UInt8):List UInt8:=if l.head? = some 45 then l.tail else l
def Xo(l:List UInt8):Bool:=l.head? == some 45
def vE(l:List UInt8):List UInt8:=(J0 l).take ((J0 l).idxOf 46)
def uX(l:List UInt8):List UInt8:=(J0 l).drop ((J0 l).idxOf 46+1)
def U2(l:List UInt8):Bool:=decide ((J0 l).idxOf 46<(J0 l).length)
def FH(l:List UInt8):Bool:=uY (vE l) && (!(U2 l) ||uY (uX l)) && decide ((vE l).length+(uX l).length<=30)
def ui(l:List UInt8):Bool :=
 FH l && !(decide (1<(vE l).length) && ((vE l).headD 0==48)) && !(Xo l && (vE l++uX l).all (· == 48))
def yrx{fr:List UInt8}{pt:Bool}(b:vE l=wh)(hF:uX l=fr)(a:U2 l=pt)(h:¬(uY wh=true/\(pt=true->uY fr=true)/\wh.length+fr.length<=30)):ui l=false:=by
 have hf:FH l=false:=by
  rw[<-bE];intro hf;unfold FH at hf;rw[b,hF,a]at hf;simp only[zv,vW,vA,decide_eq_true_eq]at hf;refine h ⟨hf.1.1,λhp=>?_,hf.2⟩;rcases hf.1.2 with h1|h1
  .rw[h1]at hp;cases hp
  .exact h1
 simp[ui,hf]
def C7{fr:List UInt8}{b:Bool}(c:vE l=wh)(hF:uX l=fr)(hB:Xo l=b)(a:FH l=true) :
  ui l=(!(decide (1<wh.length) && (wh.headD 0==48)) && !(b && (wh++fr).all (· == 48))):=by
 simp[ui,a,c,hF,hB]
def yrv(wh:List UInt8)(h:0<(vD wh.toArray).size):(wh.headD 0==48)=(((vD wh.toArray)[0].toNat:Int)==48):=by
 have h1:=zbx ⟨wh.toArray⟩ h;rw[toList_mk]at h1;have h2:=YA (vD wh.toArray)[0] 48;have a:((48:UInt8).toNat:Int)=48:=rfl;rw[a]at h2;rw[h1,h2];exact Bool.beq_eq_decide_eq _ _
def yu2{fr:List UInt8}{pt:Bool}(c:vE l=wh)(hF:uX l=fr)(b:U2 l=pt)(h1:uY wh=true)(h2:pt=true->uY fr=true)(d:¬((30:Int)<(wh.length:Int)+(fr.length:Int))):FH l=true:=by
 unfold FH;rw[c,hF,b,h1];have a:wh.length+fr.length<=30:=J;cases pt
 .simp[a]
 .simp[a,h2 rfl]
abbrev uL:=Bool×Dg
def bZ(t:Wd)(num:Bool):Bool:=if num then ui t else decide (t.length<=60)
def numOf(t:Wd):uL:=(Xo t,(vE t,uX t))
def dO(k:Nat)(l:Wd):Wd:=zX (k - l.length) 48++l
def Hq(r k:Nat):Dg:=((dO (k+1) (xU r)).take ((dO (k+1) (xU r)).length - k),(dO (k+1) (xU r)).drop ((dO (k+1) (xU r)).length - k))
def C8(n:uL)(v:Nat):uL :=
 if n.1 then (decide (yb (n.2.1++n.2.2)+v*10 ^ n.2.2.length≠0),Hq (yb (n.2.1++n.2.2)+v*10 ^ n.2.2.length) n.2.2.length)
 else if yb (n.2.1++n.2.2)<v*10 ^ n.2.2.length then (true,Hq (v*10 ^ n.2.2.length - yb (n.2.1++n.2.2)) n.2.2.length)
 else (false,Hq (yb (n.2.1++n.2.2) - v*10 ^ n.2.2.length) n.2.2.length)
def UF(n:uL)(v:Nat):Bool := !n.1 && decide (Gh n.2 v=0)
inductive yru where
 |no
 |yrq
 |val (t:Wd) (num:Bool)
structure jY(τ:Type) where
 wr:uL->Wd
 sort:Bool->Dg->Nat
 get:Wd->τ->yru×τ
inductive aA (σ:Type) where
 |go (k:Nat) (s:σ)
 |fin (s:σ)
 |err (n:Nat) (s:σ)
 |bad
def VN{σ:Type}(F:Nat->σ->aA σ):Nat->Nat->σ->Option (Except (Nat×σ) σ)
 | 0,_,_=>none
 |f+1,k,s=>match F k s with |.go k' s'=>VN F f k' s' |.fin s'=>some (.ok s') |.err n s'=>some (.error (n,s')) |.bad=>none
structure ZJ(τ:Type) where
 out:Wd
 stk:List (uL×uL)
 gs:τ
section
variable {τ:Type} (E:jY τ)
def VO(n:Wd)(g:τ):Except (Nat×τ) ((Wd×Bool)×τ) :=
 match E.get n g with
 |(.no,g') => .error (12,g')
 |(.yrq,g') => .error (15,g')
 |(.val t num,g')=>if bZ t num then .ok ((t,num),g')else .error (11,g')
def QJ(n:Wd)(g:τ):Except (Nat×τ) (uL×τ) :=
 match VO E n g with
 |.error e => .error e
 |.ok ((t,num),g')=>if num then .ok (numOf t,g')else .error (13,g')
def TS(n:Wd)(g:τ):Except (Nat×τ) (Wd×τ) :=
 match VO E n g with
 |.error e => .error e
 |.ok ((t,num),g')=>if num then .error (13,g')else .ok (t,g')
def zcj(t:Wd)(num:Bool):Wd:=if num then E.wr (numOf t)else t
def X2(s:MkS)(x:uF):Option Wd:=x.k[0]?.bind λj=>s.cs[j]?
def TT(s:MkS)(t:Option Nat)(r:ZJ τ):aA (ZJ τ) :=
 match t with
 |none => .bad
 |some p=>match qp s.code s.code.length p with|some k => .go k r|none => .fin r
def K5(s:MkS)(x:uF)(t:Wd):Nat:=(x.k.tail.map λj=>s.cs[j]?).idxOf (some t)
def dI(s:MkS)(x:uF)(k:Nat)(r:ZJ τ):aA (ZJ τ) :=
 match x.op with
 | 0 => .fin r
 | 1=>match X2 s x with|none => .bad|some t => .go (k+1) { r with out:=r.out++t }
 | 2=>match X2 s x with
  |none => .bad
  |some n=>match VO E n r.gs with |.error (e,g) => .err e { r with gs:=g } |.ok ((t,num),g) => .go (k+1) { r with out:=r.out++zcj E t num,gs:=g }
 | 3=>match X2 s x with
  |none => .bad
  |some n=>match QJ E n r.gs with |.error (e,g) => .err e { r with gs:=g } |.ok (v,g) => .go (k+1) { r with out:=r.out++E.wr v,gs:=g }
 | 4=>match X2 s x with
  |none => .bad
  |some n=>match QJ E n r.gs with |.error (e,g) => .err e { r with gs:=g } |.ok (v,g) => .go (k+1) { r with stk:=r.stk++[(v,C8 v x.v)],gs:=g }
 | 5=>match r.stk.getLast? with|none => .bad|some _ => .go (k+1) { r with stk:=r.stk.dropLast }
 | 6=>match r.stk.getLast? with|none => .bad|some t => .go (k+1) { r with out:=r.out++E.wr t.2 }
 | 7=>match r.stk.getLast? with|none => .bad|some t=>if UF t.1 x.v then TT s x.tg[0]? r else .go (k+1) r
 | 8=>match r.stk.getLast? with|none => .bad|some t=>TT s x.tg[E.sort false t.2.2]? r
 | 9=>match r.stk.getLast? with|none => .bad|some t=>TT s x.tg[E.sort true t.2.2]? r
 | 10=>match X2 s x with
  |none => .bad
  |some n=>match TS E n r.gs with
   |.error (e,g) => .err e { r with gs:=g }
   |.ok (t,g)=>if x.k.tail.all (λj=>decide (j<s.cs.length))then TT s x.tg[K5 s x t]? { r with gs:=g }else .bad
 | 11=>TT s x.tg[0]? r
 |_ => .bad
def Vj(s:MkS)(k:Nat)(r:ZJ τ):aA (ZJ τ):=match s.code[k]? with|none => .bad|some x=>dI E s x k r
end
def JD(c:UInt8):∀l:List UInt8,Lib.indexByte l c=if l.idxOf c<l.length then ((l.idxOf c:Nat):Int)else -1
 |[]=>rfl
 |b::l=>by
  have d:=JD c l;rw[Lib.indexByte,d,xj9];by_cases h:b==c
  .simp[h]
  .simp only[h,cond_false,zY];by_cases h2:l.idxOf c<l.length
   .rw[yK h2,yK (show l.idxOf c+1<l.length+1 by omega)];have a:(((l.idxOf c:Nat):Int)==-1)=false:=(by rw[beq_eq_false_iff_ne];omega);rw[a];simp
   .rw[yv h2,yv (show ¬(l.idxOf c+1<l.length+1)by omega)];simp
def FR(s:ByteArray)(c:UInt8)(w:z8)(hs:s.size<=1000000) :
  zE prog 116 #[.string s,.string ⟨#[c]⟩] w λe w' =>
   e = .returned (.tuple #[.string ⟨(s.data.toList.take (s.data.toList.idxOf c)).toArray⟩,.string ⟨(s.data.toList.drop (s.data.toList.idxOf c+1)).toArray⟩,.bool (decide (s.data.toList.idxOf c<s.size))])/\∃n,w'=w.drewN n:=by
 have hx:=JD c s.data.toList;rw[vL]at hx;have g:=Z hx;clear hx;go_enter func116,ntmps116;go_wp2_with fail;refine(Tryz.stringslite_Index_one s c _).mono ?_;rw[g.o];rintro e w' ⟨rfl,rfl⟩;by_cases b:s.data.toList.idxOf c<s.size
 .rw[yK b];generalize d:s.data.toList.idxOf c=k at b;have f:=Z d;clear d;have hr:(k+1:Nat)<=s.size:=b;go_wp2_with fail;go_quiet (fail)
  go_wp2;go_ret3
  rw[fM,fN,f.o];exact⟨by simp[b],nq,rfl⟩
 .rw[yv b];have hi:s.data.toList.idxOf c=s.size:=by have:=Ft (a:=c) (l:=s.data.toList);simp only[vL]at this;omega
  have h:=Z hi;clear hi b;go_wp2;go_ret3
  rw[h.o,Dm,oF,yL zV];exact⟨zV,0,rfl⟩
variable{xs:List zx}{B cap n size:Nat}{e:xM}{v:zx}{w w':z8}
def zcg{base:Nat}(h:w.ownsRow base e size v n xs):∃a m k,v = .slice a m k:=by
 obtain⟨a,cap,hv⟩:=zo h;exact⟨a,n,cap,hv⟩
def yu3(l:List UInt8)(w:z8)(e:xX)(w':z8):Prop :=
 ∃(b:Bool) (v:zx) (k:Int),e = .returned (.tuple #[.agg #[.bool b,v,k],.bool (ui l)])/\(∃a n k',v = .slice a n k')/\zR w w' /\
  (ui l=true->b=Xo l/\k=((uX l).length:Int)/\w'.ownsRow (w:Nat) 5 1 v ((vE l).length+(uX l).length) (vu (vE l++uX l)))
def aa(s:ByteArray)(l:List UInt8)(a:s.data.toList=l)(w:z8)(hs:s.size<=1000000) :
  zE prog 67 #[.string s,.string ⟨#[46]⟩] w λe w' =>
   e = .returned (.tuple #[zO (l.take (l.idxOf 46)),zO (l.drop (l.idxOf 46+1)),.bool (decide (l.idxOf 46<l.length))])/\∃n,w'=w.drewN n:=by
 subst a;go_enter func67,ntmps67;go_wp2_with fail;refine(FR s 46 _ hs).mono ?_;rintro e w' ⟨rfl,n,rfl⟩;go_wp2;go_ret3
 exact⟨by rw[vL];rfl,n,rfl⟩
def r8(l:List UInt8):vO l [45]=J0 l/\yc l [45]=Xo l:=by
 cases l with
 |nil=>exact⟨rfl,rfl⟩
 |cons x l =>
  by_cases h:x=45
  .subst h;simp[vO,yc,J0,Xo,uT]
  .have h2:((45:UInt8)==x)=false:=(by rw[beq_eq_false_iff_ne];exactλe=>h e.symm);simp[vO,yc,J0,Xo,uT,h,h2]
def bL{base d:Nat}(h:w.ownsRow base e size v n xs)(hb:d<=base):w.ownsRow d e size v n xs :=
 ⟨h.1,h.2.imp id λ⟨g,cap,f,a,b,c⟩=>⟨g,cap,f,a,zg hb b,c⟩⟩
def xB(l:List UInt8):List Int:=l.map λc=>(c.toNat:Int) - 48
def zero_eq(l:List UInt8):(!(xB l).any (· != 0))=l.all (· == 48):=by
 induction l with
 |nil=>rfl
 |cons c l b =>
  have h:(((c.toNat:Int) - 48) !=0) = !(c==48):=by
   have h2:=YA c 48;have d:((48:UInt8).toNat:Int)=48:=rfl;rw[d]at h2;by_cases a:c=48
   .subst a;rfl
   .have e:(c==48)=false:=(by simpa using a);rw[e,LB,bne_iff_ne];intro g;have f:((c.toNat:Int)==48)=true:=(by rw[beq_iff_eq];omega);rw[f]at h2;simp[a]at h2
  simp only[xB,vV,List.any_cons,u7]at b|-;rw[h,<-b];simp
def j7{ad:Option yI}(h:w.ownsRow B 5 1 (.slice ad n cap) n (vu l))(hn:n=l.length):yJ w ad (xB l):=by
 subst hn;intro j c;have a:j<l.length:=by simpa[xB]using c
 obtain⟨g,b,hv,_,_,hc⟩:=xY h J;cases hv;refine⟨⟨g,0,none⟩,rfl,?_⟩;have:=hc j J;rw[ve,this];simp[vu,xB,a]
def yJ.set{a:Option yI}{l:List Int}(h:yJ w a l){p:yI}(hp:∀b,a=some b->b.block≠p.block)(u:zx):yJ (w.setCell p u) a l:=λj c=>by
 obtain⟨b,hb,hc⟩:=h j c;refine⟨b,hb,?_⟩;rw[<-hc];exact yD (yX _ _ _ _ (by rw[addr_add];exact hp b hb))
def I5(l:List UInt8)(n:Nat)(hn:n=l.length)(a:Option yI)(c:Nat)(b:Bool)(sc:Int)(w:z8)(d:l.length<=1000000)(hc:yJ w a (xB l)) :
  zE prog 69 #[.agg #[.bool b,.slice a n c,sc]] w λe w'=>e = .returned (.bool (l.all (· == 48)))/\zR w w':=by
 subst hn;have:=zcq (xB l) a c b sc w (by simpa[xB]using d) hc;rw[zero_eq]at this;simpa[xB]using this
def vz{base:Nat}(h:w.ownsRow base e size v n xs){p:yI}(hp:some p.block≠v.ownBlock)(u:zx):(w.setCell p u).ownsRow base e size v n xs :=
 h.kept (row:=some p.block) ⟨rfl,rfl,rfl,zV,λi _ a=>yX _ _ _ _ (λhe=>a (by rw[he]))⟩ (.inr (λhe=>hp he.symm))
def dn{base:Nat}(h:w.ownsRow base e size v n xs)(hb:zR w w'):w'.ownsRow base e size v n xs :=
 h.kept (row:=none) ⟨hb.os,hb.tape,hb.output,hb.size,λi hi _=>hb.block i hi⟩ (by cases v.ownBlock<;>simp)
def zcf{fr:List UInt8}{pt:Bool}(d:vE l=wh)(hF:uX l=fr)(c:U2 l=pt)(b:pt=false->fr=[])(h:¬((wh++fr).all yC=true/\wh≠[]/\(pt=true->fr≠[])/\wh.length+fr.length<=30)):ui l=false:=by
 refine yrx d hF c λ⟨h1,h2,a⟩=>h ⟨?_,?_,?_,a⟩
 .simp only[uY,zv]at h1 h2;rw[uJ,h1.1];cases pt with
  |false=>rw[b rfl];rfl
  |true=>simp[(h2 rfl).1]
 .intro e;subst e;simp[uY]at h1
 .intro hp e;subst e;simp[uY]at h2;exact absurd hp BG
def yu4{fr:List UInt8}{pt:Bool}(c:vE l=wh)(hF:uX l=fr)(b:U2 l=pt)(h1:(wh++fr).all yC=true)(h2:wh≠[])(a:pt=true->fr≠[])(d:wh.length+fr.length<=30):FH l=true:=by
 rw[uJ,zv]at h1;refine yu2 c hF b (by simp[uY,h1.1,h2]) (λhp=>by simp[uY,h1.2,a hp]) J
def X3(s:ByteArray)(w:z8)(hs:s.size<=1000000) :
  zE prog 35 #[.string s] w (yu3 s.data.toList w):=by
 have F:(J0 s.data.toList).length<=s.size:=by unfold J0;split<;>simp
 have hp:=r8 s.data.toList;have A:=Z hp;generalize C:J0 s.data.toList=al at F;have j:=Z C;clear C hp;go_enter func35,ntmps35;go_wp2_with fail;refine(Tryz.strings_CutPrefix s _ _).mono ?_;rintro e w' ⟨rfl,rfl⟩;have H:vO s.data.toList [45]=al:=A.o.1.trans j.o;have I:=A.o.2;rw[show({ data:=#[45] }:ByteArray).data.toList=[45]from rfl,H,I];clear H I;generalize D:Xo s.data.toList=b;have HB:=Z D;clear D;go_wp2_with fail;refine(aa _ al (toList_mk al) _ (by rw[size_mk];omega)).mono ?_;rintro e w' ⟨rfl,nq,rfl⟩;have L:(al.take (al.idxOf 46)).length+(al.drop (al.idxOf 46+1)).length<=s.size:=yF;have Q:vE s.data.toList=al.take (al.idxOf 46):=by rw[vE,j.o]
 have hF:uX s.data.toList=al.drop (al.idxOf 46+1):=by rw[uX,j.o]
 have P:U2 s.data.toList=decide (al.idxOf 46<al.length):=by rw[U2,j.o]
 have M:decide (al.idxOf 46<al.length)=false->al.drop (al.idxOf 46+1)=[]:=by
  intro h;simp at h;exact yL J
 generalize al.take (al.idxOf 46)=wh at Q L|-;generalize al.drop (al.idxOf 46+1)=fr at hF L M|-;generalize decide (al.idxOf 46<al.length)=pt at P M|-;obtain⟨HW,HF,N,S⟩:=hdd Q hF P M;clear Q hF P M;go_wp2_with fail;refine(aO _ _ (by first|(rw[Gv,size_mk];simp;omega)|simp;omega)).mono ?_;rw[Gv,toList_mk];rintro e w' ⟨hv,hb⟩;have U:(w:Nat)+1<=(w':Nat):=by have:=hb.size;simpa using this
 have hB:zR w w':=(below_drewN ((zu _ _).alloc (Y _) _) nq).trans (hb.mono zV);have YU:zk w' (w:Nat) 0 (.bool b):=AF;have VK:zk w' (w:Nat) 1 (.slice none 0 0):=AF;have XY:zk w' (w:Nat) 2 (.int .i64 0):=AF;have hf0:w'.frozen? (zQ (w:Nat) 0)=false:=Af;have Q6:w'.frozen? (zQ (w:Nat) 1)=false:=Af;have ZL:w'.frozen? (zQ (w:Nat) 2)=false:=Af;have i:∀v,w'.ownsRow ((w.alloc (.cells #[.bool b,.slice none 0 0,.int .i64 0] 99)).drewN nq).heap.size 5 1 v (wh++fr).length (vu (wh++fr))->w'.ownsRow (w:Nat) 5 1 v (wh++fr).length (vu (wh++fr)):=λv h=>bL h zV
 have r:∀v,w'.ownsRow ((w.alloc (.cells #[.bool b,.slice none 0 0,.int .i64 0] 99)).drewN nq).heap.size 5 1 v (wh++fr).length (vu (wh++fr))->some (w:Nat)≠v.ownBlock:=λv h e=>by have:=(vz3 h _ e.symm).1;simp at this;omega
 clear hb;by_cases c:(wh++fr).all yC=true
 .rw[yK c]at hv;obtain⟨v,rfl,g⟩:=hv;have HSV:=Z (zcg g);have d:=i v g;have iJ:=r v g;clear i r g;obtain⟨ad,cap,rfl⟩:=zo d;have y:=Z c;clear c;have G:(wh++fr).length=wh.length+fr.length:=by simp
  rw[G]at d iJ|-;have Yy:=Z d;clear G d;by_cases f:¬(wh≠[]/\(pt=true->fr≠[])/\wh.length+fr.length<=30)
  .have a:=zcf HW.o HF.o N.o S.o (λh=>f h.2);have XD:=Z a;clear a;go_wp2;all_goals first
    |(exfalso;refine f ⟨by assumption,?_,?_⟩<;>first|(intro h;contradiction)|(intro _;assumption)|omega)
    |(refine yU (v := .tuple #[.agg #[.bool b,.slice none 0 0,.int .i64 0],.bool false]) ?_ rfl ?_
      focus(simp[yN,results35,go_sem, *])
      refine⟨b,_,_,by rw[XD.o],by first|exact⟨_,_,_,rfl⟩|exact HSV.o,?_,λh=>by rw[XD.o]at h;cases h⟩;refine hB.trans ?_;(repeat(first|(with_reducible exact zu _ _)|(with_reducible refine below_drewN ?_ _)|(with_reducible refine qs ?_)|(with_reducible refine KH ?_ ?_ _;rotate_left;focus(first|(simp;done)|(simp;omega)))|(with_reducible refine ZE ?_ ?_ _;rotate_left;focus(first|(simp;done)|(simp;omega)))))
      done)
  .have n:wh≠[]/\(pt=true->fr≠[])/\wh.length+fr.length<=30:=Classical.not_not.1 f;clear f;obtain⟨FD,m,R⟩:=n;have E:=yu4 HW.o HF.o N.o y.o FD m R;have k:=Z E;clear E;have T:¬((30:Int)<(wh.length:Int)+(fr.length:Int)):=(by omega);have K:0<(vD wh.toArray).size:=by
    rw[size_mk];cases wh with
    |nil=>exact absurd rfl FD
    |cons x l=>simp
   have B:=yrv wh K;have u:=Z B;clear B;have t:(pt=true/\¬fr=[])\/pt=false:=by
    cases pt
    .exact .inr rfl
    .exact .inl ⟨rfl,m rfl⟩
   clear m;rcases t with⟨t,hfr⟩|t;all_goals
    by_cases c1:(1:Int)<(wh.length:Int)
    .by_cases c2:(((vD wh.toArray)[0].toNat:Int)==48)=true
     .have a:ui s.data.toList=false:=by
       rw[C7 HW.o HF.o HB.o k.o,u.o,c2];simp;omega
      have XD:=Z a;clear a;go_wp2;all_goals first
       |(exfalso;rename_i hh;simp[FD,hfr]at hh;omega)|(exfalso;rename_i hh;simp[FD]at hh;omega)
       |skip
      refine yU (v := .tuple #[.agg #[.bool b,.slice ad (wh.length+fr.length) cap,(fr.length:Int)],.bool false]) ?_ rfl ?_
      .simp[yN,results35,go_sem,zr, *]
      .exact zjz
     .have O:(((vD wh.toArray)[0].toNat:Int)==48)=false:=(by simpa using c2);have a:ui s.data.toList = !(b && (wh++fr).all (· == 48)):=by
       rw[C7 HW.o HF.o HB.o k.o,u.o,O];simp
      have XD:=Z a;clear a c2;exact xg0
    .have a:ui s.data.toList = !(b && (wh++fr).all (· == 48)):=by
      rw[C7 HW.o HF.o HB.o k.o,decide_eq_false J];simp
     have XD:=Z a;clear a;exact xg0
 .rw[yv c]at hv;subst hv;have a:=zcf HW.o HF.o N.o S.o (λh=>c h.1);have XD:=Z a;clear a c i r;go_wp2;refine yU (v := .tuple #[.agg #[.bool b,.slice none 0 0,.int .i64 0],.bool false]) ?_ rfl ?_
  .simp[yN,results35,go_sem, *]
  .exact zjz
def r9(g o j:Nat):(⟨g,o,none⟩:yI).add j=⟨g,o+j,none⟩:=by
 unfold fG;split
 .simp_all
 .simp
def yJ.take{a:Option yI}{l:List Int}(h:yJ w a l)(m:Nat):yJ w a (l.take m):=λj hj=>by
 have c:j<l.length:=GU;obtain⟨b,hb,hc⟩:=h j c;exact⟨b,hb,by simpa using hc⟩
def yJ.drop{g o:Nat}{l:List Int}(h:yJ w (some ⟨g,o,none⟩) l)(k:Nat):yJ w (some ⟨g,o+k,none⟩) (l.drop k):=λj hj=>by
 have a:k+j<l.length:=GU;obtain⟨b,hb,hc⟩:=h (k+j) a;cases hb;refine⟨_,rfl,?_⟩;rw[r9]at hc|-;simpa[uR]using hc
def yyv(g o:Nat)(n cap sc:Nat)(b:Bool)(l:List Int)(w:z8)(h:l.length=n)(hs:sc<=n)(d:n<=cap)(hn:n<=1000000)(hB:yJ w (some ⟨g,o,none⟩) l) :
  zE prog 71 #[.agg #[.bool b,.slice (g,o) n cap,sc]] w λe w'=>(∃a c,e = .returned (.slice a (n - sc) c)/\(∀q,a=some q->q.block=g)/\yJ w' a (l.take (n - sc)))/\zR w w':=by
 obtain⟨k,f⟩:∃k,n=k+sc:=⟨n - sc,J⟩;subst f;rw[show k+sc - sc=k from J];have h0:(0:Int)<=((k+sc:Nat):Int) - (sc:Int):=J;have h1:((k+sc:Nat):Int) - (sc:Int)=(k:Int):=J;have h2:k<=cap:=J;go_enter func71,ntmps71;go_wp2;go_ret;exact⟨⟨_,_,rfl,Ad,(hB.alloc _).take k⟩,(zu _ _).alloc (Y _) _⟩
def zk3(g o:Nat)(n cap sc:Nat)(b:Bool)(l:List Int)(w:z8)(r:l.length=n)(hs:sc<=n)(d:n<=cap)(hn:n<=1000000)(hB:yJ w (some ⟨g,o,none⟩) l) :
  zE prog 73 #[.agg #[.bool b,.slice (g,o) n cap,sc]] w λe w'=>(∃a c,e = .returned (.slice a sc c)/\(∀q,a=some q->q.block=g)/\yJ w' a (l.drop (n - sc)))/\zR w w':=by
 obtain⟨k,p⟩:∃k,n=k+sc:=⟨n - sc,J⟩;subst p;rw[show k+sc - sc=k from J];have h1:((k+sc:Nat):Int) - (sc:Int)=(k:Int):=J;have h2:k<=cap:=J;go_enter func73,ntmps73;by_cases i:cap=k
 .have f:l.drop k=[]:=yL J;have h:=Z f;clear f;go_wp2;go_ret;refine⟨⟨_,_,rfl,Ad,?_⟩,(zu _ _).alloc (Y _) _⟩;rw[h.o];intro j m;simp at m
 .go_wp2;go_ret;exact⟨⟨_,_,rfl,Ad,(hB.alloc _).drop k⟩,(zu _ _).alloc (Y _) _⟩
end Go.Proofs.YtpggmjffejgakaaGreatDoor
namespace Go.Proofs.YtpggmjffejgakaaGreatDoor
open Go
set_option maxRecDepth 10000

end Go.Proofs.YtpggmjffejgakaaGreatDoor
namespace Go.Proofs.YtpggmjffejgakaaGreatDoor
open Go
set_option maxRecDepth 10000
variable{l:List UInt8}
def ry(l:List UInt8):∀a:Nat,l.foldl (λv c=>10*v+(c.toNat - 48)) a=a*10 ^ l.length+Zv l:=by
 induction l with
 |nil=>intro a;simp[Zv]
 |cons c t b =>
  intro a;unfold Zv;rw[vP,vP,b,b,zY,fC,iZ,uE,kh,uR];congr 1;rw[dU 10 a,Up,dU 10]
def ru(c:UInt8)(t:List UInt8):Zv (c::t)=(c.toNat - 48)*10 ^ t.length+Zv t:=by
 show(c::t).foldl (λv c=>10*v+(c.toNat - 48)) 0=_;rw[vP,ry];simp
structure Fig(l:List UInt8):Prop where
 dig:l.all yC=true
 ne:l≠[]
 lead:l.length=1\/l.headD 0≠48
def Fig.of(h:C4 l=true):Fig l/\l.length<=9:=by
 simp only[C4,uY,zv,vW,decide_eq_true_eq,vA]at h;refine⟨⟨h.1.1,λe=>?_,h.2.2⟩,h.2.1⟩;rw[e]at h;exact absurd h.1.2 zW
def zcd{c:UInt8}{t:List UInt8}(hc:yC c=true)(h:c≠48):10 ^ t.length<=Zv (c::t):=by
 rw[ru];have h1:=(vy c).1 hc;have h2:c.toNat≠48:=λe=>h (Xf.1 (by rw[e];rfl))
 have:1*10 ^ t.length<=(c.toNat - 48)*10 ^ t.length:=uM _ J;omega
def RG{c:UInt8}(hc:yC c=true):kM (c.toNat - 48)=c:=by
 have h1:=(vy c).1 hc;unfold kM;apply Xf.1;exact B7
def rj:∀(n:Nat) (l:List UInt8),l.length=n->Fig l->xU (Zv l)=l:=by
 intro n;induction n with
 |zero=>intro l d h;exact absurd (zN d) h.ne
 |succ n i =>
  intro l d h;obtain⟨t,c,rfl⟩:∃t c,l=t++[c]:=⟨l.dropLast,l.getLast h.ne,WQ⟩;have hd:=h.dig;rw[uJ,zv]at hd;have hc:yC c=true:=by simpa using hd.2
  have h1:=(vy c).1 hc;rw[IL];by_cases f:t=[]
  .subst f;have:(10*Zv []+(c.toNat - 48))=c.toNat - 48:=(by simp[Zv]);rw[this,qk J,RG hc];rfl
  .have b:t.length=n:=(by simpa using d);have a:(t++[c]).headD 0≠48:=by
    rcases h.lead with q|q
    .exact absurd (zN (by simpa using q)) f
    .exact q
   obtain⟨e,u,rfl⟩:∃e u,t=e::u:=(by cases t with|nil=>exact absurd rfl f|cons e u=>exact⟨e,u,rfl⟩);have he:e≠48:=(by simpa using a);have G0:yC e=true:=(by have:=hd.1;simp at this;exact this.1);have g:=zcd (t:=u) G0 he;have:0<10 ^ u.length:=Nat.pow_pos zW;rw[fO J,show(10*Zv (e::u)+(c.toNat - 48)) / 10=Zv (e::u)by omega,show(10*Zv (e::u)+(c.toNat - 48)) % 10=c.toNat - 48 by omega,RG hc,
    i (e::u) b ⟨hd.1,zV,.inr (by simpa using he)⟩]
def Fig.val(h:Fig l):xU (Zv l)=l:=rj _ l rfl h
def rf(x y:List UInt8):cmpL x y = -1\/cmpL x y=0\/cmpL x y=1:=by
 unfold cmpL;split
 .exact .inl rfl
 split
 .exact .inr (.inl rfl)
 .exact .inr (.inr rfl)
end Go.Proofs.YtpggmjffejgakaaGreatDoor
namespace Go.Proofs.YtpggmjffejgakaaGreatDoor
open Go
set_option maxRecDepth 10000
variable{α β:Type}
abbrev vay:Wd:=[97,110,100]
abbrev wOr:Wd:=[111,114]
def rZ{α:Type}(R:Option (α×List Wd))(seg rest:List Wd)(vax:α->Prop)(bad:Prop):Prop :=
 (∃a,R=some (a,rest)/\vax a)\/(bad/\(R=none\/∃a h t,h∈seg/\R=some (a,h::(t++rest))))
def rZ.imp{R:Option (α×List Wd)}{c rest:List Wd}{g g':α->Prop}{b d:Prop}(h:rZ R c rest g b)(e:∀a,g a->g' a)(hb:b->d):rZ R c rest g' d:=by
 rcases h with⟨a,r,q⟩|⟨q,r⟩
 .exact .inl ⟨a,r,e a q⟩
 .exact .inr ⟨hb q,r⟩
def rZ.map{R:Option (α×List Wd)}{c rest:List Wd}{g:α->Prop}{b:Prop}(f:α->β){g':β->Prop}(h:rZ R c rest g b)(d:∀a,g a->g' (f a)) :
  rZ (R.map λq=>(f q.1,q.2)) c rest g' b:=by
 rcases h with⟨a,r,q⟩|⟨q,r|⟨a,h,t,hm,r⟩⟩
 .exact .inl ⟨f a,by rw[r];rfl,d a q⟩
 .exact .inr ⟨q,.inl (by rw[r];rfl)⟩
 .exact .inr ⟨q,.inr ⟨f a,h,t,hm,by rw[r];rfl⟩⟩
def Stop(rest:List Wd):Prop:=∀c,rest.head? = some c->c=vay\/c=wOr
def RF(w c:Wd)(t:List Wd):X1 w (c::t)=(c==w):=by
 unfold X1;rw[List.head?_cons,xA];simp
end Go.Proofs.YtpggmjffejgakaaGreatDoor
namespace Go.Proofs.YtpggmjffejgakaaGreatDoor
open Go
set_option maxRecDepth 10000

end Go.Proofs.YtpggmjffejgakaaGreatDoor
namespace Go.Proofs.YtpggmjffejgakaaGreatDoor
open Go Go.RowKit
set_option maxRecDepth 10000
variable{w w':z8}
def ae{b:yI}{x:Int}{l:List Int}(h:yJ w (some b) (x::l)):w.cell? b=some (.int .u8 x):=by
 obtain⟨c,hc,hx⟩:=h 0 zV;cases hc;simpa[fG]using hx
def ai{b:yI}{x:Int}{l:List Int}(h:yJ w (some b) (x::l)):yJ w (some (b.add 1)) l:=λj a=>by
 obtain⟨c,hc,hx⟩:=h (j+1) yF;cases hc;refine⟨_,rfl,?_⟩;rw[add_add,Nat.add_comm 1 j];simpa using hx
def yJ.below{a:Option yI}{l:List Int}(h:yJ w a l)(hb:zR w w'):yJ w' a l:=λj c=>by
 obtain⟨b,h1,h2⟩:=h j c;refine⟨b,h1,?_⟩;exact zqx
def YZ(w:z8)(a:Option yI):yJ w a []:=λj b=>absurd b (ZH j)
def RD(a:Option yI)(l:List Int)(w:z8)(e:xX)(w':z8):Prop :=
 (∃a' rY,e = .returned (.slice a' (l.dropWhile (· == 0)).length rY)/\yJ w a' (l.dropWhile (· == 0))/\(l.dropWhile (· == 0)).length<=rY/\(∀q,a'=some q->∃p,a=some p/\q.block=p.block))/\w'=w
def Gw(l:List Int)(a:Option yI)(cap:Nat)(w:z8)(B:l.length<=1000000)(i:l.length<=cap)(y:cap<=9223372036854775807)(hB:yJ w a l) :
  zE prog 250 #[.slice a l.length cap,.int .u8 0] w (RD a l w):=by
 go_enter func250,ntmps250;go_wp2;go_loop [0] (λv=>∃(a':Option yI) (c:Nat) (r:List Int),v = .slice a' r.length c/\r.length<=c/\c<=9223372036854775807/\r.length<=1000000/\yJ w a' r/\r.dropWhile (· == 0)=l.dropWhile (· == 0)/\(∀q,a'=some q->∃p,a=some p/\q.block=p.block)) (λv=>match v with |.slice _ n _=>n|_=>0)
 case atStart=>exact⟨a,cap,l,rfl,i,y,B,hB,rfl,λq h=>⟨q,h,rfl⟩⟩
 case round =>
  obtain⟨a',c,r,rfl,h1,h2,z,g,hd,A⟩:=hrel;have f:=Z hd;have m:=Z g;have s:=Z A;clear hd g A;cases r with
  |nil =>
   go_wp2;go_ret;refine⟨⟨none,0,?_,?_,?_,λq h=>xp⟩,rfl⟩
   .rw[<-f.o];rfl
   .rw[<-f.o];exact YZ _ _
   .rw[<-f.o];exact Yo
  |cons x t =>
   have hx:=m.o 0 zV;obtain⟨b,rfl,k⟩:=hx;have E:=ae m.o;have d:(x::t).length=t.length+1:=rfl;clear k;by_cases h0:x=0
   .subst h0;by_cases u:c=1
    .have D:t=[]:=by
      apply zN;rw[d]at h1;omega
     subst D;subst u;go_wp2;refine⟨⟨some b,0,[],rfl,Y _,zW,zW,YZ _ _,?_,s.o⟩,?_⟩
     .rw[<-f.o];rfl
     .show 0<[0].length;simp
    .have F:((0:Int)<=(t.length+1:Nat) - 1):=(by omega);have C:¬(c:Int)=1:=J;rw[d]at h1 z|-;go_wp2;refine⟨⟨some (b.add 1),c - 1,t,rfl,J,J,J,ai m.o,?_,λq h=>?_⟩,?_⟩
     .rw[<-f.o];rfl
     .cases h;exact s.o b rfl
     .show t.length<t.length+1;omega
   .have k:(x==0)=false:=(by simpa using h0);rw[d]at h1 z|-;have j:l.dropWhile (· == 0)=x::t:=(by rw[<-f.o,fF (by simpa using h0)]);have e:=Z j;clear j h0;go_wp2;go_ret;refine⟨⟨some b,c,?_,?_,?_,s.o⟩,rfl⟩
    .rw[e.o];rfl
    .rw[e.o];exact m.o
    .rw[e.o];simpa using h1
def Nk(l:List Int)(a:Option yI)(cap:Nat)(w:z8)(r:l.length<=1000000)(b:l.length<=cap)(c:cap<=9223372036854775807)(hB:yJ w a l) :
  zE prog 233 #[.slice a l.length cap,.string ⟨#[0]⟩] w (RD a l w):=by
 have k:=Z hB;clear hB;by_cases h0:l=[]
 .subst h0;go_enter func233,ntmps233;go_wp2;go_ret;exact⟨⟨none,0,rfl,YZ _ _,Y _,λq h=>xp⟩,rfl⟩
 .obtain⟨n,hn⟩:∃n,l.length=n+1:=⟨l.length - 1,by have:=zt.2 h0;omega⟩;have h1:((l.length:Int)==0)=false:=by simp;omega
  have g:=Gw l a cap w r b c k.o;have m:=Z g;clear g h0 hn;go_enter func233,ntmps233;go_wp2_with fail;refine m.o.mono ?_;rintro e w1 ⟨⟨a',d,rfl,h2,p,f⟩,rfl⟩;have i:=Z h2;have j:=Z f;clear h2 f;go_wp2;go_ret;exact⟨⟨_,_,rfl,i.o,p,j.o⟩,rfl⟩
def Wx(l:List UInt8):vu l=(xB l).map (Value.int .u8):=by simp[vu,xB]
def rX(l:List UInt8)(a:yI)(cap:Nat)(w:z8)(i:l.length<=1000000)(hB:yJ w (some a) (xB l)) :
  zE prog 234 #[.slice (some a) l.length cap] w λe w'=>(∃v,e = .returned v/\w'.ownsRow (w:Nat) 5 1 v l.length (vu l))/\zR w w':=by
 have h:=Z hB;clear hB;have g:∀W,(binOp .eql 34 (.slice (some a) l.length cap) (.slice none 0 0)).run prog W = .ok (.bool false) W:=λW=>Lib.run_eql_slice_some_nil W _ _ _ underlying34
 go_enter func234,ntmps234;go_wp2_with (at_builtin;refine jx xI rfl _ _ rfl (w:Nat) _ 0 [] rfl (by exact World.ownsRow_lit w _ 0 (Y _) zW rfl) a l.length cap (vu l) rfl BI ?c2 ?c3 J zV ?_)
 case c2 =>
  intro j u hu;have hj:j<(xB l).length:=Wb;obtain⟨b,hb,hc⟩:=h.o j hj;cases hb;rw[bJ _ _ _ (by rw[hc];rfl),hc];exact Wy
 case c3 =>
  exact Wq
 intro v' w1 f d;have hb:zR w w1:=((zu _ _).alloc (Y _) _).grown d zV (λq hq=>AG);clear d;go_wp2;go_ret;exact⟨⟨_,rfl,by simpa using f⟩,hb⟩
end Go.Proofs.YtpggmjffejgakaaGreatDoor
namespace Go.Proofs.YtpggmjffejgakaaGreatDoor
open Go Go.RowKit Go.Shelf Go.Sort
set_option maxRecDepth 10000
variable{xs:List zx}{B cap d n:Nat}{e:xM}{w:z8}
def rV{base g:Nat}{zs:List Int}(h:w.ownsRow base e 1 (.slice (g,0) zs.length cap) zs.length (zs.map (yZ .u8))):Holds (yZ .u8) w g 0 zs.toArray:=by
 intro j hj;have hj':j<zs.length:=My;refine⟨?_,?_⟩
 .rw[uE,h.cellAt j J];simp[hj',getElem!_pos]
 .exact h.frozenAt _
def ao{base g:Nat}{zs:List Int}(h:w.ownsRow base e 1 (.slice (g,0) n cap) n xs)(hz:zs.length=n) :
  (putRow (yZ .u8) w g 0 zs.toArray).ownsRow base e 1 (.slice (g,0) n cap) n (zs.map (yZ .u8)):=by
 refine⟨by simp[hz],?_⟩;rcases h.2 with⟨hv,_⟩|⟨g2,GJ,cur,hv,hg,hh,h1,h2,h3,ht⟩
 .cases hv
 .simp only[gX,vr,YS]at hv;obtain⟨⟨rfl,-⟩,-,rfl⟩:=hv;refine .inr ⟨g,cap,putCells (yZ .u8) 0 zs.toArray cur,rfl,hg,?_,h1,h2,by simpa[putCells]using h3,?_⟩
  .simp[putRow,mapBlock,xc,hh,onCells]
  .apply List.ext_getElem?;intro j;by_cases hj:j<n
   .have hjc:j<cur.size:=(by omega);simp[putCells,OJ,hj,hjc,hz]
   .rw[uG yF,uG yF]
def Nj{a:z8}(h:yE B a w){g:Nat}(hg:B<=g)(d:Array Int):yE B a (putRow (yZ .u8) w g 0 d):=by
 refine h.trans ⟨rfl,rfl,rfl,by simp[putRow,mapBlock],λk hk=>?_⟩;simp only[putRow,mapBlock,xc];rw[yv J]
def RB(g cap base:Nat)(zs:List Int)(w:z8)(hz:zs.length<=2000000000)(h:w.ownsRow base 5 1 (.slice (g,0) zs.length cap) zs.length (zs.map (yZ .u8))) :
  zE prog 192 #[.slice (g,0) zs.length cap] w λe w'=>e = .returned (.tuple #[])/\w'.ownsRow base 5 1 (.slice (g,0) zs.length cap) zs.length (zs.reverse.map (yZ .u8)) /\
   (w':Nat)=(w:Nat)/\(∀k,k≠g->w'.heap[k]? = w.heap[k]?)/\yE base w w':=by
 have hg:base<=g:=(h.lt g rfl).1;refine(AnyE.slices_Reverse Tryz.laysRev (yZ .u8) (λ_=>rfl) g 0 cap zs w (rV h) J).mono ?_;rintro e w' ⟨rfl,n,rfl⟩;have ha:(zzf w n).ownsRow base 5 1 (.slice (zQ g 0) zs.length cap) zs.length (zs.map (yZ .u8)):=h;refine⟨rfl,ao ha zV,by simp[putRow,mapBlock,zzf],λk hk=>?_,Nj (show yE base w (zzf w n) from⟨rfl,rfl,rfl,Y _,λ_ _=>rfl⟩) hg _⟩;simp only[putRow,mapBlock,xc];rw[yv J];rfl
def IN(l:List UInt8):vu l=(xB l).map (Value.int .u8):=by simp[vu,xB]
def X7(h:d<10):((kM d).toNat:Int) - 48=d:=by
 unfold kM;exact B7
def rU(v:Nat)(w:z8)(e:xX)(w':z8):Prop :=
 (∃g cap,e = .returned (.agg #[.bool false,.slice (some ⟨g,0,none⟩) (xU v).length cap,.int .i64 0])/\w'.ownsRow (w:Nat) 5 1 (.slice (some ⟨g,0,none⟩) (xU v).length cap) (xU v).length (vu (xU v)))/\zR w w'
def X8(v:Nat)(w:z8)(hv:v<=1000000000):zE prog 147 #[v] w (rU v w):=by
 have hL:=Oo v;obtain⟨i,hi,hz,h2,h3⟩:=xI.info;go_enter func147,ntmps147;go_wp2;refine Gu ?_;intro W hW;have F:(W:Nat)=(w:Nat)+1/\zR w W/\zk W (w:Nat) 0 (.bool false)/\zk W (w:Nat) 1 (.slice none 0 0)/\zk W (w:Nat) 2 (.int .i64 0)/\W.frozen? (w,1)=false/\W.frozen? (w,0)=false/\W.frozen? (w,2)=false:=by
  subst hW;exact⟨zV,(zu _ _).alloc (Y _) _,uK,uK,uK,uK,by go_simp,by go_simp⟩
 obtain⟨f1,f2,f3,f4,f5,f6,f7,f8⟩:=F;clear hW;go_loopw [0,3] (λn ok wr=>∃(m:Nat) (acc:List UInt8) (sv:zx) (b:Bool),n = .int .i64 m/\ok = .bool b/\m<=v/\wr.ownsRow ((w:Nat)+1) 5 1 sv acc.length (vu acc)/\zR w wr/\(w:Nat)<wr.heap.size /\
   wr.cell? (w,0)=some (.bool false)/\zk wr (w:Nat) 1 sv/\zk wr (w:Nat) 2 (.int .i64 0)/\wr.frozen? (w,1)=false/\wr.frozen? (w,0)=false/\wr.frozen? (w,2)=false /\
   (b=true->xU v=xU m++acc.reverse)/\(b=false->xU v=acc.reverse)) (λn ok _=>(intOf n).toNat+match ok with |.bool true=>1|_=>0)
 case atStart=>exact⟨v,[],.slice none 0 0,true,rfl,rfl,Y _,xz _ _ _ _,f2,J,f3,f4,f5,f6,f7,f8,λ_=>zV,λh=>xp⟩
 case round =>
  obtain⟨m,acc,sv,b,rfl,rfl,hm,uW,hb,hs,g0,g1,g2,g3,g4,g5,ht,hf⟩:=hrel;clear f2 f3 f4 f5 f6 f7 f8;cases b with
  |false =>
   have hd:=hf rfl;clear ht hf;have yu5:acc.length=(xU v).length:=(by rw[hd];simp);have hlen:0<acc.length:=by
    rw[yu5];by_cases wL:v<10
    .rw[qk wL];simp
    .rw[fO wL];simp
   obtain⟨g,cap,rfl,hg0,FD,hgc⟩:=xY uW hlen;have hR:=RB g cap ((w:Nat)+1) (xB acc) wr (by simp[xB];omega) (by rw[<-IN];simpa[xB]using uW);have hvl:(xB acc).length=acc.length:=GM;have hrd:(xB acc).reverse.map (yZ .u8)=vu (xU v):=(by rw[hd,IN];simp[xB,List.map_reverse]);rw[hvl,hrd,yu5]at hR;rw[yu5]at g1;have HR:=Z hR;clear hR hrd hd yu5 hvl hgc uW;go_wp2_with fail;refine HR.o.mono ?_;rintro e w1 ⟨rfl,RE,Z0,ar,qI⟩;have gN:(w:Nat)≠g:=J;have e0:zk w1 (w:Nat) 0 (.bool false):=(yD (ar _ gN)).trans g0;have e1:zk w1 (w:Nat) 1 (.slice (g,0) (xU v).length cap):=(yD (ar _ gN)).trans g1;have e2:zk w1 (w:Nat) 2 (.int .i64 0):=(yD (ar _ gN)).trans g2;have OM:zR w w1:=hb.trans (qI.mono J);have z1:w1.frozen? (w,1)=false:=(zU (ar _ gN)).trans g3;have z0:w1.frozen? (w,0)=false:=(zU (ar _ gN)).trans g4;have z2:w1.frozen? (w,2)=false:=(zU (ar _ gN)).trans g5;clear ar g0 g1 g2 g3 g4 g5;go_wp2;refine yU (v := .agg #[.bool false,.slice (g,0) (xU v).length cap,.int .i64 0]) ?_ rfl ?_
   .simp[yN,results147,go_sem,e0,e1,e2]
   have hn:some (w:Nat)≠(ux (g,0) (xU v).length cap).ownBlock:=λe=>gN (by simpa[yA]using e)
   exact⟨⟨g,cap,rfl,vz (vz (vz (bL RE (dJ _)) hn _) hn _) hn _⟩,((OM.setCell (Y _) _).setCell (Y _) _).setCell (Y _) _⟩
  |true =>
   have hd:=ht rfl;have HD:=Z hd;clear ht hf hd;go_wp2_with (at_builtin;refine jx xI rfl _ _ rfl ((w:Nat)+1) sv acc.length (vu acc) rfl (uW.alloc _) ⟨(wr:Nat),0,none⟩ 1 1 [.int .u8 ((m:Int) % 10)] rfl rfl K8 (by intro u hu;simp at hu;subst hu;rfl) ?c3 yF ?_)
   case c3 =>
    have:=congrArg xJ HD.o;simp at this;omega
   intro ir w1 RE Z6;have qI:zR w w1:=(hb.alloc hb.size _).grown Z6 Z1 (λq hq=>by have:=(uW.lt q hq).1;omega);have gN:some (w:Nat)≠sv.ownBlock:=λe=>by have:=(uW.lt _ e.symm).1;omega
   have k0:zk w1 (w:Nat) 0 (.bool false):=Z6.cell ((zc _ _ _ hs).trans g0) gN;have k1:zk w1 (w:Nat) 1 sv:=Z6.cell ((zc _ _ _ hs).trans g1) gN;have k2:zk w1 (w:Nat) 2 (.int .i64 0):=Z6.cell ((zc _ _ _ hs).trans g2) gN;have k3:w1.frozen? (zQ (w:Nat) 1)=false:=(zU (Z6.block (w:Nat) yF gN)).trans ((zU (xQ _ _ _ hs)).trans g3);have k4:w1.frozen? (zQ (w:Nat) 0)=false:=(zU (Z6.block (w:Nat) yF gN)).trans ((zU (xQ _ _ _ hs)).trans g4);have k5:w1.frozen? (zQ (w:Nat) 2)=false:=(zU (Z6.block (w:Nat) yF gN)).trans ((zU (xQ _ _ _ hs)).trans g5);have Vu:(w:Nat)<(w1:Nat):=X w1 _ k0;have hq:((m:Int).tdiv 10)=((m / 10:Nat):Int):=(by rw[Int.tdiv_eq_ediv_of_nonneg J];rfl);obtain⟨a1,c1,rfl⟩:=zo RE;clear Z6 uW g0 g1 g2 g3 g4 g5 hb hs;go_wp2;have xij:(w1.setCell (w,1) (.slice a1 (acc.length+1) c1)).ownsRow ((w:Nat)+1) 5 1 (.slice a1 (acc.length+1) c1) (acc.length+1) (vu acc++[.int .u8 ((m:Int) % 10)]) :=
    vz RE (λe=>by have:=(RE.lt _ e.symm).1;simp at this;omega) _
   have EB:vu (acc++[kM (m % 10)])=vu acc++[.int .u8 ((m:Int) % 10)]:=by
    have wL:=X7 (d:=m % 10) J;simp only[vu,Tn,vV,De,wL];rfl
   refine⟨⟨m / 10,acc++[kM (m % 10)],.slice a1 (acc.length+1) c1,decide (0<m / 10),uN,?_,J,?_,qI.setCell (Y _) _,by simpa[xu]using Vu,?_,?_,?_,?_,?_,?_,?_,?_⟩,?_⟩
   .congr 1;exact decide_eq_decide.2 J
   .rw[EB];simpa using xij
   .go_simp
   .go_simp
   .go_simp
   .go_simp
   .go_simp
   .go_simp
   .intro h;have wL:0<m / 10:=of_decide_eq_true h;rw[HD.o,fO J];simp
   .intro h;have wL:¬0<m / 10:=of_decide_eq_false h;have:m % 10=m:=(by omega);rw[HD.o,qk J,this];simp
   .by_cases wL:0<m / 10
    .have:decide (0<(m:Int) / 10)=true:=decide_eq_true J;rw[this];simp[intOf];omega
    .have:decide (0<(m:Int) / 10)=false:=decide_eq_false J;rw[this];simp[intOf];omega
end Go.Proofs.YtpggmjffejgakaaGreatDoor
namespace Go.Proofs.YtpggmjffejgakaaGreatDoor
open Go Go.RowKit
set_option maxRecDepth 10000
variable{l:List UInt8}{cap n:Nat}{v:zx}{w w':z8}
structure Ng(x:Dg):Prop where
 zcb:x.1.all yC=true
 zk8:x.2.all yC=true
 ne:x.1≠[]
 C9:x.1.length<=100
 Dk:x.2.length<=100
def q9(w:z8)(v:zx)(x:Dg):Prop :=
 ∃b g o cap,v = .agg #[.bool b,.slice (some ⟨g,o,none⟩) (x.1.length+x.2.length) cap,.int .i64 x.2.length]/\x.1.length+x.2.length<=cap/\cap<=vp/\(∃c,zk w g 0 (.int .u8 c))/\yJ w (some ⟨g,o,none⟩) (xB (x.1++x.2))/\Ng x
def q9.below{x:Dg}(h:q9 w v x)(hb:zR w w'):q9 w' v x:=by
 obtain⟨b,g,o,cap,h1,h2,a,c,d,e⟩:=h;exact⟨b,g,o,cap,h1,h2,a,c.imp λ_ hc=>(hb.cell (X w _ hc)).trans hc,d.below hb,e⟩
def q9.ok{x:Dg}(h:q9 w v x):Ng x:=by
 obtain⟨b,g,o,cap,h1,h2,c,d,e,a⟩:=h;exact a
def FT(a b:List UInt8):xB (a++b)=xB a++xB b:=GM
def xW(a:List UInt8):(xB a).length=a.length:=GM
def rQ(l:List UInt8):(xB l).dropWhile (· == 0)=xB (l.dropWhile (· == 48)):=by
 induction l with
 |nil=>rfl
 |cons c t d =>
  have h2:=YA c 48;have b:((48:UInt8).toNat:Int)=48:=rfl;rw[b]at h2;have a:(((c.toNat:Int) - 48)==0)=(c==48):=zv1;rw[show xB (c::t)=((c.toNat:Int) - 48)::xB t from rfl];by_cases hc:(c==48)=true
  .rw[VU (p:=λx:Int=>x==0) (a.trans hc),VU (p:=λx:UInt8=>x==48) hc,d]
  .rw[fF (p:=λx:Int=>x==0) (by rw[a];exact hc),fF (p:=λx:UInt8=>x==48) hc];rfl
def Kk(l:List UInt8):gZ l=if l.dropWhile (· == 48)=[]then [48]else l.dropWhile (· == 48):=by
 unfold gZ;by_cases h:l=[]
 .subst h;rfl
 .rw[yv h];induction l with
  |nil=>exact absurd rfl h
  |cons c t b =>
   by_cases hc:c=48
   .subst hc;rw[VU zW];by_cases a:t=[]
    .subst a;rfl
    .rw[aP a rfl,b a]
   .rw[aR hc,fF (by simpa using hc),yv zV]
def rK(h:l.all yC=true):(gZ l).all yC=true:=by
 rw[Kk];split
 .decide
 .rw[zm]at h|-;exactλc hc=>h c ((di _).subset hc)
def rJ(l:List UInt8):(gZ l).length<=l.length\/(gZ l).length=1:=by
 rw[Kk];split
 .exact .inr rfl
 .exact .inl (di (· == 48) (l:=l)).length_le
def Kh(n:Nat):(xU n).all yC=true:=by
 induction n using Nat.strongRecOn with
 |_ n a =>
  have hd:∀d,d<10->yC (kM d)=true:=by
   intro d h;rw[vy];have:=X7 h;omega
  by_cases h:n<10
  .rw[qk h];simp[hd n h]
  .rw[fO h,uJ,a (n / 10) J];simp[hd (n % 10) J]
def Qy(n:Nat):xU n≠[]:=by
 by_cases h:n<10
 .rw[qk h];simp
 .rw[fO h];simp
def jN:∀(k n:Nat),n<10 ^ (k+1)->(xU n).length<=k+1
 | 0,n,h=>by rw[qk QH];simp
 |k+1,n,h=>by
  by_cases a:n<10
  .rw[qk a];simp
  .rw[fO a];have:=jN k (n / 10) (by rw[fC]at h;omega);simp;omega
def kl(x:Dg)(w:z8)(e:xX)(w':z8):Prop:=(∃v,e = .returned v/\q9 w' v x)/\zR w w'
def Kt{g:Nat}{b:Bool}{d:List UInt8}{x:Dg}(hx:x.1++x.2=d)(hn:n=d.length)(h:w'.ownsRow (w:Nat) 5 1 (.slice (g,0) n cap) n (vu d))(a:Ng x) :
  q9 w' (.agg #[.bool b,.slice (g,0) n cap,.int .i64 x.2.length]) x:=by
 subst hn;have j:x.1.length+x.2.length=d.length:=by rw[<-hx];simp
 have hB:=j7 h rfl;rw[<-hx]at hB;have e:∃c,zk w' g 0 (.int .u8 c):=by
  obtain⟨q,k,hc⟩:=hB 0 (by rw[xW,zy];have:=zt.2 a.ne;omega);cases k;exact⟨_,hc⟩
 refine⟨b,g,0,cap,by rw[j],?_,?_,e,hB,a⟩;all_goals
  rcases h.2 with⟨hv,_⟩|⟨g2,f,i,hv,_,_,h1,h2,_⟩
  .cases hv
  .cases hv;omega
def IP(v:Nat)(w:z8)(hv:v<=1000000000):zE prog 147 #[v] w (kl (xU v,[]) w):=by
 refine(X8 v w hv).mono ?_;rintro e w' ⟨⟨g,cap,rfl,a⟩,hb⟩;have:=jN 9 v J;exact⟨⟨_,rfl,Kt (x:=(xU v,[])) (qt _) rfl a ⟨Kh v,rfl,Qy v,by show(xU v).length<=100;omega,zV⟩⟩,hb⟩
def Cz(l:List UInt8)(a:Option yI)(cap:Nat)(w:z8)(hd:l.all yC=true)(T:l.length<=100)(s:l.length<=cap)(H:cap<=vp)(hB:yJ w a (xB l)) :
  zE prog 202 #[.slice a l.length cap] w (kl (gZ l,[]) w):=by
 have z:=xW l;have E:=Nk (xB l) a cap;rw[z]at E;have M:=Z E;have L:=Z hB;obtain⟨r,hr⟩:=zw (l.dropWhile (· == 48));have y:(xB l).dropWhile (· == 0)=xB r:=by rw[rQ,hr]
 have u:gZ l=if r=[]then [48]else r:=by rw[Kk,hr]
 have j:=rK hd;have Q:=rJ l;have n:=Z u;have D:=Z y;have B:=Z j;clear E hB z hr y u j;go_enter func202,ntmps202;go_wp2_with fail;refine(M.o _ J s (by unfold vp at H;omega) ?_).mono ?_
 .exact L.o.alloc _
 rintro e w1 ⟨⟨a',q,rfl,h2,R,S⟩,rfl⟩;rw[D.o,xW]at *;obtain⟨W,G⟩:∃W,W=w.alloc (.cells #[.bool false,.slice none 0 0,.int .i64 0] 99):=⟨_,rfl⟩;have F:W.heap.size=(w:Nat)+1/\zR w W/\zk W (w:Nat) 0 (.bool false)/\zk W (w:Nat) 1 (.slice none 0 0)/\W.cell? (zQ (w:Nat) 2)=some (.int .i64 0) /\
   W.frozen? (w,0)=false/\W.frozen? (w,1)=false/\W.frozen? (w,2)=false:=by
  subst G;exact⟨zV,(zu _ _).alloc (Y _) _,uK,uK,uK,uK,by go_simp,by go_simp⟩
 obtain⟨f1,f2,f3,f4,f5,f6,f7,f8⟩:=F;rw[<-G]at h2|-;clear G;have f:(w:Nat)<(W:Nat):=J;by_cases i:r=[]
 .have hp:=n.o;rw[yK i]at hp;have A:=Z hp;clear hp;subst i;go_wp2_with fail;refine(X8 0 _ J).mono ?_;rintro e w2 ⟨⟨g,h,rfl,t⟩,c⟩;have c0:=(c.cell (p:=(zQ (w:Nat) 0)) f).trans f3;have c1:=(c.cell (p:=(zQ (w:Nat) 1)) f).trans f4;have c2:=(c.cell (p:=(zQ (w:Nat) 2)) f).trans f5;have z0:=(c.frozen (p:=(zQ (w:Nat) 0)) f).trans f6;have z1:=(c.frozen (p:=(zQ (w:Nat) 1)) f).trans f7;have z2:=(c.frozen (p:=(zQ (w:Nat) 2)) f).trans f8;have N:=(t.lt g rfl).1;have m:zR w w2:=f2.trans (c.mono J);clear f3 f4 f5 f6 f7 f8 c f2;go_wp2;refine yU (v := .agg #[.bool false,.slice (zQ g 0) (xU 0).length h,.int .i64 0]) ?_ rfl ?_
  .simp[yN,results202,go_sem,c0,c1,c2]
  have hn:some (w:Nat)≠(ux (g,0) (xU 0).length h).ownBlock:=λe=>by simp[yA]at e;omega
  rw[A.o];exact⟨⟨_,rfl,Kt (w:=w) (x:=([48],[])) (d:=xU 0) (by rw[qk zW];rfl) rfl (vz (vz (vz (bL t J) hn _) hn _) hn _) ⟨zW,rfl,zV,zV,zV⟩⟩,((m.setCell (Y _) _).setCell (Y _) _).setCell (Y _) _⟩
 .have hp:=n.o;rw[yv i]at hp;have A:=Z hp;clear hp;have k:0<r.length:=zt.2 i;obtain⟨b,rfl,_⟩:=h2 0 (by rw[xW];exact k);have P:((r.length:Int)==0)=false:=by simp;omega
  have I:r.length<=100:=by rw[<-A.o];omega
  have K:=Z h2;have C:=Z i;clear h2 i;go_wp2_with fail;refine(rX r b q _ J K.o).mono ?_;rintro e w2 ⟨⟨v,rfl,t⟩,c⟩;obtain⟨g,h,rfl,N,O,_⟩:=xY t k;have c0:=(c.cell (p:=(w,0)) f).trans f3;have c1:=(c.cell (p:=(w,1)) f).trans f4;have c2:=(c.cell (p:=(w,2)) f).trans f5;have z0:=(c.frozen (p:=(w,0)) f).trans f6;have z1:=(c.frozen (p:=(w,1)) f).trans f7;have z2:=(c.frozen (p:=(w,2)) f).trans f8;have m:zR w w2:=f2.trans (c.mono J);clear f3 f4 f5 f6 f7 f8 c f2;go_wp2;refine yU (v := .agg #[.bool false,.slice (g,0) r.length h,.int .i64 0]) ?_ rfl ?_
  .simp[yN,results202,go_sem,c0,c1,c2]
  have hn:some (w:Nat)≠(ux (g,0) r.length h).ownBlock:=λe=>by simp[yA]at e;omega
  have j:=B.o;rw[A.o]at j|-;exact⟨⟨_,rfl,Kt (w:=w) (x:=(r,[])) (qt _) rfl (vz (vz (vz (bL t J) hn _) hn _) hn _) ⟨j,rfl,C.o,I,zV⟩⟩,((m.setCell (Y _) _).setCell (Y _) _).setCell (Y _) _⟩
def rG(h:l.all yC=true):∀x∈xB l,0<=x/\x<=9:=by
 intro x hx;simp only[xB,uy]at hx;obtain⟨c,hc,rfl⟩:=hx;have:=(vy c).1 (zm.1 h c hc);omega
def yu6(l:List UInt8):(xB l).any (· != 0)=brk l:=by
 have:=zero_eq l;unfold brk;have h2:(l.all (· == 48)) = !(l.any (· != 48)):=by
  rw[List.all_eq_not_any_not];rfl
 rw[h2]at this;simpa using congrArg (λb => !b) this
def ze0(g o:Nat)(n cap sc:Nat)(b:Bool)(l:List Int)(w:z8)(h:l.length=n)(hs:sc<=n)(d:n<=cap)(hn:n<=1000000)(hB:yJ w (some ⟨g,o,none⟩) l) :
  zE prog 71 #[.agg #[.bool b,.slice (g,o) n cap,sc]] w λe w'=>(∃c a,e = .returned (.slice c (n - sc) a)/\n - sc<=a/\a<=cap/\yJ w' c (l.take (n - sc)))/\zR w w':=by
 obtain⟨k,f⟩:∃k,n=k+sc:=⟨n - sc,J⟩;subst f;rw[show k+sc - sc=k from J];have h0:(0:Int)<=((k+sc:Nat):Int) - (sc:Int):=J;have h1:((k+sc:Nat):Int) - (sc:Int)=(k:Int):=J;have h2:k<=cap:=J;go_enter func71,ntmps71;go_wp2;go_ret;exact⟨⟨_,_,rfl,J,J,(hB.alloc _).take k⟩,(zu _ _).alloc (Y _) _⟩
def rF(g o:Nat)(n cap sc:Nat)(b:Bool)(l:List Int)(w:z8)(q:l.length=n)(hs:sc<=n)(d:n<=cap)(hn:n<=1000000)(hB:yJ w (some ⟨g,o,none⟩) l) :
  zE prog 73 #[.agg #[.bool b,.slice (g,o) n cap,sc]] w λe w'=>(∃c a,e = .returned (.slice (some c) sc a)/\sc<=a/\a<=cap/\yJ w' (some c) (l.drop (n - sc)))/\zR w w':=by
 obtain⟨k,p⟩:∃k,n=k+sc:=⟨n - sc,J⟩;subst p;rw[show k+sc - sc=k from J];have h1:((k+sc:Nat):Int) - (sc:Int)=(k:Int):=J;have h2:k<=cap:=J;go_enter func73,ntmps73;by_cases i:cap=k
 .have f:l.drop k=[]:=yL J;have h:=Z f;clear f;go_wp2;go_ret;refine⟨⟨_,_,rfl,J,J,?_⟩,(zu _ _).alloc (Y _) _⟩;rw[h.o];intro j m;simp at m
 .go_wp2;go_ret;exact⟨⟨_,_,rfl,J,J,(hB.alloc _).drop k⟩,(zu _ _).alloc (Y _) _⟩
def F4(v:zx)(x:Dg)(w:z8)(h:q9 w v x) :
  zE prog 73 #[v] w λe w'=>(∃c a,e = .returned (.slice (some c) x.2.length a)/\x.2.length<=a/\a<=vp/\yJ w' (some c) (xB x.2))/\zR w w':=by
 obtain⟨b,g,go,cap,rfl,h2,m,n,i,f⟩:=h;have j:=f.C9;have k:=f.Dk;refine(rF g go (x.1.length+x.2.length) cap x.2.length b (xB (x.1++x.2)) w (by rw[xW];simp) J h2 J i).mono ?_;rintro e w' ⟨⟨c,a,rfl,d,l,hB⟩,hb⟩;refine⟨⟨c,a,rfl,d,J,?_⟩,hb⟩;have:(xB (x.1++x.2)).drop (x.1.length+x.2.length - x.2.length)=xB x.2:=by
  rw[Z3,FT,List.drop_append_of_le_length (by rw[xW];exact Y _),yL (by rw[xW];exact Y _),xV]
 rw[this]at hB;exact hB
def Cy(v:zx)(x:Dg)(w:z8)(h:q9 w v x) :
  zE prog 73 #[v] w λe w'=>(∃d b,e = .returned (.slice d x.2.length b)/\x.2.length<=b/\b<=vp/\yJ w' d (xB x.2))/\zR w w' :=
 (F4 v x w h).mono λ_ _ ⟨⟨a,c,h1,h2,f,g⟩,hb⟩=>⟨⟨some a,c,h1,h2,f,g⟩,hb⟩
def Nf(v:zx)(x:Dg)(w:z8)(h:q9 w v x) :
  zE prog 71 #[v] w λe w'=>(∃c a,e = .returned (.slice c x.1.length a)/\x.1.length<=a/\a<=vp/\yJ w' c (xB x.1))/\zR w w':=by
 obtain⟨b,g,go,cap,rfl,h2,m,n,i,f⟩:=h;have j:=f.C9;have k:=f.Dk;refine(ze0 g go (x.1.length+x.2.length) cap x.2.length b (xB (x.1++x.2)) w (by rw[xW];simp) J h2 J i).mono ?_;rintro e w' ⟨⟨c,a,rfl,d,l,hB⟩,hb⟩;rw[Z3]at hB d|-;refine⟨⟨c,a,rfl,d,J,?_⟩,hb⟩;have:(xB (x.1++x.2)).take x.1.length=xB x.1:=by
  rw[FT,List.take_append_of_le_length (by rw[xW];exact Y _),ye (by rw[xW];exact Y _)]
 rw[this]at hB;exact hB
def Cx(v:zx)(x:Dg)(w:z8)(h:q9 w v x) :
  zE prog 194 #[v] w λe w'=>e = .returned (.bool (brk x.2))/\zR w w':=by
 have hb:=yu6 x.2;have p:=h.ok.Dk;have hF:=λW (n:q9 W v x)=>Cy v x W n
 have l:=Z hF;have m:=Z h;have j:=Z hb;obtain⟨b,g,go,cap,rfl,_,_,_,_,_⟩:=h;clear hF hb;go_enter func194,ntmps194;go_wp2_with fail;refine(l.o _ (m.o.below ((zu _ _).alloc (Y _) _))).mono ?_;rintro e w1 ⟨⟨d,a,rfl,_,_,hB⟩,c⟩;have i:zR w w1:=((zu _ _).alloc (Y _) _).trans (c.mono zV);have f:=UJ (xB x.2) d a w1 (by rw[xW];omega) hB;rw[xW,j.o]at f;have k:=Z f;clear f hB c;go_wp2_with fail;refine k.o.mono ?_;rintro e w2 ⟨rfl,rfl⟩;go_wp2;go_ret;exact⟨rfl,i⟩
def yu7(v:zx)(x:Dg)(w:z8)(h:q9 w v x):zE prog 200 #[v] w (kl x w):=by
 have f:=Z h;obtain⟨b,g,go,cap,rfl,h2,a,c,d,e⟩:=h;go_enter func200,ntmps200;go_wp2;refine yU (v := .agg #[.bool false,.slice (g,go) (x.1.length+x.2.length) cap,.int .i64 x.2.length]) ?_ rfl ?_
 .simp[yN,results200,go_sem]
 have hb:yE w w ((w.alloc (.cells #[.bool false,.slice (g,go) (x.1.length+x.2.length) cap,.int .i64 x.2.length] 99)).alloc (.cells #[.bool false,.slice (g,go) (x.1.length+x.2.length) cap,.int .i64 x.2.length] 99)):=((zu _ _).alloc (Y _) _).alloc zV _;exact⟨⟨_,rfl,false,g,go,cap,rfl,h2,a,c.imp λ_ hc=>(hb.cell (X w _ hc)).trans hc,d.below hb,e⟩,hb⟩
variable{k:Nat}{x:Wd}
def IW(l:Wd)(c:UInt8):yb (l++[c])=10*yb l+(c.toNat - 48):=by simp[yb]
def RH(l:Wd):∀v,l.foldl (λv c=>10*v+(c.toNat - 48)) v=v*10 ^ l.length+yb l:=by
 induction l with
 |nil=>intro v;simp[yb]
 |cons c t a =>
  intro v;unfold yb;rw[vP,vP,a,a,zY,fC];simp only[iZ,uE,kh];rw[dU 10 v,Up,dU 10 (10 ^ t.length),uR]
def qE(c:UInt8)(l:Wd):yb (c::l)=(c.toNat - 48)*10 ^ l.length+yb l:=by
 rw[yb,vP,RH];simp
def ze1(a b:Wd):yb (a++b)=yb a*10 ^ b.length+yb b:=by rw[yb,TF,RH];rfl
def JB(k:Nat)(l:Wd):yb (zX k 48++l)=yb l:=by
 induction k with
 |zero=>simp
 |succ k a =>
  rw[qa,xd,qE,a];simp
def UD(k:Nat):yb (zX k 48)=0:=by
 have:=JB k [];rw[qt]at this;rw[this];rfl
def RI(l:Wd)(k:Nat):yb (l++zX k 48)=yb l*10 ^ k:=by rw[ze1,UD];simp
def jf{c:UInt8}(h:yC c=true):48<=c.toNat/\c.toNat<=57:=by have:=(vy c).1 h;omega
def JC:∀(l:Wd),l.all yC=true->yb l<10 ^ l.length
 |[],_=>by simp[yb]
 |c::l,h=>by
  rw[u7,zv]at h;have h1:=JC l h.2;have h2:=jf h.1;rw[qE,zY,fC];have a:(c.toNat - 48)*10 ^ l.length<=9*10 ^ l.length:=uM _ J;omega
def IA{c:UInt8}(h:yC c=true):kM (c.toNat - 48)=c:=by
 have h2:=jf h;unfold kM;apply Y9;exact B7
def RL{c:UInt8}{l:Wd}(hc:yC c=true)(h:c≠48):10 ^ l.length<=yb (c::l):=by
 have h2:=jf hc;have a:c.toNat≠48:=λe=>h (Y9 e)
 rw[qE];have:1*10 ^ l.length<=(c.toNat - 48)*10 ^ l.length:=uM _ J;omega
def Nd:∀(n:Nat) (l:Wd),l.length=n->l.all yC=true->(l.headD 48≠48\/l.length=1)->xU (yb l)=l
 | 0,l,h,_,h2=>by
  have:l=[]:=zN h;subst this;simp at h2
 |n+1,l,h,hd,h2=>by
  rcases List.eq_nil_or_concat l with rfl|⟨l',c,rfl⟩
  .simp at h
  .rw[List.concat_eq_append]at *;rw[uJ,zv]at hd;have hc:yC c=true:=(by simpa using hd.2);have d:=jf hc;rw[IW];cases l' with
   |nil =>
    rw[show yb []=0 from rfl,iZ,uE,qk J,IA hc];rfl
   |cons a t =>
    have ha:a≠48:=by
     rcases h2 with h2|h2
     .simpa using h2
     .simp at h2
    have b:yC a=true:=by
     have:=hd.1;rw[u7,zv]at this;exact this.1
    have e:=RL (l:=t) b ha;have f:1<=10 ^ t.length:=xu4 _ _ J;rw[fO J,show(10*yb (a::t)+(c.toNat - 48)) / 10=yb (a::t)by omega,show(10*yb (a::t)+(c.toNat - 48)) % 10=c.toNat - 48 by omega,IA hc,
     Nd n (a::t) (by simp at h|-;omega) hd.1 (.inl (by simpa using ha))]
def mZ(n:Nat):yb (xU n)=n:=by
 induction n using Nat.strongRecOn with
 |_ n a =>
  have hd:∀d,d<10->(kM d).toNat - 48=d:=by
   intro d h;unfold kM;exact B7
  by_cases h:n<10
  .rw[qk h,qE];simp[hd n h,yb]
  .rw[fO h,IW,a (n / 10) J,hd _ J];omega
def mY:∀(l:Wd),l.all yC=true->l≠[]->dO l.length (xU (yb l))=l
 |[],_,h=>absurd rfl h
 |c::t,hd,_=>by
  by_cases hc:c=48
  .subst hc;have a:t.all yC=true:=by
    rw[u7,zv]at hd;exact hd.2
   have e:yb (48::t)=yb t:=(by rw[qE];simp);rw[e];by_cases d:t=[]
   .subst d;rw[show yb []=0 from rfl,qk J];rfl
   .have b:=mY t a d;have f:(xU (yb t)).length<=t.length:=by
     have:=congrArg xJ b;rw[dO,zy,fL]at this;omega
    unfold dO at b|-;rw[zY,show t.length+1 - (xU (yb t)).length=(t.length - (xU (yb t)).length)+1 by omega,qa,xd,b]
  .rw[Nd _ (c::t) rfl hd (.inl (by simpa using hc))];simp[dO]
def mX{d:Wd}(hd:d.all yC=true)(a:d≠[])(b:k<=d.length)(h:d.length=k\/d.headD 48≠48):dO k (xU (yb d))=d:=by
 rcases h with h|h
 .rw[<-h];exact mY d hd a
 .rw[Nd _ d rfl hd (.inl h),dO,Nat.sub_eq_zero_of_le b];rfl
def DO(k:Nat)(l:Wd):(dO k l).length=max k l.length:=by rw[dO,zy,fL];omega
def mV{l:Wd}(h:l.all yC=true):(dO k l).all yC=true:=by
 rw[dO,uJ,h,zzj,zm];intro c hc;rw[dQ hc];rfl
def Cv:∀{l:Wd},l.all yC=true->((l.all (· == 48))=true ↔ yb l=0)
 |[],_=>by simp[yb]
 |c::t,h=>by
  rw[u7,zv]at h;have h1:=Cv h.2;rw[u7,zv,beq_iff_eq,h1];by_cases hc:c=48
  .subst hc;rw[qE];simp
  .have:=RL (l:=t) h.1 hc;have a:1<=10 ^ t.length:=xu4 _ _ J;simp only[hc,false_and,false_iff];omega
def RM:∀(x y:Wd),x.length=y.length->x.all yC=true->y.all yC=true->(bH x y=true ↔ yb x<yb y)
 |[],[],_,_,_=>by simp[bH]
 |[],_::_,h,_,_=>Vr
 |_::_,[],h,_,_=>Vr
 |a::x,b::y,h,hx,hy=>by
  rw[u7,zv]at hx hy;have f:x.length=y.length:=QH;have i:=RM x y f hx.2 hy.2;have h1:=JC x hx.2;have h2:=JC y hy.2;have ha:=jf hx.1;have hb:=jf hy.1;rw[f]at h1;rw[bH,vW,decide_eq_true_eq,zv,beq_iff_eq,i,To,qE,qE,f];by_cases g:a.toNat<b.toNat
  .have c:(a.toNat - 48+1)*10 ^ y.length<=(b.toNat - 48)*10 ^ y.length:=uM _ J;rw[kh,vq4]at c;simp only[g,true_or,true_iff];omega
  .by_cases d:a=b
   .subst d;simp
   .have j:b.toNat<a.toNat:=by
     have:a.toNat≠b.toNat:=λe=>d (Y9 e)
     omega
    have c:(b.toNat - 48+1)*10 ^ y.length<=(a.toNat - 48)*10 ^ y.length:=uM _ J;rw[kh,vq4]at c;simp only[g,d,false_or,false_and,false_iff];omega
def ze2{y:Wd}(h:x.length=y.length)(hx:x.all yC=true)(hy:y.all yC=true):(if bH x y=true then (-1:Int)else if x=y then 0 else 1)<0 ↔ yb x<yb y:=by
 rw[<-RM x y h hx hy];split
 .next h1=>simp[h1]
 .next h1 =>
  simp only[h1];split<;>simp
def ah{a:Option yI}{l:List Int}(h:yJ w a l)(k:Nat):yJ w a (l.take k):=λj hj=>by
 obtain⟨b,h1,h2⟩:=h j GU;exact⟨b,h1,BG⟩
def aw(a:k<l.length)(h:l[k]=48):uP (l.take (k+1))=uP (l.take k):=by
 rw[yj a,h,short_zero]
def c8(a:k<l.length)(h:¬l[k]=48):uP (l.take (k+1))=l.take (k+1):=by
 rw[yj a,aS _ _ h]
def Nb(c:UInt8):(((c.toNat:Int) - 48)==0)=(c==48):=by
 have h2:=YA c 48;have a:((48:UInt8).toNat:Int)=48:=rfl;rw[a]at h2;exact zv1
def Ia(v:zx)(x:Dg)(w:z8)(h:q9 w v x) :
  zE prog 205 #[v] w λe w'=>(∃ad cap,e = .returned (.slice ad (uP x.2).length cap)/\yJ w' ad (xB (uP x.2))/\(uP x.2).length<=cap/\cap<=vp)/\zR w w':=by
 have L:=h.ok.Dk;have hF:=λW (I:q9 W v x)=>Cy v x W I
 have F:=Z hF;have G:=Z h;obtain⟨b,g,go,cap,rfl,_,_,_,_,_⟩:=h;clear hF;go_enter func205,ntmps205;go_wp2_with fail;refine(F.o _ (G.o.below ((zu _ _).alloc (Y _) _))).mono ?_;rintro e w1 ⟨⟨r,i,rfl,y,D,hB⟩,s⟩;have t:zR w w1:=((zu _ _).alloc (Y _) _).trans (s.mono zV);have B:=Z hB;have K:i<=9223372036854775807:=by unfold vp at D;omega
 clear s hB;obtain⟨f,hf⟩:∃f,f=x.2:=⟨_,rfl⟩;rw[<-hf]at L y B|-;have q:=Z hf;clear hf;go_wp2_with fail;go_loop [3] (λu=>∃k a:Nat,k<=f.length/\u = .slice r k a/\k<=a/\a<=i/\uP (f.take k)=uP f) (λu=>match u with |.slice _ n _=>n|_=>0)
 case atStart=>exact⟨f.length,i,Y _,rfl,y,Y _,by rw[YP]⟩
 case round =>
  obtain⟨k,a,O,rfl,h1,h2,hs⟩:=hrel;have C:=Z hs;clear hs;by_cases h0:k=0
  .subst h0;have l:uP f=[]:=(by rw[<-C.o];rfl);have H:=Z l;clear l;go_wp2;go_ret;rw[<-q.o,H.o];exact⟨⟨r,a,rfl,YZ _ _,zJ _,J⟩,t⟩
  .obtain⟨m,rfl⟩:∃m,k=m+1:=⟨k - 1,J⟩;have hm:m<f.length:=(by omega);obtain⟨p,rfl,hc⟩:=B.o m (by rw[xW];exact hm);have A:(xB f)[m]'(by rw[xW];exact hm)=(f[m].toNat:Int) - 48:=GM;rw[A]at hc;have l:=Nb f[m];have M:((m+1:Nat):Int) - 1=(m:Int):=J;have N:(0:Int)<=((m+1:Nat):Int) - 1:=J;clear A;by_cases d:f[m]=48
   .have E:(((f[m].toNat:Int) - 48)==0)=true:=(by rw[l,d];rfl);have c:=aw hm d;rw[C.o]at c;have j:=Z c;clear c l d;go_wp2;exact⟨⟨m,a,J,rfl,J,h2,j.o.symm⟩,dK _⟩
   .have E:(((f[m].toNat:Int) - 48)==0)=false:=(by rw[l];simpa using d);have c:=c8 hm d;rw[C.o]at c;have j:=Z c;clear c l d;go_wp2;go_ret;have z:(uP f).length=m+1:=(by rw[j.o];simp;omega);rw[<-q.o,z];refine⟨⟨some p,a,rfl,?_,h1,J⟩,t⟩;rw[j.o,show xB (f.take (m+1))=(xB f).take (m+1)by simp[xB]];exact ah B.o _
def rD(h:l.all yC=true):(uP l).all yC=true:=by
 unfold uP;rw[zm]at h|-;intro c hc;exact h c (Zd.1 ((di _).subset (Zd.1 hc)))
def Ic(l:List UInt8):(uP l).length<=l.length:=by
 unfold uP;have:=(di (· == 48) (l:=l.reverse)).length_le;simpa using this
variable{q:Nat}{W W':z8}
structure bP(W:z8)(q:Nat):Prop where
 c0:zk W q 0 (.bool false)
 c1:zk W q 1 (.slice none 0 0)
 c2:zk W q 2 (.int .i64 0)
 z0:W.frozen? (q,0)=false
 z1:W.frozen? (q,1)=false
 z2:W.frozen? (q,2)=false
 lt:q<(W:Nat)
def bP.below(h:bP W q)(hb:zR W W'):bP W' q :=
 ⟨(hb.cell h.lt).trans h.c0,(hb.cell h.lt).trans h.c1,(hb.cell h.lt).trans h.c2,(hb.frozen h.lt).trans h.z0,(hb.frozen h.lt).trans h.z1,(hb.frozen h.lt).trans h.z2,zC h.lt hb.size⟩
def bY(w:z8)(o:Obj):yE w w ((w.alloc o).alloc (.cells #[.bool false,.slice none 0 0,.int .i64 0] 99))/\bP ((w.alloc o).alloc (.cells #[.bool false,.slice none 0 0,.int .i64 0] 99)) ((w:Nat)+1):=by
 have hs:(w.alloc o).heap.size=(w:Nat)+1:=zV;refine⟨((zu _ _).alloc (Y _) _).alloc J _,?_⟩;rw[<-hs];exact yn7
def q9.set{x:Dg}{b:Bool}(h:q9 w v x)(l:zk w q 0 (.bool b))(j:Nat)(u:zx):q9 (w.setCell (q,j) u) v x:=by
 obtain⟨e,g,go,cap,h1,h2,f,d,i,k⟩:=h;have a:g≠q:=by
  rintro rfl;obtain⟨c,hc⟩:=d;rw[l]at hc;cases hc
 exact⟨e,g,go,cap,h1,h2,f,d.imp λ_ hc=>by rw[yO (h:=by simp[a,Ne.symm a])];exact hc,i.set (λb hb=>by cases hb;exact a) u,k⟩
def GB{x:Dg}{b:Bool}{s k:zx}(h:q9 W (.agg #[.bool b,s,k]) x)(hr:bP W q)(a:(w:Nat)<=q)(hb:zR w W) :
  kl x w (.returned (.agg #[.bool b,s,k])) (((W.setCell (q,0) (.bool b)).setCell (q,1) s).setCell (q,2) k):=by
 have c:zk (W.setCell (zQ q 0) (.bool b)) q 0 (.bool b):=by rw[qY (h:=hr.c0)]
 have d:zk ((W.setCell (zQ q 0) (.bool b)).setCell (zQ q 1) s) q 0 (.bool b):=by rw[yO (h:=zV)];exact c
 exact⟨⟨_,rfl,((h.set hr.c0 0 _).set c 1 _).set d 2 _⟩,((hb.setCell a _).setCell a _).setCell a _⟩
def q9.form{x:Dg}(h:q9 w v x):∃b g go cap n k,v = .agg #[.bool b,.slice (some ⟨g,go,none⟩) n cap,.int .i64 k]:=by
 obtain⟨b,g,go,cap,h1,_⟩:=h;exact⟨b,g,go,cap,_,_,h1⟩
def vav(v:zx)(x:Dg)(w:z8)(h:q9 w v x):zE prog 203 #[v] w (kl (xU x.2.length,[]) w):=by
 have a:=h.ok;have k:=a.C9;have l:=a.Dk;have m:=Z h;have n:=Z a;obtain⟨b,g,go,cap,rfl,_,_,_,_,_⟩:=h;clear a;obtain⟨K4,i⟩:=bY w (.cells #[.bool b,.slice (g,go) (x.1.length+x.2.length) cap,.int .i64 x.2.length] 99);go_enter func203,ntmps203;go_wp2_with fail;generalize (w.alloc (.cells #[.bool b,.slice (g,go) (x.1.length+x.2.length) cap,.int .i64 x.2.length] 99)).alloc (.cells #[.bool false,.slice none 0 0,.int .i64 0] 99)=W at K4 i|-;refine(IP x.2.length _ J).mono ?_;rintro e w2 ⟨⟨v2,rfl,c⟩,f⟩;have hr:=i.below f;have OM:zR w w2:=K4.trans (f.mono BJ);have c0:=hr.c0;have c1:=hr.c1;have c2:=hr.c2;have z0:=hr.z0;have z1:=hr.z1;have z2:=hr.z2;have HNV:=Z c;obtain⟨b2,g2,j,d,n2,k2,rfl⟩:=c.form;clear c;go_wp2;refine yU (v := .agg #[.bool b2,.slice (g2,j) n2 d,k2]) ?_ rfl ?_
 .simp[yN,results203,go_sem,c0,c1,c2]
 exact BQ
def vau(v:zx)(x:Dg)(w:z8)(h:q9 w v x):zE prog 201 #[v] w (kl (gZ x.1,[]) w):=by
 have a:=h.ok;have u:=a.C9;have y:=a.Dk;have s:=Z h;have t:=Z a;obtain⟨b,g,go,cap,rfl,_,_,_,_,_⟩:=h;clear a;obtain⟨K4,k⟩:=bY w (.cells #[.bool b,.slice (g,go) (x.1.length+x.2.length) cap,.int .i64 x.2.length] 99);go_enter func201,ntmps201;go_wp2_with fail;generalize (w.alloc (.cells #[.bool b,.slice (g,go) (x.1.length+x.2.length) cap,.int .i64 x.2.length] 99)).alloc (.cells #[.bool false,.slice none 0 0,.int .i64 0] 99)=W at K4 k|-;refine(Nf _ x _ (s.o.below K4)).mono ?_;rintro e w1 ⟨⟨l,d,rfl,n,p,hB⟩,i⟩;have q:=k.below i;have XR:zR w w1:=K4.trans (i.mono BJ);have r:=Z hB;clear hB;go_wp2_with fail;refine(Cz x.1 l d _ t.o.zcb J n p r.o).mono ?_;rintro e w2 ⟨⟨v2,rfl,c⟩,j⟩;have hr:=q.below j;have OM:zR w w2:=XR.trans (j.mono ML);have c0:=hr.c0;have c1:=hr.c1;have c2:=hr.c2;have z0:=hr.z0;have z1:=hr.z1;have z2:=hr.z2;have HNV:=Z c;obtain⟨b2,g2,m,f,n2,k2,rfl⟩:=c.form;clear c;go_wp2;refine yU (v := .agg #[.bool b2,.slice (g2,m) n2 f,k2]) ?_ rfl ?_
 .simp[yN,results201,go_sem,c0,c1,c2]
 exact BQ
def vaq(v:zx)(x:Dg)(w:z8)(h:q9 w v x):zE prog 204 #[v] w (kl (xU (uP x.2).length,[]) w):=by
 have a:=h.ok;have s:=a.C9;have t:=a.Dk;have n:=Z h;have y:=Z a;have u:=Ic x.2;obtain⟨b,g,go,cap,rfl,_,_,_,_,_⟩:=h;clear a;obtain⟨K4,j⟩:=bY w (.cells #[.bool b,.slice (g,go) (x.1.length+x.2.length) cap,.int .i64 x.2.length] 99);go_enter func204,ntmps204;go_wp2_with fail;generalize (w.alloc (.cells #[.bool b,.slice (g,go) (x.1.length+x.2.length) cap,.int .i64 x.2.length] 99)).alloc (.cells #[.bool false,.slice none 0 0,.int .i64 0] 99)=W at K4 j|-;refine(Ia _ x _ (n.o.below K4)).mono ?_;rintro e w1 ⟨⟨p,m,rfl,hB,q,r⟩,f⟩;have l:=j.below f;have XR:zR w w1:=K4.trans (f.mono BJ);clear hB;go_wp2_with fail;refine(IP (uP x.2).length _ J).mono ?_;rintro e w2 ⟨⟨v2,rfl,c⟩,i⟩;have hr:=l.below i;have OM:zR w w2:=XR.trans (i.mono ML);have c0:=hr.c0;have c1:=hr.c1;have c2:=hr.c2;have z0:=hr.z0;have z1:=hr.z1;have z2:=hr.z2;have HNV:=Z c;obtain⟨b2,g2,k,d,n2,k2,rfl⟩:=c.form;clear c;go_wp2;refine yU (v := .agg #[.bool b2,.slice (g2,k) n2 d,k2]) ?_ rfl ?_
 .simp[yN,results204,go_sem,c0,c1,c2]
 exact BQ
def vak(v:zx)(x:Dg)(w:z8)(h:q9 w v x):zE prog 206 #[v] w (kl (gZ x.2,[]) w):=by
 have a:=h.ok;have u:=a.C9;have y:=a.Dk;have s:=Z h;have t:=Z a;obtain⟨b,g,go,cap,rfl,_,_,_,_,_⟩:=h;clear a;obtain⟨K4,k⟩:=bY w (.cells #[.bool b,.slice (g,go) (x.1.length+x.2.length) cap,.int .i64 x.2.length] 99);go_enter func206,ntmps206;go_wp2_with fail;generalize (w.alloc (.cells #[.bool b,.slice (g,go) (x.1.length+x.2.length) cap,.int .i64 x.2.length] 99)).alloc (.cells #[.bool false,.slice none 0 0,.int .i64 0] 99)=W at K4 k|-;refine(Cy _ x _ (s.o.below K4)).mono ?_;rintro e w1 ⟨⟨l,d,rfl,n,p,hB⟩,i⟩;have q:=k.below i;have XR:zR w w1:=K4.trans (i.mono BJ);have r:=Z hB;clear hB;go_wp2_with fail;refine(Cz x.2 l d _ t.o.zk8 J n p r.o).mono ?_;rintro e w2 ⟨⟨v2,rfl,c⟩,j⟩;have hr:=q.below j;have OM:zR w w2:=XR.trans (j.mono ML);have c0:=hr.c0;have c1:=hr.c1;have c2:=hr.c2;have z0:=hr.z0;have z1:=hr.z1;have z2:=hr.z2;have HNV:=Z c;obtain⟨b2,g2,m,f,n2,k2,rfl⟩:=c.form;clear c;go_wp2;refine yU (v := .agg #[.bool b2,.slice (g2,m) n2 f,k2]) ?_ rfl ?_
 .simp[yN,results206,go_sem,c0,c1,c2]
 exact BQ
def vaj(v:zx)(x:Dg)(w:z8)(h:q9 w v x):zE prog 207 #[v] w (kl (gZ (uP x.2),[]) w):=by
 have a:=h.ok;have u:=a.C9;have y:=a.Dk;have s:=Z h;have t:=Z a;have z:=Ic x.2;obtain⟨b,g,go,cap,rfl,_,_,_,_,_⟩:=h;clear a;obtain⟨K4,k⟩:=bY w (.cells #[.bool b,.slice (g,go) (x.1.length+x.2.length) cap,.int .i64 x.2.length] 99);go_enter func207,ntmps207;go_wp2_with fail;generalize (w.alloc (.cells #[.bool b,.slice (g,go) (x.1.length+x.2.length) cap,.int .i64 x.2.length] 99)).alloc (.cells #[.bool false,.slice none 0 0,.int .i64 0] 99)=W at K4 k|-;refine(Ia _ x _ (s.o.below K4)).mono ?_;rintro e w1 ⟨⟨l,d,rfl,hB,n,p⟩,i⟩;have q:=k.below i;have XR:zR w w1:=K4.trans (i.mono BJ);have r:=Z hB;clear hB;go_wp2_with fail;refine(Cz (uP x.2) l d _ (rD t.o.zk8) J n p r.o).mono ?_;rintro e w2 ⟨⟨v2,rfl,c⟩,j⟩;have hr:=q.below j;have OM:zR w w2:=XR.trans (j.mono ML);have c0:=hr.c0;have c1:=hr.c1;have c2:=hr.c2;have z0:=hr.z0;have z1:=hr.z1;have z2:=hr.z2;have HNV:=Z c;obtain⟨b2,g2,m,f,n2,k2,rfl⟩:=c.form;clear c;go_wp2;refine yU (v := .agg #[.bool b2,.slice (g2,m) n2 f,k2]) ?_ rfl ?_
 .simp[yN,results207,go_sem,c0,c1,c2]
 exact BQ
def NY(a b:List UInt8):Int:=if bH a b=true then -1 else if a=b then 0 else 1
def Cu{c:UInt8}(h:yC c=true):(((c.toNat:Int) - 48).toNat.toUInt8).toNat=c.toNat - 48:=by
 have h1:=(vy c).1 h;have h2:=c.toNat_lt;simp only[Nat.toUInt8,Xg];omega
def JE:∀(a b:List UInt8),a.length=b.length->a.all yC=true->b.all yC=true->yfu (Zb (xB a)) (Zb (xB b))=NY a b
 |[],[],_,_,_=>rfl
 |c::a,d::b,h,ha,hb=>by
  simp only[u7,zv]at ha hb;have i:=JE a b (by simpa using h) ha.2 hb.2;have h1:=Cu ha.1;have h2:=Cu hb.1;have j:=(vy c).1 ha.1;have k:=(vy d).1 hb.1;have hx:Zb (xB (c::a))=((c.toNat:Int) - 48).toNat.toUInt8::Zb (xB a):=rfl;have hy:Zb (xB (d::b))=((d.toNat:Int) - 48).toNat.toUInt8::Zb (xB b):=rfl;rw[hx,hy,yfu,i];unfold NY;rw[bH];simp only[To,h1,h2];by_cases q1:c.toNat<d.toNat
  .rw[yK J,yK (by simp[q1])]
  .by_cases q2:d.toNat<c.toNat
   .have f:¬c=d:=λe=>by rw[e]at q2;omega
    rw[yv J,yK J,yv (by simp[q1,f]),yv (by simp[f])]
   .have g:c=d:=Xf.1 J;subst g;rw[yv J,yv J];simp
def Ie(l:List UInt8)(n c:Nat)(a:yI)(w:z8)(hn:n=l.length)(h:yJ w (some a) (xB l)):(XQ (.slice (some a) n c)).run prog w = .ok ⟨(Zb (xB l)).toArray⟩ w:=by
 subst hn;have:=Lib.run_loadBytesX (P:=prog) w (xB l) a .empty (λj x hx=>by
  have d:=(zD.1 hx).1;obtain⟨b,hb,hc⟩:=h j d;cases hb;rw[hc];have:=(zD.1 hx).2;rw[this])
 rw[xW]at this;show(vq5 a l.length .empty).run prog w=_;rw[this];congr 2;simp
def RN(c d:List UInt8)(n1 c1 n2 c2:Nat)(a b:yI)(w:z8)(f:n1=c.length)(g:n2=d.length)(h1:yJ w (some a) (xB c))(h2:yJ w (some b) (xB d))(h:c.length=d.length)(d1:c.all yC=true)(d2:d.all yC=true) :
  (callFunc 193 #[.slice (some a) n1 c1,.slice (some b) n2 c2]).run prog w = .ok (.value (.int .i64 (NY c d))) w:=by
 rw[TB func193 yg yg yg (e:=XK) yg];have:(XK #[.slice (some a) n1 c1,.slice (some b) n2 c2]).run prog w = .ok (.int .i64 (NY c d)) w:=by
  change (Sem.run prog (do pure (goInt (wK (<-XQ (.slice (some a) n1 c1)) (<-XQ (.slice (some b) n2 c2))))) w)=_
  simp only[kp,Ie c n1 c1 a w f h1,yt,Ie d n2 c2 b w g h2,Lib.cmp_eq,JE c d h d1 d2];rfl
 rw[this];rfl
def X9(c d:List UInt8)(n1 c1 n2 c2:Nat)(a b:yI)(w:z8)(f:n1=c.length)(g:n2=d.length)(h1:yJ w (some a) (xB c))(h2:yJ w (some b) (xB d))(h:c.length=d.length)(d1:c.all yC=true)(d2:d.all yC=true) :
  zE prog 149 #[.slice (some a) n1 c1,.slice (some b) n2 c2] w λe w'=>e = .returned (.int .i64 (NY c d))/\w=w':=by
 have i:=RN c d n1 c1 n2 c2 a b w f g h1 h2 h d1 d2;clear f g h d1 d2 h1 h2;go_enter func149,ntmps149;go_wp2;go_ret;exact⟨rfl,rfl⟩
def rB{a b:List UInt8}(h:a.length=b.length):NY a b=cmpL a b:=by
 unfold NY cmpL;rw[h];simp
def JH(b:Bool)(s k:zx)(w:z8):(vq6 99 (.agg #[.bool b,s,k]) 1).run prog w = .ok s w:=by
 kernel_rfl
def FW(v:zx)(x:Dg)(m:Nat)(w:z8)(h:q9 w v x)(hm:m<=1000000000) :
  zE prog 152 #[v,m] w λe w'=>e = .returned (.int .i64 (Gh x m))/\zR w w':=by
 have n:=h.ok;have pj:=n.C9;have M:=Z h;have N:=Z n;have A:=λW (O:q9 W v x)=>Cx v x W O
 have H:=Z A;have O:=jN 9 m J;obtain⟨b,g,go,cap,rfl,_,_,_,_,_⟩:=h;have hfd:=JH;clear n A;go_enter func152,ntmps152;go_wp2_with fail;refine(Nf _ x _ (M.o.below ((zu _ _).alloc (Y _) _))).mono ?_;rintro e w1 ⟨⟨T,t,rfl,U,V,hB⟩,a⟩;have i:(w.alloc (.cells #[.bool b,.slice (g,go) (x.1.length+x.2.length) cap,.int .i64 x.2.length] 99)).heap.size=(w:Nat)+1:=zV;have k0:zk w1 (w:Nat) 0 (.bool b):=(a.cell zV).trans (zZ _ _ _ _ _);have k1:zk w1 (w:Nat) 1 (.slice (zQ g go) (x.1.length+x.2.length) cap):=(a.cell zV).trans (zZ _ _ _ _ _);have k2:zk w1 (w:Nat) 2 (.int .i64 x.2.length):=(a.cell zV).trans (zZ _ _ _ _ _);have y:zR w w1:=((zu _ _).alloc (Y _) _).trans (a.mono zV);have s:(w:Nat)<(w1:Nat):=by have:=a.size;rw[i]at this;omega
 clear a i;obtain⟨p,rfl,_⟩:=hB 0 (by rw[xW];exact zt.2 N.o.ne);have R:=Z hB;clear hB;go_wp2_with fail;refine(X8 m _ hm).mono ?_;rintro e w2 ⟨⟨g2,u,rfl,P⟩,c⟩;have j0:=(c.cell (p:=(zQ (w:Nat) 0)) s).trans k0;have j1:=(c.cell (p:=(zQ (w:Nat) 1)) s).trans k1;have j2:=(c.cell (p:=(zQ (w:Nat) 2)) s).trans k2;have zg0:zR w w2:=y.trans (c.mono J);have D:=Z (R.o.below c);have E:=Z (j7 P rfl);have I:=Z (M.o.below zg0);clear P c k0 k1 k2 y;have uS:=Qy m;by_cases h1:x.1.length<(xU m).length
 .have hc:cmpL x.1 (xU m) = -1:=by
   unfold cmpL;rw[yK (.inl h1)]
  have hf:Gh x m = -1:=by
   unfold Gh;rw[hc];rfl
  have HF:=Z hf;have g1:((x.1.length:Int) - ((xU m).length:Int)==0)=false:=yF;have K:decide ((x.1.length:Int) - ((xU m).length:Int)<0)=true:=yF;exact zjb
 .by_cases h2:(xU m).length<x.1.length
  .have hc:cmpL x.1 (xU m)=1:=by
    unfold cmpL;rw[yv (λq=>q.elim h1 (λq=>J)),yv (λe=>by rw[e]at h2;omega)]
   have hf:Gh x m=1:=by
    unfold Gh;rw[hc];simp
   have HF:=Z hf;have g1:((x.1.length:Int) - ((xU m).length:Int)==0)=false:=yF;have K:decide ((x.1.length:Int) - ((xU m).length:Int)<0)=false:=yF;have g3:decide (0<(x.1.length:Int) - ((xU m).length:Int))=true:=yF;exact zjb
  .have he:x.1.length=(xU m).length:=(by omega);have g1:((x.1.length:Int) - ((xU m).length:Int)==0)=true:=yF;have B:=rB he;have z:=X9 x.1 (xU m) x.1.length t (xU m).length u p ⟨g2,0,none⟩ w2 rfl rfl D.o E.o he N.o.zcb (Kh m);have F:=Z z;obtain⟨r,hr⟩:=zw (NY x.1 (xU m));have l:cmpL x.1 (xU m)=r:=(by rw[<-B,hr]);have C:=rf x.1 (xU m);rw[l]at C;have j:Gh x m=if r<0 then -1 else if 0<r\/brk x.2=true then 1 else 0:=by unfold Gh;rw[l]
   have d:=Z j;have S:=Z hr;clear z hr l B j he h1 h2;go_wp2_with fail;refine F.o.mono ?_;rw[S.o];rintro e w3 ⟨rfl,rfl⟩;rcases C with rfl|rfl|rfl
   .have hf:=d.o;rw[yK zW]at hf;exact zfq
   .have hf:=d.o;rw[yv zW]at hf;have k:=H.o w2 I.o;obtain⟨q,Q⟩:=zw (brk x.2);rw[Q]at hf k;have HF:=Z hf;have G:=Z k;clear hf k Q;go_wp2_with fail;refine G.o.mono ?_;rintro e w4 ⟨rfl,L⟩;have f:zR w w4:=zg0.trans (L.mono zg0.size);cases q
    .go_wp2;go_ret;exact⟨gJ,f⟩
    .go_wp2;go_ret;exact⟨gJ,f⟩
   .have hf:=d.o;rw[yv zW,yK (.inl zW)]at hf;exact zfq
def UB(k:Nat):vu (zX k 48)=zX k (.int .u8 0):=BI
def Cq(a b:Wd):vu (a++b)=vu a++vu b:=BI
def Ck(k:Nat):(zr4 #[yZ .u8 0] k).toList=zX k (.int .u8 0):=by
 apply xu1
 .simp[zr4]
 .intro j h1 h2;simp[zr4];rw[Nat.mod_one];rfl
def ze3(l:Wd)(a:yI)(c k:Nat)(w:z8)(C:l.length<=300)(G:k<=300)(hB:yJ w (some a) (xB l)) :
  zE prog 148 #[.slice (some a) l.length c,((l.length+k:Nat):Int)] w λe w'=>(∃v,e = .returned v/\w'.ownsRow (w:Nat) 5 1 v (l.length+k) (vu (dO (l.length+k) l)))/\zR w w':=by
 obtain⟨i,hi,D,h2,h3⟩:=xI.info;obtain⟨n,hn⟩:=zw l.length;rw[hn]at C|-;have t:=Z hn;have x:((n+k:Nat):Int) - (n:Int)=(k:Int):=J;have hmx:max (0:Int) (k:Int)=(k:Int):=J;have y:=Z hB;clear hn hB;go_enter func148,ntmps148;go_wp2_with (refine OD _ rfl _ _ _ rfl (w:Nat) _ i _ 1 xI.under hi D h2 .i64 .i64 _ _ k rfl rfl J J GL dS Yo ?_);intro w1 d p;rw[Ck]at d;have h:zR w w1:=(zu _ _).grown p (Y _) zV;have r:=Z (y.o.below h);have m:=Z d;have A:=Z h;have B:=h.size;clear d p h;go_wp2_with (at_builtin;refine jx xI rfl _ _ rfl (w:Nat) _ k _ rfl m.o a n c (vu l) rfl (by simp[vu,t.o]) ?d2 ?d3 J (by exact B) ?_)
 case d2 =>
  intro j u hu;have hj:j<(xB l).length:=Wb;obtain⟨b,hb,hc⟩:=r.o j hj;cases hb;rw[hc];exact Wy
 case d3 =>
  exact Wq
 intro v' w2 g f;have s:zR w w2:=A.o.grown f J (λq hq=>AG);have z:=Z (show w2.ownsRow (w:Nat) 5 1 v' (n+k) (vu (dO (n+k) l)) by
  rw[dO,t.o,Z7,Cq,UB,Nat.add_comm n k];exact g)
 obtain⟨E,F,rfl⟩:=zo g;clear g f;go_wp2;go_ret;exact⟨⟨_,rfl,z.o⟩,s⟩
variable{c d m:Nat}
def yu8(n r:Nat)(w:z8)(e:xX)(w':z8):Prop:=(∃v d,e = .returned v/\w'.ownsRow (w:Nat) 5 1 v n (vu d)/\d.length=n/\d.all yC=true/\yb d=r)/\zR w w'
def JI{a:yI}{l:Wd}(h:yJ w (some a) (xB l))(hm:m<l.length):w.cell? (a.add m)=some (.int .u8 ((l[m].toNat:Int) - 48)):=by
 obtain⟨b,hb,hc⟩:=h m (by rw[xW];exact hm);cases hb;rw[hc];simp[xB]
def Xp{base g:Nat}{d:Wd}(h:w.ownsRow base 5 1 (.slice (g,0) n cap) n (vu d))(hm:m<d.length)(hn:d.length=n):zk w g m (.int .u8 ((d[m].toNat:Int) - 48)):=by
 rw[h.cellAt m J];simp[vu,hm]
def BK(d:Wd)(m x:Nat)(hx:x<10):(vu d).set m (.int .u8 (x:Int))=vu (d.set m (kM x)):=by
 rw[vu,vu,List.map_set,X7 hx]
def UC(h:d<10):yC (kM d)=true:=by rw[vy];have:=X7 h;omega
def NV{d:Wd}(h:d.all yC=true)(m:Nat){c:UInt8}(hc:yC c=true):(d.set m c).all yC=true:=by
 rw[zm]at h|-;intro x hx;rcases List.mem_or_eq_of_mem_set hx with q|rfl
 .exact h x q
 .exact hc
def UE{l:Wd}(hm:m<l.length):yb (l.drop m)=(l[m].toNat - 48)*10 ^ (l.length - m - 1)+yb (l.drop (m+1)):=by
 rw[yd hm,qE,yr];congr 3
def F5{x:Nat}(h:x<10):(kM x).toNat - 48=x:=by have:=X7 h;omega
def mU(a b:Wd)(n k:Nat)(o:Wd):Prop:=k<=n/\o.length=n+1/\o.all yC=true/\yb (o.drop k)=yb (a.drop k)+yb (b.drop k)
def rC{a b o:Wd}(ha:a.length=n)(hb:b.length=n)(da:a.all yC=true)(db:b.all yC=true)(h:mU a b n (m+1) o)(h1:m<a.length)(h2:m<b.length)(c:m+1<o.length) :
  mU a b n m ((o.set (m+1) (kM (((a[m].toNat - 48)+(b[m].toNat - 48)+(o[m+1].toNat - 48)) % 10))).set m (kM (((a[m].toNat - 48)+(b[m].toNat - 48)+(o[m+1].toNat - 48)) / 10))):=by
 obtain⟨k1,k2,k3,k4⟩:=h;have q:=jf (zm.1 da _ (yf h1));have r:=jf (zm.1 db _ (yf h2));have s:=jf (zm.1 k3 _ (yf c));obtain⟨v,hv⟩:=zw ((a[m].toNat - 48)+(b[m].toNat - 48)+(o[m+1].toNat - 48));have v1:v % 10<10:=xu3 _ J;have v2:v / 10<10:=J;refine⟨J,by simp[k2],NV (NV k3 _ (UC (by rw[hv];exact v1))) _ (UC (by rw[hv];exact v2)),?_⟩;rw[hv];have e:((o.set (m+1) (kM (v % 10))).set m (kM (v / 10))).drop m=kM (v / 10)::kM (v % 10)::o.drop (m+2):=by
  rw[yd yF,yd yF];simp[xu5];intro k;omega
 rw[e,qE,qE,F5 v1,F5 v2,UE h1,UE h2];rw[UE c]at k4;have g:(o.drop (m+2)).length=n - m - 1:=FC;rw[zY,g,ha,hb];rw[k2,show n+1 - (m+1) - 1=n - m - 1 by omega]at k4;obtain⟨p,hp⟩:=zw (10 ^ (n - m - 1));rw[fC,hp];rw[hp]at k4;obtain⟨x,hx⟩:=zw (a[m].toNat - 48);obtain⟨y,hy⟩:=zw (b[m].toNat - 48);obtain⟨z,d⟩:=zw (o[m+1].toNat - 48);rw[hx,hy,d]at hv;rw[d]at k4;rw[hx,hy];have f:v=v / 10*10+v % 10:=J;have i:v / 10*(p*10)+v % 10*p=v*p:=by
  rw[dU p 10,<-Up,<-kh,<-f]
 have j:v*p=x*p+y*p+z*p:=by rw[<-hv,kh,kh]
 show v / 10*(p*10)+(v % 10*p+yb (o.drop (m+2)))=_;have l:z*p+yb (o.drop (m+2))=yb (a.drop (m+1))+yb (b.drop (m+1)):=k4;omega
def ze4(a b:Wd)(n c1 c2:Nat)(p q:yI)(w:z8)(ha:a.length=n)(hb:b.length=n)(hn:n<=300)(U:1<=n)(da:a.all yC=true)(db:b.all yC=true)(hA:yJ w (some p) (xB a))(hB:yJ w (some q) (xB b)) :
  zE prog 150 #[.slice (some p) n c1,.slice (some q) n c2] w (yu8 (n+1) (yb a+yb b) w):=by
 obtain⟨i,hi,s,h2,h3⟩:=xI.info;have L:=Z hA;have M:=Z hB;have H:=Z (zf ha (zf hb (zf da db)));clear ha hb da db hA hB;go_enter func150,ntmps150;go_wp2_with (refine OD _ rfl _ _ _ rfl (w:Nat) _ i _ 1 xI.under hi s h2 .i64 .i64 _ _ (n+1) rfl rfl zV zV GL dS Yo ?_);intro w1 d l;rw[Ck,<-UB]at d;have e:zR w w1:=(zu _ _).grown l (Y _) zV;have Q:=Z (show mU a b n n (zX (n+1) 48) from⟨Y _,zV,zdz,by
  obtain⟨h1,h2,_⟩:=H.o;rw[yL (by omega:a.length<=n),yL (by omega:b.length<=n),wJ,UD];rfl⟩)
 obtain⟨G,B⟩:=zw (w:Nat);rw[B]at d e|-;have HG:=Z B;have O:=Z d;have R:=Z e;clear B d e l;go_wp2_with fail;have N:=Z (show ∃I,n=I+1 from⟨n - 1,J⟩);go_loopw [6] (λt wr=>∃(k:Nat) (o:Wd),(match k with|0=>t = .int .i64 (-1)|m+1=>t = .int .i64 m)/\mU a b n k o/\wr.ownsRow G 5 1 (.slice (G,0) (n+1) (n+1)) (n+1) (vu o)/\yE G w wr) (λt _=>(intOf t+1).toNat)
 case atStart=>exact⟨n,_,by obtain⟨I,C⟩:=N.o;rw[C];simp,Q.o,O.o,R.o⟩
 case round =>
  obtain⟨k,o,r,hR,hO,hb⟩:=hrel;cases k with
  |zero =>
   obtain rfl:=r;have P:=Z (show yu8 (n+1) (yb a+yb b) w (.returned (.slice (zQ G 0) (n+1) (n+1))) wr from⟨⟨_,o,rfl,by rw[HG.o];exact hO,hR.2.1,hR.2.2.1,hR.2.2.2⟩,MD⟩);clear hR hO hb;go_wp2;go_ret;exact P.o
  |succ m =>
   obtain rfl:=r;obtain⟨ha,h,da,db⟩:=H.o;have D:m<a.length:=Mq;have E:m<b.length:=Mq;have F:m+1<o.length:=(by have:=hR.1;have:=hR.2.1;omega);have g:=rC ha h da db hR D E F;have f:zR w wr:=MD;have K:=JI (L.o.below f) D;have pb:=JI (M.o.below f) E;have po:=Xp hO F hR.2.1;have W:=jf (zm.1 da _ (yf D));have xb:=jf (zm.1 db _ (yf E));have xo:=jf (zm.1 hR.2.2.1 _ (yf F));obtain⟨x,hx⟩:=zw (a[m].toNat - 48);obtain⟨y,hy⟩:=zw (b[m].toNat - 48);obtain⟨z,s⟩:=zw (o[m+1].toNat - 48);rw[hx,hy,s]at g;rw[show((a[m].toNat:Int) - 48)=(x:Int)by omega]at K;rw[show((b[m].toNat:Int) - 48)=(y:Int)by omega]at pb;rw[show((o[m+1].toNat:Int) - 48)=(z:Int)by omega]at po;have x9:x<=9:=J;have y9:y<=9:=J;have z9:z<=9:=J;have mn:m+1<=n:=hR.1;have mi:(m:Int)<(n:Int):=J;have mj:(m:Int)+1<(n:Int)+1:=J;have wm:vG.wrap ((m:Int)+1)=(m:Int)+1:=Yq;have tm:((m:Int)+1).toNat=m+1:=J;have m0:(0:Int)<=(m:Int)+1:=J;have w1:((x:Int)+(y:Int)) % 256=(x:Int)+(y:Int):=J;have w2:((x:Int)+(y:Int)+(z:Int)) % 256=((x+y+z:Nat):Int):=J;have A:=Z g;have v:=Z hO;have u:=Z hb;have V:=Xp hO (m:=m) J hR.2.1;have fz:∀j,wr.frozen? ⟨G,j,none⟩=false:=by
    intro j;exact zv4
   clear g hO hb f hR W xb xo hx hy s da db ha h;go_wp2_with fail;refine Vy (λW':z8=>W'.cell? (p.add m)=some (.int .u8 x)/\W'.cell? (q.add m)=some (.int .u8 y)/\zk W' G (m+1) (.int .u8 z)) (xH 16) 0 ⟨K,pb,po⟩ ?_;refine Y5 ?_ _;go_wp2;refine⟨⟨m,_,?_,A.o,?_,?_⟩,?_⟩
   .exact Az
   .have h1:=MG (MG v.o (m+1) J (.int .u8 (((x+y+z) % 10:Nat):Int))) m J (.int .u8 (((x+y+z) / 10:Nat):Int));rw[BK _ _ _ (xu3 _ J),BK _ _ _ J]at h1;have S:((x:Int)+(y:Int)+(z:Int)) % 10=(((x+y+z) % 10:Nat):Int):=(by omega);have T:((x:Int)+(y:Int)+(z:Int)) / 10=(((x+y+z) / 10:Nat):Int):=J;rw[S,T];exact h1
   .exact qs ((u.o.setCell (Y _) _).setCell (Y _) _)
   .simp only[intOf];omega
def yu9(a b:Wd)(n k c:Nat)(o:Wd):Prop:=k<=n/\o.length=n/\o.all yC=true/\c<=1/\yb (a.drop k)+c*10 ^ (n - k)=yb (b.drop k)+yb (o.drop k)
def ze5{a b o:Wd}{c':Nat}(ha:a.length=n)(hb:b.length=n)(h:yu9 a b n (m+1) c o)(h1:m<a.length)(h2:m<b.length)(hd:d<10)(e:c'<=1)(he:(b[m].toNat - 48)+c+d=(a[m].toNat - 48)+10*c') :
  yu9 a b n m c' (o.set m (kM d)):=by
 obtain⟨k1,k2,k3,k4,f⟩:=h;refine⟨J,by simp[k2],NV k3 _ (UC hd),e,?_⟩;have l:m<o.length:=J;have g:(o.set m (kM d)).drop m=kM d::o.drop (m+1):=by
  rw[yd yF];simp[xu5]
 rw[g,qE,F5 hd,UE h1,UE h2,ha,hb];have i:(o.drop (m+1)).length=n - m - 1:=FC;rw[i];rw[show n - (m+1)=n - m - 1 by omega]at f;rw[show n - m=n - m - 1+1 by omega,fC,Z3];obtain⟨p,hp⟩:=zw (10 ^ (n - m - 1));rw[hp]at f|-;obtain⟨x,hx⟩:=zw (a[m].toNat - 48);obtain⟨y,hy⟩:=zw (b[m].toNat - 48);rw[hx,hy]at he|-;have j:y*p+c*p+d*p=x*p+10*c'*p:=by rw[<-kh,<-kh,he,kh]
 have k:c'*(p*10)=10*c'*p:=by rw[dU p 10,<-Up,dU c' 10]
 omega
def Ii(a b:Wd)(n c1 c2:Nat)(p q:yI)(w:z8)(ha:a.length=n)(hb:b.length=n)(hn:n<=300)(U:1<=n)(da:a.all yC=true)(db:b.all yC=true)(l:yb b<=yb a)(hA:yJ w (some p) (xB a))(hB:yJ w (some q) (xB b)) :
  zE prog 151 #[.slice (some p) n c1,.slice (some q) n c2] w (yu8 n (yb a - yb b) w):=by
 obtain⟨i,hi,V,h2,h3⟩:=xI.info;have N:=Z hA;have O:=Z hB;have E:=Z (zf ha (zf hb (zf da (zf db l))));clear ha hb da db hA hB l;go_enter func151,ntmps151;go_wp2_with (refine OD _ rfl _ _ _ rfl (w:Nat) _ i _ 1 xI.under hi V h2 .i64 .i64 _ _ n rfl rfl (by rfl) (by rfl) GL dS Yo ?_);intro w1 e A;rw[Ck,<-UB]at e;have f:zR w w1:=(zu _ _).grown A (Y _) zV;have S:=Z (show yu9 a b n n 0 (zX n 48) from⟨Y _,zV,zdz,J,by
  obtain⟨h1,h2,_⟩:=E.o;rw[yL (by omega:a.length<=n),yL (by omega:b.length<=n),wJ,UD];simp⟩)
 obtain⟨G,F⟩:=zw (w:Nat);rw[F]at e f|-;have HG:=Z F;have Q:=Z e;have T:=Z f;clear F e f A;go_wp2_with fail;have P:=Z (show ∃M,n=M+1 from⟨n - 1,J⟩);go_loopw [6,7] (λcv D wr=>∃(k c:Nat) (o:Wd),(match k with|0=>D = .int .i64 (-1)|m+1=>D = .int .i64 m)/\cv = .int .u8 (c:Nat)/\yu9 a b n k c o/\wr.ownsRow G 5 1 (.slice (G,0) n n) n (vu o)/\yE G w wr) (λ_ D _=>(intOf D+1).toNat)
 case atStart=>exact⟨n,0,_,by obtain⟨M,H⟩:=P.o;rw[H];simp,rfl,S.o,Q.o,T.o⟩
 case round =>
  obtain⟨k,c,o,C,rfl,hR,hO,hb⟩:=hrel;cases k with
  |zero =>
   obtain rfl:=C;have R:=Z (show yu8 n (yb a - yb b) w (.returned (.slice (zQ G 0) n n)) wr from⟨⟨_,o,rfl,by rw[HG.o];exact hO,hR.2.1,hR.2.2.1,by
    obtain⟨_,r2,r3,r4,r5⟩:=hR;have:=JC o r3;rw[r2]at this;have l:=E.o.2.2.2.2;simp only[qW,Nat.sub_zero]at r5;rcases xu6 c with rfl|h
    .omega
    .obtain rfl:c=1:=(by omega);exact J⟩,MD⟩)
   clear hR hO hb;go_wp2;go_ret;exact R.o
  |succ m =>
   obtain rfl:=C;obtain⟨ha,z,da,db,_⟩:=E.o;have I:m<a.length:=Mq;have K:m<b.length:=Mq;have W:m<o.length:=(by have:=hR.1;have:=hR.2.1;omega);have r:=λc' d=>ze5 (c':=c') (d:=d) ha z hR I K
   have g:zR w wr:=MD;have L:=JI (N.o.below g) I;have pb:=JI (O.o.below g) K;have po:=Xp hO W hR.2.1;have xa:=jf (zm.1 da _ (yf I));have xb:=jf (zm.1 db _ (yf K));obtain⟨x,hx⟩:=zw (a[m].toNat - 48);obtain⟨y,hy⟩:=zw (b[m].toNat - 48);rw[hx,hy]at r;rw[show((a[m].toNat:Int) - 48)=(x:Int)by omega]at L;rw[show((b[m].toNat:Int) - 48)=(y:Int)by omega]at pb;have x9:x<=9:=J;have y9:y<=9:=J;have c1:c<=1:=hR.2.2.2.1;have mn:m+1<=n:=hR.1;have mi:(m:Int)<(n:Int):=J;have fz:∀j,wr.frozen? ⟨G,j,none⟩=false:=by
    intro j;exact zv4
   have v:=Z r;have HOW:=Z hO;have s:=Z hb;clear r hO hb g hR xa xb hx hy da db ha z;by_cases B:y+c<=x
   .have w1:((x:Int) - (y:Int)) % 256=(x:Int) - (y:Int):=(by omega);have w2:((x:Int) - (y:Int) - (c:Int)) % 256=((x - y - c:Nat):Int):=J;have hd:x - y - c<10:=J;have t:=Z (v.o 0 (x - y - c) hd J J);obtain⟨d,hdd⟩:=zw (x - y - c);rw[hdd]at w2 hd t;have s1:((x:Int) - (y:Int) - (c:Int)) / 128=0:=J;have HDD:=Z (show(x:Int) - (y:Int) - (c:Int)=(d:Int)by omega);clear hdd B;go_wp2_with fail;refine Vy (λW':z8=>W'.cell? (p.add m)=some (.int .u8 x)/\W'.cell? (q.add m)=some (.int .u8 y)) (xH 12) 0 ⟨L,pb⟩ ?_;refine Y5 ?_ _;go_wp2;refine⟨⟨m,0,_,?_,?_,t.o,?_,?_⟩,?_⟩
    .exact Az
    .exact congrArg (yZ .u8) J
    .exact zjq
    .exact qs (s.o.setCell (Y _) _)
    .simp only[intOf];omega
   .have hd:x+10 - y - c<10:=(by omega);have t:=Z (v.o 1 (x+10 - y - c) hd J J);obtain⟨d,hdd⟩:=zw (x+10 - y - c);obtain⟨u,hu⟩:∃u:Nat,((x:Int) - (y:Int)) % 256=(u:Int):=⟨(((x:Int) - (y:Int)) % 256).toNat,J⟩;have w2:((u:Int) - (c:Int)) % 256=((d+246:Nat):Int):=J;have s1:((d:Int)+246) / 128=1:=J;have s2:((d:Int)+246+10) % 256=(d:Int):=J;rw[hdd]at hd t;have HDD:=Z hdd;clear hdd B;go_wp2_with fail;refine Vy (λW':z8=>W'.cell? (p.add m)=some (.int .u8 x)/\W'.cell? (q.add m)=some (.int .u8 y)) (xH 12) 0 ⟨L,pb⟩ ?_;refine Y5 ?_ _;go_wp2;refine⟨⟨m,1,_,?_,?_,t.o,?_,?_⟩,?_⟩
    .exact Az
    .exact congrArg (yZ .u8) J
    .exact zjq
    .exact qs (s.o.setCell (Y _) _)
    .simp only[intOf];omega
variable{B j r:Nat}{F F' M:Nat->Prop}{u:zx}
def fe(M:Nat->Prop)(w:z8)(v:zx)(n:uL):Prop :=
 ∃g o cap,v = .agg #[.bool n.1,.slice (some ⟨g,o,none⟩) (n.2.1.length+n.2.2.length) cap,.int .i64 n.2.2.length]/\n.2.1.length+n.2.2.length<=cap/\cap<=vp/\¬M g/\(∃c,zk w g 0 (.int .u8 c))/\yJ w (some ⟨g,o,none⟩) (xB (n.2.1++n.2.2))/\Ng n.2
def fe.num{n:uL}(h:fe M w v n):q9 w v n.2:=by
 obtain⟨g,o,cap,h1,h2,a,_,b,c,d⟩:=h;exact⟨n.1,g,o,cap,h1,h2,a,b,c,d⟩
def yJ.fr{a:yI}{l:List Int}(h:yJ w (some a) l)(hf:Fr F F' w w')(ha:¬F a.block):yJ w' (some a) l:=λj c=>by
 obtain⟨b,hb,hc⟩:=h j c;cases hb;have e:(a.add j).block=a.block:=by unfold fG;split<;>rfl
 exact⟨a,rfl,hf.cell hc (by rw[e];exact ha)⟩
def fe.fr{M':Nat->Prop}{n:uL}(h:fe M w v n)(hf:Fr F F' w w')(hF:∀k,F k->M k)(i:∀k,M' k->M k\/(w:Nat)<=k):fe M' w' v n:=by
 obtain⟨g,o,cap,h1,h2,d,a,⟨c,b⟩,e,f⟩:=h;have j:=X w _ b;exact⟨g,o,cap,h1,h2,d,λq=>(i g q).elim a (λq=>by simp only at j;omega),⟨c,hf.cell b (λq=>a (hF g q))⟩,e.fr hf (λq=>a (hF g q)),f⟩
def mQ(l:Wd)(a:yI)(c sz:Nat)(w:z8)(hs:l.length<=sz)(h0:0<sz)(i:sz<=300)(hB:yJ w (some a) (xB l)) :
  zE prog 148 #[.slice (some a) l.length c,(sz:Int)] w λe w'=>(∃g b,e = .returned (.slice (some ⟨g,0,none⟩) sz b)/\yJ w' (some ⟨g,0,none⟩) (xB (dO sz l))/\(w:Nat)<=g)/\zR w w':=by
 obtain⟨k,rfl⟩:∃k,sz=l.length+k:=⟨sz - l.length,J⟩;refine(ze3 l a c k w J J hB).mono ?_;rintro e w' ⟨⟨v,rfl,f⟩,hb⟩;have d:(dO (l.length+k) l).length=l.length+k:=by rw[DO];omega
 obtain⟨g,b,rfl,h,-,-⟩:=xY f h0;exact⟨⟨g,b,rfl,j7 f d.symm,h⟩,hb⟩
def rE(w:z8)(B g cap n:Nat)(l:Wd)(a:w.ownsRow B 5 1 (.slice (g,0) n cap) n (vu l))(k:Nat)(hn:n+k<=1000000)(ty:xM) :
  ∃v' w',(Z5 #[34,3] ty #[.slice (g,0) n cap,(k:Int)]).run prog w = .ok v' w'/\w'.ownsRow B 5 1 v' (n+k) (vu (l++zX k 48))/\w.grownBy w' (some g):=by
 obtain⟨i,hi,I,h2,h3⟩:=xI.info;have A:=xI.under;have f:=underlying3;rcases a.2 with⟨hv,_⟩|⟨g',F,b,hv,q,x,z,r,s,d⟩
 .cases hv
 cases hv;have Pg:l.length=n:=by have:=a.1;simpa[vu]using this
 have H:b.size=cap:=by simpa using s
 have hw:vG.wrap (k:Int)=k:=Yq;have m:¬((k:Int)<0):=J;have K:¬(281474976710656<(k:Int)*(i.bytes:Int)):=GL;have p:(Jt (yZ .u8 0).cells k)=(zX k (yZ .u8 0)).toArray:=by
  apply Array.ext';apply xu1
  .simp[Jt,Js]
  .intro j h1 h2;simp[Jt,Js];rw[Nat.mod_one];rfl
 by_cases c:n+k<=cap
 .by_cases h0:k=0
  .subst h0;refine⟨_,w,?_,by simpa using a,vz4 _ _⟩;have D:vG.wrap 0=0:=(by decide);have h:n<=cap:=z;simp[Z5,kJ A,kJ f,sizeOf,typeInfo,hi,h2,h3,asInt,asIntOf,D,h];rfl
  .have o:=run_storeCells_at prog g n 5 (zX k (yZ .u8 0)) 0 b w x yF (by intro v hv;rw[dQ hv];rfl);simp only[EK,fL]at o;refine⟨.slice (zQ g 0) (n+k) cap,w.setRow g (b.toList.take n++zX k (yZ .u8 0)++b.toList.drop (n+k)).toArray,?_,⟨by simp[vu,Pg],.inr ⟨g,cap,_,rfl,q,setRow_heap w g b _ _ _ x,c,r,?_,?_⟩⟩,⟨rfl,rfl,rfl,zV,λj _ L=>setRow_other w g j _ (λe=>L (by simp[e]))⟩⟩
   .simp[Z5,kJ A,kJ f,sizeOf,typeInfo,zeroValue,hi,I,h2,h3,asInt,asIntOf,hw,m,h0,c,p,Addr.add_lit,o];intro G;omega
   .simp;omega
   .have C:b.toList.take n=vu l:=(by simpa using d);rw[C,Cq,UB];exact zxf
 .have holds:∀j u,(vu l)[j]? = some u->w.cell? ((⟨g,0,none⟩:yI).add j)=some u:=a.cells (g:=g) rfl;have t:=run_firstCells_some (P:=prog) w.drew i.size n ⟨g,0,none⟩ n cap (vu l) (by rw[h2];simp[vu,Pg]) (by simpa using holds);have hr:=Lib.run_append_grow_zeros (P:=prog) w _ _ ty _ i _ .i64 .i64 A f hi I (some ⟨g,0,none⟩) n cap (vu l) t k J J J J (by rw[h3];omega) (by rw[h3];exact growslice_fits J J);have N:=(yR.1 x).1;have y:=grownCap_ge w (n+k) cap 5;refine⟨_,_,hr,⟨by simp[vu,Pg],.inr ⟨(w:Nat),_,_,rfl,J,ur w.drew _,y,grownCap_le_maxLen w (n+k) cap 5 (by unfold vp;omega),?_,?_⟩⟩,⟨rfl,rfl,rfl,zV,λk M _=>heap_alloc_old w.drew _ M⟩⟩
  .have E:(yZ Vz 0).cells.size=1:=rfl;simp only[Array.size_append,List.size_toArray,size_zeroCells,E];simp[vu,Pg];omega
  .rw[p,zzd,zzd,Cq,UB];exact zxf
def ze6(n:uL)(v:Nat):C8 n v=if n.1 then (decide (yb (n.2.1++n.2.2)+v*10 ^ n.2.2.length≠0),Hq (yb (n.2.1++n.2.2)+v*10 ^ n.2.2.length) n.2.2.length)
 else if yb (n.2.1++n.2.2)<v*10 ^ n.2.2.length then (true,Hq (v*10 ^ n.2.2.length - yb (n.2.1++n.2.2)) n.2.2.length)
 else (false,Hq (yb (n.2.1++n.2.2) - v*10 ^ n.2.2.length) n.2.2.length):=rfl
def NU(B O q sc:Nat)(nb:Bool)(r:Nat)(w wc:z8):Prop :=
 ∃g n' cap d,zk wc O 0 (.bool nb)/\zk wc O 1 (.slice (some ⟨g,0,none⟩) n' cap)/\zk wc O 2 sc/\(∀j,wc.frozen? ⟨O,j,none⟩=false) /\
  wc.cell? (q,2)=some (.int .i64 sc)/\bP wc (q+1)/\wc.ownsRow B 5 1 (.slice (g,0) n' cap) n' (vu d)/\g≠O/\d.length=n'/\sc+1<=n'/\n'<=61/\d.all yC=true/\yb d=r/\yE B w wc
def bP.other(h:bP w q){a:yI}(ha:a.block≠q)(u:zx):bP (w.setCell a u) q :=
 ⟨uH h.c0 _ ha,uH h.c1 _ ha,uH h.c2 _ ha,Av,AH,by rw[zP];exact h.z2,by simpa[xu]using h.lt⟩
def NU.mk1{O sc b g:Nat}{e:Bool}{a:z8}{d:Wd}(c0:zk a O 0 (.bool e))(c1:zk a O 1 u)(c2:zk a O 2 (sc:Nat))(fz:∀j,a.frozen? ⟨O,j,none⟩=false)
  (f:zk a q 2 sc) (hR:bP a (q+1)) (m:q+1<O) (l:a.ownsRow B 5 1 (.slice (g,0) b cap) b (vu d)) (c:g≠O) (k:d.length=b) (h1:sc+1<=b) (h:b<=61) (hd:d.all yC=true) (hr:yb d=r) (hb:yE B w a) (i:B<=O) :
  NU B O q sc e r w (a.setCell (O,1) (.slice (g,0) b cap)) :=
 ⟨g,b,cap,d,zdg,xq c1 _,zdu,λj=>by rw[zP];exact fz j,uH f _ (by show O≠q;omega),hR.other (by show O≠q+1;omega) _,vz l (by simp[yA,Ne.symm c]) _,c,k,h1,h,hd,hr,hb.setCell i _⟩
def NU.VE{O sc:Nat}{m:Bool}{wc:z8}(h:NU B O q sc m r w wc)(n:q+1<O)(f:B<=O)(b:Bool):NU B O q sc b r w (wc.setCell (O,0) (.bool b)):=by
 obtain⟨g,l,cap,d,c0,c1,c2,fz,c,hR,k,a,i,h1,e,hd,hr,hb⟩:=h;exact⟨g,l,cap,d,xq c0 _,by rw[zr,yv zV];exact c1,zdu,λj=>by rw[zP];exact fz j,uH c _ (by show O≠q;omega),hR.other (by show O≠q+1;omega) _,vz k (by simp[yA,Ne.symm a]) _,a,i,h1,e,hd,hr,hb.setCell f _⟩
def mJ{gd a b sc:Nat}{d:Wd}(h:Bool)(ho:w.ownsRow B 5 1 (.slice (gd,0) a b) a (vu d))(n:j+m=a)(o:j+c=b)(i:d.length=a)(hd:d.all yC=true)(p:a<=61)(hp:dO (sc+1) (xU r)=d.drop j) :
  fe (λk=>k<B) w (.agg #[.bool h,.slice (gd,j) m c,sc]) (h,Hq r sc):=by
 have l:a<=b/\b<=vp:=zjj;have uS:(d.drop j).length=m:=FC;have hm:sc+1<=m:=by rw[<-uS,<-hp,DO];omega
 have hdd:(d.drop j).all yC=true:=by
  rw[zm]at hd|-;exactλx hx=>hd x (jz hx)
 have hf:Hq r sc=((d.drop j).take (m - sc),(d.drop j).drop (m - sc)):=by unfold Hq;rw[hp,uS]
 have hB:=(j7 ho i.symm).drop j;rw[uE,show(xB d).drop j=xB (d.drop j)by simp[xB]]at hB;have f:((d.drop j).take (m - sc)).length=m - sc:=Wl;have g:((d.drop j).drop (m - sc)).length=sc:=FC;refine⟨gd,j,c,?_,?_,J,by have:=(ho.lt gd rfl).1;omega,⟨_,Xp ho (m:=0) J i⟩,?_,?_⟩
 .rw[hf,f,g,show m - sc+sc=m by omega]
 .rw[hf,f,g];omega
 .rw[hf,fY];exact hB
 .rw[hf];refine⟨?_,?_,λe=>?_,by rw[f];omega,by rw[g];omega⟩
  .rw[zm]at hdd|-;exactλx hx=>hdd x (oJ hx)
  .rw[zm]at hdd|-;exactλx hx=>hdd x (jz hx)
  .have:=congrArg xJ e;rw[f]at this;simp at this;omega
def rH(v:zx)(n:uL)(x:Nat)(w:z8)(h:fe (λ_=>False) w v n)(hx:x<=1000000000)(hl:n.2.1.length+n.2.2.length<=40) :
  zE prog 110 #[v,.int .i64 (x:Nat)] w λe w'=>(∃v',e = .returned v'/\fe (λk=>k<w.heap.size) w' v' (C8 n x))/\yE w.heap.size w w':=by
 obtain⟨neg,Xk⟩:=n;obtain⟨g,o,cap,rfl,PZ,LW,-,h0,hB,KR⟩:=h;simp only at hl PZ hB KR|-
 obtain⟨B,hBe⟩:=zw w.heap.size;obtain⟨L,hL⟩:=zw (Xk.1.length+Xk.2.length);obtain⟨sc,hsc⟩:=zw Xk.2.length;have hL1:sc+1<=L:=by have:=zt.2 KR.ne;omega
 rw[hL]at hl PZ|-
 rw[hsc]at|-
 obtain⟨W,hW⟩:=zw ((w.alloc (.cells #[.bool neg,.slice (some ⟨g,o,none⟩) L cap,.int .i64 (sc:Nat)] 99)).alloc (.cells #[.bool false,.slice none 0 0,.int .i64 0] 99));have s1:(w.alloc (.cells #[.bool neg,.slice (some ⟨g,o,none⟩) L cap,.int .i64 (sc:Nat)] 99)).heap.size=B+1:=by simp[hBe]
 have b1:yE B w (w.alloc (.cells #[.bool neg,.slice (some ⟨g,o,none⟩) L cap,.int .i64 (sc:Nat)] 99)):=(zu _ _).alloc (by omega) _;have b2:yE B w W:=by rw[<-hW];exact b1.alloc (by omega) _
 have cW:∀j,j<3->W.cell? ⟨B,j,none⟩=(#[gL neg,.slice (some ⟨g,o,none⟩) L cap,.int .i64 (sc:Nat)]:Array zx)[j]? := λj hj=>by
  rw[<-hW,zc _ _ _ (by show B<_;omega),<-hBe];exact zZ _ _ _ _ _
 have hRW:bP W (B+1):=by
  rw[<-hW,<-s1];exact⟨zZ _ _ _ _ _,zZ _ _ _ _ _,zZ _ _ _ _ _,by simp,by simp,by simp,by simp⟩
 have IJ:=Z hRW;have q0:=cW 0 (by omega);have q1:=cW 1 (by omega);have q2:=cW 2 (by omega);simp only[gQ,qc,qe]at q0 q1 q2;have sW:W.heap.size=B+2:=by rw[<-hW];simp[hBe]
 have HB:=Z hB;have HX:=Z (zf KR (zf hL hsc));have HW:=Z b2;have mG:=Z hBe;have HSW:=Z sW;clear hB KR hL hsc b1 b2 s1 cW h0 hRW;go_enter func110,ntmps110;go_wp2_with fail;have HWE:=Z hW;clear hW hBe;refine rt (λW':z8=>W'.cell? ⟨B,2,none⟩=some (.int .i64 (sc:Nat))) [0,3,4] 4 q2 ?_;(iterate 3 (refine ty ?_;try simp only[pl]))
 refine yW ?_;refine gU 1 (λJk hJ=>?_);go_simp;refine(X8 x W.drew hx).mono ?_;rintro e w1 ⟨⟨g1,cp1,rfl,PM⟩,qI⟩;have rL:yE W.heap.size W w1:=⟨qI.os,qI.tape,qI.output,qI.size,qI.block⟩;have r0:=(rL.cell (p:=⟨B,0,none⟩) (by show B<_;omega)).trans q0;have r1:=(rL.cell (p:=⟨B,1,none⟩) (by show B<_;omega)).trans q1;have r2:=(rL.cell (p:=⟨B,2,none⟩) (by show B<_;omega)).trans q2;have hfd:=JH;have Vu:=rL.size;have uS:=jN 9 x (by omega);obtain⟨w2,v2,Ru,DN,Ik⟩:∃w2 v2,(Z5 #[34,3] 34 #[.slice (some ⟨g1,0,none⟩) (xU x).length cp1,.int .i64 (sc:Int)]).run prog w1 = .ok v2 w2/\w2.ownsRow (B+2) 5 1 v2 ((xU x).length+sc) (vu (xU x++zX sc 48))/\w1.grownBy w2 (some g1):=by
  obtain⟨v2,w2,a,b,c⟩:=rE w1 _ g1 cp1 _ _ PM sc (by omega) 34;exact⟨w2,v2,a,by rw[<-HSW.out];exact b,c⟩
 have FD:B+2<=g1:=by
  have:=(PM.lt g1 rfl).1;rw[show W.drew.heap.size=W.heap.size from rfl,HSW.out]at this;exact this
 have ze7:yE (B+2) W w2:=(rL.mono (by omega)).grown Ik (by omega) (λq hq=>by cases hq;exact FD);have u0:=(ze7.cell (p:=⟨B,0,none⟩) (by show B<_;omega)).trans q0;have u1:=(ze7.cell (p:=⟨B,1,none⟩) (by show B<_;omega)).trans q1;have u2:=(ze7.cell (p:=⟨B,2,none⟩) (by show B<_;omega)).trans q2;obtain⟨dl,yuz⟩:=zw ((xU x).length);have Tw:1<=dl:=by have:=zt.2 (Qy x);omega
 rw[yuz]at DN uS Ru;have HDL:=Z yuz;have HO2:=Z DN;have oS:=Z ze7;clear PM qI rL Ik ze7 DN;rw[yuz];clear yuz;refine hJ.out _ _ r2 λ_=>?_
 clear hJ Jk;refine Tt [2] 2 r2 ?_;refine ty ?_;try simp only[pl]
 refine yW ?_;refine gU 5 (λJk hJ=>?_);refine Lib.wp_append_run _ _ _ _ _ rfl _ _ rfl rfl _ _ Ru ?_;refine hJ.out _ _ u2 λ_=>?_
 clear hJ Jk;refine Tt [6] 0 u2 ?_;refine ty ?_;try simp only[pl]
 refine yW ?_;refine Y5 ?_ _;have An:=xY HO2.out (by omega);obtain⟨g2,cp2,rfl,Ik,vc0,-⟩:=An;obtain⟨sz,Z0⟩:∃sz:Nat,max (L:Int) ((dl:Int)+(sc:Int))=(sz:Int):=⟨max L (dl+sc),by omega⟩;have z1:L<=sz:=by omega
 have z2:dl+sc<=sz:=by omega
 have z3:sz<=60:=by omega
 clear Ru r0 r1 r2 q0 q1 q2;have QK:yE B w w2:=HW.out.trans (oS.out.mono (by omega));have hw1:=mQ (Xk.1++Xk.2) ⟨g,o,none⟩ cap sz w2 (by rw[zy,HX.out.2.1];exact z1) (by omega) (by omega) (HB.out.below (by rw[mG.out];exact QK));rw[zy,HX.out.2.1]at hw1;have HW1:=Z hw1;have xif:=Z QK;clear hw1 QK;go_wp2_with fail;refine HW1.out.mono ?_;rintro e w3 ⟨⟨ga,ca,rfl,hA3,hga⟩,dE⟩;have Yt:=dE.size;have xid:yE B w w3:=xif.out.trans (dE.mono (by have:=oS.out.size;omega));have Th:yE (B+2) W w3:=oS.out.trans (dE.mono (by have:=oS.out.size;omega));have Pg:(xU x++zX sc 48).length=dl+sc:=by rw[zy,fL,HDL.out]
 have hw2:=mQ (xU x++zX sc 48) ⟨g2,0,none⟩ cp2 sz w3 (by rw[Pg];exact z2) (by omega) (by omega) ((j7 HO2.out Pg.symm).below dE);rw[Pg]at hw2;have HW2:=Z hw2;have HA3:=Z hA3;have xib:=Z xid;have HZ3:=Z Th;have dw:=Z Yt;clear hw2 hA3 dE xid Th HW1 oS xif Yt;go_wp2_with fail;refine HW2.out.mono ?_;rintro e w4 ⟨⟨gb,cb,rfl,hB4,hgb⟩,VT⟩;have hs3:=VT.size;have hz4:yE (B+2) W w4:=HZ3.out.trans (VT.mono (by have:=HZ3.out.size;omega));have Ea:yE B w w4:=xib.out.trans (VT.mono (by have:=HZ3.out.size;omega));have t0:w4.cell? ⟨B,0,none⟩=some (.bool neg):=by
  rw[hz4.cell (p:=⟨B,0,none⟩) (by show B<B+2;omega),<-HWE.out,zc _ _ _ (by simp[mG.out]),<-mG.out];exact zZ _ _ _ _ _
 have t2:w4.cell? ⟨B,2,none⟩=some (.int .i64 (sc:Nat)):=by
  rw[hz4.cell (p:=⟨B,2,none⟩) (by show B<B+2;omega),<-HWE.out,zc _ _ _ (by simp[mG.out]),<-mG.out];exact zZ _ _ _ _ _
 have hR4:bP w4 (B+1):=IJ.out.below (by rw[HSW.out];exact hz4);have hA4:=HA3.out.below VT;obtain⟨P1,hP1⟩:=zw (dO sz (Xk.1++Xk.2));obtain⟨P2,hP2⟩:=zw (dO sz (xU x++zX sc 48));have dX:(Xk.1++Xk.2).all yC=true:=by rw[uJ,HX.out.1.zcb,HX.out.1.zk8];rfl
 have dZ:(xU x++zX sc 48).all yC=true:=by rw[uJ,Kh,jd,zm];intro c hc;rw[dQ hc];rfl
 have l1:P1.length=sz:=by rw[<-hP1,DO,zy,HX.out.2.1];omega
 have l2:P2.length=sz:=by rw[<-hP2,DO,Pg];omega
 have d1:P1.all yC=true:=by rw[<-hP1];exact mV dX
 have d2:P2.all yC=true:=by rw[<-hP2];exact mV dZ
 have v1:yb P1=yb (Xk.1++Xk.2):=by rw[<-hP1];exact JB _ _
 have v2:yb P2=x*10 ^ sc:=by rw[<-hP2,dO,JB,RI,mZ]
 rw[hP1]at hA4;rw[hP2]at hB4;have HA4:=Z hA4;have EC:=Z hB4;have HP:=Z (zf l1 (zf l2 (zf d1 (zf d2 (zf v1 v2)))));have HZ4:=Z hz4;have HR4:=Z hR4;have xl1:=Z Ea;have t4:B+2<=w4.heap.size:=by have:=hz4.size;omega
 clear hA4 hB4 l1 l2 d1 d2 v1 v2 hP1 hP2 dX dZ VT hz4 hR4 Ea HA3 xib HZ3 dw HW2 Pg hs3 hfd u0 u1 u2;go_wp2_with fail;obtain⟨l1,l2,d1,d2,v1,v2⟩:=HP.out;refine(X9 P1 P2 sz ca sz cb ⟨ga,0,none⟩ ⟨gb,0,none⟩ _ l1.symm l2.symm (HA4.out.alloc _) (EC.out.alloc _) (l1.trans l2.symm) d1 d2).mono ?_;rintro e w5' ⟨rfl,hw5⟩;obtain⟨O,hO⟩:=zw w4.heap.size;obtain⟨cc,hcc⟩:=zw (NY P1 P2);have QM:cc<0 ↔ yb P1<yb P2:=by rw[<-hcc];exact ze2 (l1.trans l2.symm) d1 d2
 rw[hcc];have o0:w5'.cell? ⟨O,0,none⟩=some (.bool neg):=by rw[<-hw5,<-hO];exact zZ _ _ _ _ _
 have o1:w5'.cell? ⟨O,1,none⟩=some (.slice none 0 0):=by rw[<-hw5,<-hO];exact zZ _ _ _ _ _
 have o2:w5'.cell? ⟨O,2,none⟩=some (.int .i64 (sc:Nat)):=by rw[<-hw5,<-hO];exact zZ _ _ _ _ _
 have b45:yE O w4 w5':=by rw[<-hw5];exact(zu _ _).alloc (by omega) _
 have u0:=(b45.cell (p:=⟨B,0,none⟩) (by show B<O;omega)).trans t0;have u2:=(b45.cell (p:=⟨B,2,none⟩) (by show B<O;omega)).trans t2;have fz:∀j,w5'.frozen? ⟨O,j,none⟩=false:=by intro j;rw[<-hw5,<-hO];simp
 have s5:w5'.heap.size=O+1:=by rw[<-hw5,<-hO];simp
 have HA5:=Z (HA4.out.below (by rw[hO];exact b45));have MO:=Z (EC.out.below (by rw[hO];exact b45));have yuv:=Z (xl1.out.trans (b45.mono (by omega)));have HR5:=Z (HR4.out.below (by rw[hO];exact b45));have HCL:=Z QM;have HLV:=Z (ze6 (neg,Xk) x);rw[hO]at t4|-
 have we:=Z s5;clear QM hw5 hcc b45 HA4 EC xl1 HZ4 t0 t2 hO l1 l2 d1 d2 v1 v2 s5 hgb hga vc0 Ik;go_upto_block 0 with fail
 go_cut [] (λwc=>∃nb r,NU B O B sc nb r w wc/\C8 (neg,Xk) x=(nb && decide (r≠0),Hq r sc))
 case rest =>
  obtain⟨nb,r,⟨gd,n',cp,d,c0,c1,c2,cz,cq,hR,ho,hgO,xl2,DI,hn3,hdd,hdr,Pa⟩,Z9⟩:=hcut;clear o0 o1 o2 u0 u2 fz HA5 MO yuv HCL HLV HP HO2 we HDL;have HO:=Z ho;have HD:=Z (zf xl2 (zf hdd hdr));have QI:=Z Z9;have HBC:=Z Pa;clear ho xl2 hdd hdr Z9 Pa;have HR:=Z hR;clear hR HR5 HR4 IJ;go_upto_block 1 with fail
  go_cut [] (λwl=>∃j m c,j+m=n'/\j+c=cp/\wl.cell? ⟨O,0,none⟩=some (.bool nb)/\wl.cell? ⟨O,1,none⟩=some (.slice (some ⟨gd,j,none⟩) m c)/\wl.cell? ⟨O,2,none⟩=some (.int .i64 (sc:Nat))/\(∀j,wl.frozen? ⟨O,j,none⟩=false)/\bP wl (B+1)/\wl.ownsRow B 5 1 (.slice (some ⟨gd,0,none⟩) n' cp) n' (vu d)/\yE B w wl /\
   dO (sc+1) (xU r)=d.drop j)
  case rest =>
   obtain⟨j,m,c,e1,e2,c0,c1,c2,cz,hR,ho,hb,RO⟩:=hcut;have hgB:gd≠B+1:=by
    rintro rfl;have h1:=Xp ho (m:=0) (by have:=HD.out.1;omega) HD.out.1;rw[hR.c0]at h1
    cases h1
   have uS:(d.drop j).length=m:=by rw[yr,HD.out.1];omega
   have hB:=(j7 ho HD.out.1.symm).drop j;rw[uE,show(xB d).drop j=xB (d.drop j)by simp[xB]]at hB;have HZ:=Z (I5 (d.drop j) m uS.symm (some ⟨gd,j,none⟩) c nb (sc:Int) wc (by omega) hB);have hz:(d.drop j).all (· == 48)=decide (r=0):=by
    have h1:(d.drop j).all yC=true:=by
     have:=HD.out.2.1;rw[zm]at this|-
     exactλx hx=>this x (jz hx)
    have h2:=Cv h1;rw[<-RO,dO,JB,mZ]at h2;rw[xA,decide_eq_true_eq,<-h2,<-RO,dO]
   rw[hz]at HZ;have HQ:=Z (zf e1 (zf e2 (zf ho (zf hb RO))));have r0:=hR.c0;have r1:=hR.c1;have r2:=hR.c2;have y0:=hR.z0;have y1:=hR.z1;have y2:=hR.z2;clear e1 e2 ho hb RO uS hB hz hR HR
   cases nb
   .go_wp2;obtain⟨e1,e2,ho,hb,RO⟩:=HQ.out;refine yU (v := .agg #[.bool false,.slice (some ⟨gd,j,none⟩) m c,.int .i64 (sc:Nat)]) ?_ rfl ?_
    .simp[yN,results110,go_sem,r0,r1,r2]
    .refine⟨⟨_,rfl,?_⟩,?_⟩
     .rw[QI.out,mG.out];exact mJ _ (vz (vz (vz (vz ho (by simp[yA];omega) _) (by simp[yA];omega) _) (by simp[yA];omega) _) (by simp[yA];omega) _) e1 e2 HD.out.1 HD.out.2.1 hn3 RO
     .rw[mG.out];exact(((hb.setCell (by show B<=O;omega) _).setCell (by show B<=B+1;omega) _).setCell (by show B<=B+1;omega) _).setCell (by show B<=B+1;omega) _
   .go_wp2_with fail;refine HZ.out.mono ?_;rintro e w7 ⟨rfl,XZ⟩;have lO:=X wc _ c0;have lR:=X wc _ r0;have c0':=(XZ.cell (p:=⟨O,0,none⟩) lO).trans c0;have c1':=(XZ.cell (p:=⟨O,1,none⟩) lO).trans c1;have c2':=(XZ.cell (p:=⟨O,2,none⟩) lO).trans c2;have cz':∀j,w7.frozen? ⟨O,j,none⟩=false:=λj=>(zU (XZ.block O lO)).trans (cz j)
    have r0':=(XZ.cell (p:=⟨B+1,0,none⟩) lR).trans r0;have r1':=(XZ.cell (p:=⟨B+1,1,none⟩) lR).trans r1;have r2':=(XZ.cell (p:=⟨B+1,2,none⟩) lR).trans r2;have y0':=(XZ.frozen (p:=⟨B+1,0,none⟩) lR).trans y0;have y1':=(XZ.frozen (p:=⟨B+1,1,none⟩) lR).trans y1;have y2':=(XZ.frozen (p:=⟨B+1,2,none⟩) lR).trans y2;have HB7:=Z XZ;clear c0 c1 c2 cz r0 r1 r2 y0 y1 y2 XZ HZ;obtain⟨zz,oE⟩:=zw (decide (r=0));rw[oE];have HZZ:=Z oE;clear oE;go_wp2;obtain⟨e1,e2,ho,hb,RO⟩:=HQ.out;refine yU (v := .agg #[.bool (!zz),.slice (some ⟨gd,j,none⟩) m c,.int .i64 (sc:Nat)]) ?_ rfl ?_
    .simp[yN,results110,go_sem,r0',r1',r2']
    .refine⟨⟨_,rfl,?_⟩,?_⟩
     .rw[QI.out,mG.out,jd,show decide (r≠0) = !zz by rw[<-HZZ.out];simp];exact mJ _ (vz (vz (vz (vz (dn ho HB7.out) (by simp[yA];omega) _) (by simp[yA];omega) _) (by simp[yA];omega) _) (by simp[yA];omega) _) e1 e2 HD.out.1 HD.out.2.1 hn3 RO
     .rw[mG.out];exact((((hb.trans (HB7.out.mono (by omega))).setCell (by show B<=O;omega) _).setCell (by show B<=B+1;omega) _).setCell (by show B<=B+1;omega) _).setCell (by show B<=B+1;omega) _
  case first =>
   go_wp2_with fail;go_loopw [] (λwr=>∃j m c,j+m=n'/\j+c=cp/\sc+1<=m/\wr.cell? ⟨O,0,none⟩=some (.bool nb)/\wr.cell? ⟨O,1,none⟩=some (.slice (some ⟨gd,j,none⟩) m c)/\wr.cell? ⟨O,2,none⟩=some (.int .i64 (sc:Nat))/\(∀j,wr.frozen? ⟨O,j,none⟩=false)/\wr.cell? ⟨B,2,none⟩=some (.int .i64 (sc:Nat))/\bP wr (B+1)/\wr.ownsRow B 5 1 (.slice (some ⟨gd,0,none⟩) n' cp) n' (vu d)/\yE B w wr/\yb (d.drop j)=r) (λwr=>match wr.cell? ⟨O,1,none⟩ with|some (.slice _ n _)=>n|_=>0)
   case atStart=>exact⟨0,n',cp,by omega,by omega,DI,c0,c1,c2,cz,cq,HR.out,HO.out,HBC.out,HD.out.2.2⟩
   case round =>
    clear c0 c1 c2 cz cq;obtain⟨j,m,c,e1,e2,e3,c0,c1,c2,cz,cq,hR,ho,hb,hv⟩:=hrel;obtain⟨dl1,dl2,-⟩:=HD.out;have wI:n'<=cp:=by
     rcases ho.2 with⟨hv,_⟩|⟨g2,GJ,cur,hv,_,_,hh,_⟩
     .cases hv
     .cases hv;exact hh
    have hjd:j<d.length:=by omega
    have ph:=Xp ho hjd dl1;have xj:=jf (zm.1 dl2 _ (yf hjd));obtain⟨y,hy⟩:=zw (d[j].toNat - 48);rw[show((d[j].toNat:Int) - 48)=(y:Int)by omega]at ph;have hdd:(d.drop j).all yC=true:=by
     rw[zm]at dl2|-
     exactλx hx=>dl2 x (jz hx)
    have uS:(d.drop j).length=m:=by rw[yr];omega
    have gN:d.drop j≠[]:=λe=>by rw[e]at uS;simp at uS;omega
    have hdc:=yd hjd;by_cases hm:sc+1<m
    .have k1:(sc:Int)+1<(m:Int):=by omega
     have k2:decide ((sc:Int)+1<(m:Int))=true:=decide_eq_true k1;by_cases h0:y=0
     .subst h0;have h48:d[j]=48:=Y9 (by show _=48;omega);have An:yb (d.drop (j+1))=r:=by
       rw[hdc,h48,qE]at hv;simpa using hv
      have ue6:¬(c=1):=by omega
      have VK:1<=c:=by omega
      have Q9:1<=m:=by omega
      have HQ:=Z (zf e1 (zf e2 (zf e3 (zf hR (zf ho (zf hb An))))));have HM:=Z hm;clear e1 e2 e3 hR ho hb An hv xj hy hdd uS gN hdc h48 dl1 dl2 wI hjd hm;go_wp2;obtain⟨e1,e2,e3,hR,ho,hb,An⟩:=HQ.out;have hm:=HM.out;refine⟨⟨j+1,m - 1,c - 1,by omega,by omega,by omega,by rw[zr,if_neg (by simp)];exact c0,xq c1 _,by rw[zr,if_neg (by simp)];exact c2,λi=>by rw[zP];exact cz i,uH cq _ (by show O≠B;omega),hR.other (by show O≠B+1;omega) _,vz ho (by simp[yA,Ne.symm hgO]) _,hb.setCell (by show B<=O;omega) _,An⟩,?_⟩;rw[xq c1,c1];show m - 1<m;omega
     .have h0':((y:Int)==0)=false:=by simp;omega
      have HQ:=Z (zf e1 (zf e2 (zf hR (zf ho (zf hb (show dO (sc+1) (xU r)=d.drop j by
       rw[<-hv];exact mX hdd gN (by omega) (.inr (by rw[hdc];intro q;apply h0;rw[<-hy,show d[j]=48 from q];rfl))))))))
      clear e1 e2 e3 hR ho hb hv xj hy hdd uS gN hdc dl1 dl2 wI hjd hm h0;go_wp2;go_meet
      obtain⟨e1,e2,hR,ho,hb,An⟩:=HQ.out;exact⟨j,m,c,e1,e2,c0,c1,c2,cz,hR,ho,hb,An⟩
    .have k1:¬((sc:Int)+1<(m:Int)):=by omega
     have k2:decide ((sc:Int)+1<(m:Int))=false:=decide_eq_false k1;have HQ:=Z (zf e1 (zf e2 (zf hR (zf ho (zf hb (show dO (sc+1) (xU r)=d.drop j by
      rw[<-hv];exact mX hdd gN (by omega) (.inl (by omega))))))))
     clear e1 e2 e3 hR ho hb hv xj hy hdd uS gN hdc dl1 dl2 wI hjd hm ph;go_wp2;go_meet
     obtain⟨e1,e2,hR,ho,hb,An⟩:=HQ.out;exact⟨j,m,c,e1,e2,c0,c1,c2,cz,hR,ho,hb,An⟩
 case first =>
  obtain⟨l1,l2,d1,d2,v1,v2⟩:=HP.out
  cases neg
  .by_cases uh:yb P1<yb P2
   .have HM:=Z (Ii P2 P1 sz cb ca ⟨gb,0,none⟩ ⟨ga,0,none⟩ w5' l2 l1 (by omega) (by omega) d2 d1 (by omega) MO.out HA5.out);have HVV:=Z (zf v1 v2);have kc:decide (cc<0)=true:=decide_eq_true (HCL.out.2 uh);clear l1 l2 d1 d2 v1 v2;go_wp2_with fail;refine HM.out.mono ?_;rintro e w6 ⟨⟨v6,d,rfl,G8,hl6,iB,Ks⟩,gT⟩;rw[we.out]at G8 gT;obtain⟨g6,cp6,rfl,hg6,-,-⟩:=xY G8 (by omega);have e0:=(gT.cell (p:=⟨O,0,none⟩) (by show O<_;omega)).trans o0;have e1:=(gT.cell (p:=⟨O,1,none⟩) (by show O<_;omega)).trans o1;have e2:=(gT.cell (p:=⟨O,2,none⟩) (by show O<_;omega)).trans o2;have e3:=(gT.cell (p:=⟨B,2,none⟩) (by show B<_;omega)).trans u2;have ez:∀j,w6.frozen? ⟨O,j,none⟩=false:=λj=>(zU (gT.block O (by omega))).trans (fz j)
    have HOM:=Z (NU.mk1 e0 e1 e2 ez e3 (HR5.out.below (by rw[we.out];exact gT)) (by omega) (bL G8 (by omega)) (by omega) hl6 (by omega) (by omega) iB Ks (yuv.out.trans (gT.mono (by omega))) (by omega));clear G8 gT Ks iB hl6 e3 fz o0 o1 o2 u0 u2;go_wp2;go_meet
    have Ah:=HLV.out;try simp only at Ah
    rw[HX.out.2.2,<-HVV.out.1,<-HVV.out.2]at Ah;refine⟨true,_,HOM.out.VE (by omega) (by omega) true,?_⟩;rw[Ah,if_neg (by simp),if_pos uh,decide_eq_true (by omega)];rfl
   .have HM:=Z (Ii P1 P2 sz ca cb ⟨ga,0,none⟩ ⟨gb,0,none⟩ w5' l1 l2 (by omega) (by omega) d1 d2 (by omega) HA5.out MO.out);have HVV:=Z (zf v1 v2);have kc:decide (cc<0)=false:=decide_eq_false (λq=>uh (HCL.out.1 q));clear l1 l2 d1 d2 v1 v2;go_wp2_with fail;refine HM.out.mono ?_;rintro e w6 ⟨⟨v6,d,rfl,G8,hl6,iB,Ks⟩,gT⟩;rw[we.out]at G8 gT;obtain⟨g6,cp6,rfl,hg6,-,-⟩:=xY G8 (by omega);have e0:=(gT.cell (p:=⟨O,0,none⟩) (by show O<_;omega)).trans o0;have e1:=(gT.cell (p:=⟨O,1,none⟩) (by show O<_;omega)).trans o1;have e2:=(gT.cell (p:=⟨O,2,none⟩) (by show O<_;omega)).trans o2;have e3:=(gT.cell (p:=⟨B,2,none⟩) (by show B<_;omega)).trans u2;have ez:∀j,w6.frozen? ⟨O,j,none⟩=false:=λj=>(zU (gT.block O (by omega))).trans (fz j)
    have HOM:=Z (NU.mk1 e0 e1 e2 ez e3 (HR5.out.below (by rw[we.out];exact gT)) (by omega) (bL G8 (by omega)) (by omega) hl6 (by omega) (by omega) iB Ks (yuv.out.trans (gT.mono (by omega))) (by omega));clear G8 gT Ks iB hl6 e3 fz o0 o1 o2 u0 u2;go_wp2;go_meet
    have Ah:=HLV.out;try simp only at Ah
    rw[HX.out.2.2,<-HVV.out.1,<-HVV.out.2]at Ah;refine⟨false,_,HOM.out,?_⟩;rw[Ah,if_neg (by simp),if_neg uh];rfl
  .have HM:=Z (ze4 P1 P2 sz ca cb ⟨ga,0,none⟩ ⟨gb,0,none⟩ w5' l1 l2 (by omega) (by omega) d1 d2 HA5.out MO.out);have HVV:=Z (zf v1 v2);clear l1 l2 d1 d2 v1 v2;go_wp2_with fail;refine HM.out.mono ?_;rintro e w6 ⟨⟨v6,d,rfl,G8,hl6,iB,Ks⟩,gT⟩;rw[we.out]at G8 gT;obtain⟨g6,cp6,rfl,hg6,-,-⟩:=xY G8 (by omega);have e0:=(gT.cell (p:=⟨O,0,none⟩) (by show O<_;omega)).trans o0;have e1:=(gT.cell (p:=⟨O,1,none⟩) (by show O<_;omega)).trans o1;have e2:=(gT.cell (p:=⟨O,2,none⟩) (by show O<_;omega)).trans o2;have e3:=(gT.cell (p:=⟨B,2,none⟩) (by show B<_;omega)).trans u2;have ez:∀j,w6.frozen? ⟨O,j,none⟩=false:=λj=>(zU (gT.block O (by omega))).trans (fz j)
   have HOM:=Z (NU.mk1 e0 e1 e2 ez e3 (HR5.out.below (by rw[we.out];exact gT)) (by omega) (bL G8 (by omega)) (by omega) hl6 (by omega) (by omega) iB Ks (yuv.out.trans (gT.mono (by omega))) (by omega));clear G8 gT Ks iB hl6 e3 fz o0 o1 o2 u0 u2;go_wp2;go_meet
   have Ah:=HLV.out;try simp only at Ah
   rw[HX.out.2.2,<-HVV.out.1,<-HVV.out.2]at Ah;refine⟨true,_,HOM.out,?_⟩;rw[Ah];simp
variable{ops:Array je}{Q:Exit->Act->z8->Prop}{P:Gz}
def rM:(prog.info? 113).map (λj=>j.size)=some 2:=yg
def JL:∃i:TypeInfo,prog.info? 5=some i/\i.zero=some (.int .u8 0)/\i.size=1/\i.bytes=1:=V9 yg
def Hk:prog.cellsOf 5=1:=yg
def cy(w:z8)(t u ty e:xM)(i:TypeInfo)(r:P.underlying t=some (.slice e))(x:P.underlying u=some .string)(hi:P.info? e=some i)(B:i.zero=some (.int .u8 0))
  (a:i.size=1) (h:i.bytes=1) (v:zx) (n:Nat) (xs:List zx) (b:w.ownsRow 0 e 1 v n xs) (s:ByteArray) (f:n+s.size<=vp) (d:n+s.size<=140737488355328) :
  ∃v' w',(Z5 #[t,u] ty #[v,.string s]).run P w = .ok v' w'/\w'.ownsRow 0 e 1 v' (n+s.size) (xs++xu7 s)/\Fr (zM v) (zM v') w w'/\(v' = .slice none 0 0 ↔ v = .slice none 0 0/\s.size=0):=by
 obtain⟨v',w',hr,h2,o,D⟩:=Ol (P:=P) w 0 t u ty e i r x hi B a h v n xs b s f d (zJ _);refine⟨v',w',hr,h2,⟨o.os,o.tape,o.output,o.size,λk p hn=>o.block k p (λq=>hn q.symm),?_⟩,D⟩;intro k p;rcases b.2 with⟨rfl,rfl⟩|⟨g,cap,m,rfl,F,H,I,G,y,z⟩
 .have hx:xs=[]:=zN (by simpa using b.1);subst hx;obtain⟨v2,w2,c,E,-,-⟩:=Ol (P:=P) w (w:Nat) t u ty e i r x hi B a h (.slice none 0 0) 0 [] (xz _ _ _ _) s f d (Y _);rw[hr]at c;cases c;exact .inr (E.lt k p).1
 .have A:xs.length=n:=by simpa using b.1
  have C:m.size=cap:=by simpa using y
  by_cases l:n+s.size<=cap
  .have c:=Lib.run_append_room_string (P:=P) w t u ty e i r x hi a g n cap m H s l J;rw[hr]at c;cases c;exact .inl p
  .have holds:∀j u,xs[j]? = some u->w.cell? ((⟨g,0,none⟩:yI).add j)=some u:=b.cells (g:=g) rfl;have c:=Lib.run_append_grow_string (P:=P) w t u ty e i (.int .u8 0) r x hi B ⟨g,0,none⟩ n cap xs (by rw[a];simpa using A) holds s J (by unfold vp at f;omega) (by rw[h];exact growslice_fits J J);rw[hr]at c;cases c;cases p;exact .inr (Y _)
def QS{w:z8}{rest:List je}{o:je}{a:Act}(j:o.guard=none)(sl x:Operand)(t u:xM)
  (m:o.op = .call { callee := .builtin .append,args:=#[sl,x],argTypes:=#[t,u] })
  (e:xM) (i:TypeInfo) (p:P.underlying t=some (.slice e)) (q:P.underlying u=some .string) (hi:P.info? e=some i) (r:i.zero=some (.int .u8 0))
  (c:i.size=1) (g:i.bytes=1)
  (v:zx) (n:Nat) (xs:List zx) (hs:a.eval sl=v) (d:w.ownsRow 0 e 1 v n xs) (s:ByteArray) (hx:a.eval x = .string s)
  (f:n+s.size<=vp) (b:n+s.size<=140737488355328)
  (h:∀v' w',w'.ownsRow 0 e 1 v' (n+s.size) (xs++xu7 s)->Fr (zM v) (zM v') w w'->(v' = .slice none 0 0 ↔ v = .slice none 0 0/\s.size=0)->wpList P ops Q rest (a.put o.dst v') w'):wpList P ops Q (o::rest) a w:=by
 refine wpList_plain j λK hK=>?_
 obtain⟨v',w',hr,h2,k,l⟩:=cy (P:=P) w t u o.type e i p q hi r c g v n xs d s f b;unfold j6 execOp;simp only[m,resolve,invoke,builtin,kp,wQ,XU,Jp,vV,De,hs,hx,hr];exact hK _ _ (h v' w' h2 k l)
def qG(b:Nat)(x0 x1 x2 st v:zx)(l:Wd)(w:z8):Prop :=
 ∃p,(p = .pointer none\/p = .pointer (b,3))/\w.heap[b]? = some (.cells #[x0,x1,x2,p,v,st] 167 (0,0))/\w.ownsRow 0 5 1 v l.length (yq l)/\v.ownBlock≠some b/\(l=[]->v = .slice none 0 0)
abbrev Kj(b:Nat)(v:zx)(k:Nat):Prop:=k=b\/zM v k
section
variable {b:Nat} {x0 x1 x2 st v:zx} {l:Wd} {w w':z8}
def qG.lt(h:qG b x0 x1 x2 st v l w):b<(w:Nat):=by
 obtain⟨p,_,hb,_⟩:=h;exact(yR.1 hb).1
def qG.cell(h:qG b x0 x1 x2 st v l w):zk w b 0 x0/\zk w b 1 x1/\zk w b 2 x2/\zk w b 5 st/\∀j,w.frozen? ⟨b,j,none⟩=false:=by
 obtain⟨p,_,hb,_⟩:=h;exact⟨by rw[yx hb];rfl,by rw[yx hb];rfl,by rw[yx hb];rfl,by rw[yx hb];rfl,λj=>vF hb j⟩
def qG.row(h:qG b x0 x1 x2 st v l w):w.ownsRow 0 5 1 v l.length (yq l):=by
 obtain⟨p,_,_,a,_⟩:=h;exact a
def qG.fr(h:qG b x0 x1 x2 st v l w)(hf:Fr F F' w w')(hb:¬F b)(hv:∀g,zM v g->¬F g):qG b x0 x1 x2 st v l w':=by
 have a:=h.lt;obtain⟨p,h1,h2,c,d,e⟩:=h;exact⟨p,h1,(hf.keep b a hb).trans h2,hf.own c hv,d,e⟩
def yuq(w:z8)(x0 x1 x2:zx):qG (w:Nat) x0 x1 x2 (.slice none 0 0) (.slice none 0 0) [] (w.alloc (.cells #[x0,x1,x2,.pointer none,.slice none 0 0,.slice none 0 0] 167)) :=
 ⟨.pointer none,.inl rfl,ur w _,xz _ _ _ _,AX,λ_=>rfl⟩
def ze8(b:Nat)(x0 x1 x2 st v:zx)(l:Wd)(w:z8):Prop :=
 w.heap[b]? = some (.cells #[x0,x1,x2,(b,3),v,st] 167 (0,0))/\w.ownsRow 0 5 1 v l.length (yq l)/\v.ownBlock≠some b/\(l=[]->v = .slice none 0 0)
def rN(h:qG b x0 x1 x2 st v l w) :
  zE prog 119 #[(b,3)] w λe w'=>e = .returned (.tuple #[])/\ze8 b x0 x1 x2 st v l w'/\Fr (Kj b v) (Kj b v) w w':=by
 obtain⟨j,s,t⟩:=Option.map_eq_some_iff.1 rM;have A:=h.lt;obtain⟨p,h1,f,q,m,r⟩:=h;have h0:zk w b 3 p:=by rw[yx f];rfl
 have x:w.frozen? (b,3)=false:=vF f 3;have n:w.shape? b=some (167,6):=by simp[World.shape?,f]
 have c:(w.setCell (b,3) (b,3)).heap[b]? = some (.cells #[x0,x1,x2,(b,3),v,st] 167 (0,0)):=by
  simp[xu,xc,f]
 have d:Fr (λk=>k=b) (λk=>k=b) w (w.setCell (b,3) (b,3)):=(Fr.refl _ _).set _ (.inl rfl);have a:(w.setCell (b,3) (b,3)).ownsRow 0 5 1 v l.length (yq l):=d.own q (λg y e=>m (e▸y));have i:Fr (Kj b v) (Kj b v) w (w.setCell (b,3) (b,3)):=d.wide (λk z => .inl z);have HS:=Z (⟨c,a,m,r⟩:ze8 b x0 x1 x2 st v l (w.setCell (b,3) (b,3)));have HW:=Z i;rcases h1 with rfl|rfl
 .clear f q m r c a i d;go_enter func119,ntmps119;go_wp2;rw[xjz w ⟨b,3,none⟩ underlying111 underlying118 s (by rw[t];decide) n (show 3<6 by decide)];simp only[yt];rw[jc];go_wp2;rw[TB func157 yg yg yg (e:=YW) yg];rw[vz5];simp only[yt];rw[jc];go_wp2;rw[yeq w ⟨b,3,none⟩ underlying118 underlying111 s n yg];exact zdv
 .have u:=Z (⟨f,q,m,r⟩:ze8 b x0 x1 x2 st v l w);clear f q m r c a i d HS HW;go_enter func119,ntmps119;go_wp2;rw[yfq w _ underlying111 s];go_wp2;go_end0
  exact⟨rfl,u.o,Fr.refl _ _⟩
def NQ(t:Wd):xu7 ⟨t.toArray⟩=yq t:=rfl
def RP(a b:Wd):yq a++yq b=yq (a++b):=by simp[yq]
def Cj(b:Nat)(x0 x1 x2 st v:zx)(l:Wd)(w w':z8):Prop:=∃v',qG b x0 x1 x2 st v' l w'/\Fr (Kj b v) (Kj b v') w w'
def F6(t:Wd)(h:qG b x0 x1 x2 st v l w)(I:l.length+t.length<=1000000000) :
  zE prog 105 #[(b,3),zO t] w λe w'=>(∃v,e = .returned v)/\Cj b x0 x1 x2 st v (l++t) w w':=by
 obtain⟨N,hi,F,G,H⟩:=JL;have B:=Z (rN h);have y:(⟨t.toArray⟩:ByteArray).size=t.length:=size_mk _;clear h;go_enter func105,ntmps105;go_wp2_with fail;refine B.o.mono ?_;rintro e w1 ⟨rfl,⟨D5,i,x,m⟩,z⟩;have c0:zk w1 b 3 (zQ b 3):=GX;have c1:zk w1 b 4 v:=GX;have E:b<(w1:Nat):=(yR.1 D5).1;obtain⟨D,r,C,xgj,A,O⟩:=ED z i x m D5 (zo i);clear z i x m D5;go_wp2_with (at_builtin;refine QS rfl _ _ 34 9 rfl 5 N underlying34 underlying9 hi F G H v l.length (yq l) rfl r.o ⟨t.toArray⟩ rfl (by rw[y];unfold vp;omega) (by rw[y];omega) ?_);intro v' w2 a c hz;have K:¬zM v b:=λe=>C.o e
 have qX:w2.heap[b]? = some (.cells #[x0,x1,x2,(zQ b 3),v,st] 167 (0,0)):=(c.keep b E K).trans A.o;have d1:zk w2 b 4 v:=B4;have f1:w2.frozen? (zQ b 4)=false:=vF qX 4;rw[NQ,RP]at a;have a:w2.ownsRow 0 5 1 v' (l.length+t.length) (yq (l++t)):=a;have d:v'.ownBlock≠some b:=λe=>(c.fp b e).elim K (λq=>J)
 have n:(w2.setCell (b,4) v').heap[b]? = some (.cells #[x0,x1,x2,(b,3),v',st] 167 (0,0)):=by
  simp[xu,xc,qX]
 have p:Fr (λk=>k=b) (λk=>k=b) w2 (w2.setCell (b,4) v'):=(Fr.refl _ _).set _ (.inl rfl);have j:(w2.setCell (b,4) v').ownsRow 0 5 1 v' (l++t).length (yq (l++t)):=by
  rw[zy];exact p.own a (λg M e=>d (e▸M))
 have f:l++t=[]->v' = .slice none 0 0:=λe=>zvk
 have s:Fr (Kj b v) (Kj b v') w1 (w2.setCell (b,4) v'):=by
  have h1:Fr (Kj b v) (Kj b v) w1 w2:=c.wide (λk u => .inr u);have h2:Fr (Kj b v) (Kj b v) w2 (w2.setCell (b,4) v'):=p.wide (λk u => .inl u);exact(h1.trans h2).tg (λk u=>u.elim (λe => .inl (.inl e)) (λe=>(c.fp k e).elim (λq => .inl (.inr q)) .inr))
 have L:=Z (⟨v',⟨_,.inr rfl,n,j,d,f⟩,D.o.trans s⟩:Cj b x0 x1 x2 st v (l++t) w (w2.setCell (b,4) v'));obtain⟨P,cap,rfl⟩:=zo a;clear a c hz qX n j f d s p;go_wp2;go_ret2
 exact⟨⟨_,rfl⟩,L.o⟩
def rO(w:z8)(g n:Nat):Fr (λk=>k=g) (λk=>k=g) w (w.freeze ⟨g,0,none⟩ n):=by
 unfold World.freeze;split
 .exact Fr.refl _ _
 .exact⟨rfl,rfl,rfl,zV,λk a hn=>by simp only[xc];rw[yv (λe=>hn e.symm)],λ_ q => .inl q⟩
def yuk(hB:∀g,zM v g->B<=g)(h:qG b x0 x1 x2 st v l w)(C:l.length<=1000000000) :
  zE prog 42 #[(b,3)] w λe w'=>e = .returned (zO l)/\yE B w w'/\Fr (zM v) (zM v) w w':=by
 obtain⟨p,h1,c,uW,i,a⟩:=h;by_cases h0:l=[]
 .have hv:=a h0;subst hv h0;have c1:zk w.drew b 4 (.slice none 0 0):=by
   have:w.drew.heap[b]? = some (.cells #[x0,x1,x2,p,.slice none 0 0,st] 167 (0,0)):=c;exact Mv
  have n:=λW q=>Lib.run_unsafeString_none (P:=prog) W 222 3 9 q
  have m:(YT #[34] 222 #[.slice none 0 0]).run prog w.drew = .ok (.pointer none) w.drew:=rfl;have f:prog.follows Xb=true:=yg;clear uW c i a h1 hB;go_enter func42,ntmps42;go_wp2;go_region_o
  all_goals (go_wp2;go_ret;exact⟨rfl,qs (zu B w),(Fr.refl _ _).drew⟩)
 .have t:l.length≠0:=by simpa using h0
  obtain⟨g,cap,cur,rfl,hg,z,u,s,d⟩:∃g cap cur,v = .slice (some ⟨g,0,none⟩) l.length cap/\w.heap[g]? = some (.cells cur 5 (0,0))/\l.length<=cap/\cap<=vp/\cur.size=cap*1/\cur.toList.take (l.length*1)=yq l:=by
   rcases uW.2 with⟨_,A⟩|⟨g,cap,cur,hv,-,r⟩
   .exact absurd A t
   .exact⟨g,cap,cur,hv,r⟩
  have o:B<=g:=hB g rfl;have c1:zk w.drew b 4 (.slice (g,0) l.length cap):=by
   have:w.drew.heap[b]? = some (.cells #[x0,x1,x2,p,.slice (zQ g 0) l.length cap,st] 167 (0,0)):=c;exact Mv
  have m:(YT #[34] 222 #[.slice (g,0) l.length cap]).run prog w.drew = .ok (g,0) w.drew :=
   Lib.run_unsafeSliceData_row _ _ _ _ _ _ J
  have n:(Builtin.unsafeString_ #[222,3] 9 #[(g,0),l.length]).run prog w.drew = .ok (.string ⟨l.toArray⟩) (w.drew.freeze ⟨g,0,none⟩ l.length):=by
   refine Lib.run_unsafeString_row w.drew 222 3 9 5 underlying222 Hk g cur.size zfy l h0 J J ?_;exact zd8
  have f:prog.follows Xb=true:=yg;clear uW c i a h1 hg s d hB;go_enter func42,ntmps42;go_wp2;go_region_o
  all_goals (go_wp2;go_ret;exact⟨rfl,Lib.below_freeze (qs (zu B w)) (p:=(zQ g 0)) o _,(rO w.drew g l.length).und.wide (λk y=>by rw[y];rfl)⟩)
end
def ze9(v:zx)(n:uL)(x:Nat)(w:z8){M:Nat->Prop}(h:fe M w v n)(hx:x<=1000000000) :
  zE prog 113 #[v,x] w λe w'=>e = .returned (.bool (UF n x))/\zR w w':=by
 have d:=h.num;obtain⟨l,b⟩:=n;obtain⟨g,o,cap,rfl,-⟩:=h;simp only at d|-;have a:∀i,yE w w (w.alloc i):=λi=>(zu _ _).alloc (Y _) _
 have j:=λi=>Z (FW _ b x (w.alloc i) (d.below (a i)) hx)
 clear d;cases l
 .obtain⟨cc,c⟩:=zw (Gh b x);have k:=Z (show UF (false,b) x=decide (cc=0)by unfold UF;rw[c];rfl);rw[c]at j;clear c;go_enter func113,ntmps113;go_wp2_with fail;refine(j _).out.mono ?_;rintro e w1 ⟨rfl,f⟩;have hb:=(a (.cells #[.bool false,.slice (zQ g o) (b.1.length+b.2.length) cap,.int .i64 b.2.length] 99)).trans (f.mono zV);clear f a j;go_wp2;go_ret;rw[k.o];exact⟨by first|rfl|(congr 2;simp) ,hb⟩
 .have k:=Z (show UF (true,b) x=false from rfl);have hb:=a (.cells #[.bool true,.slice (zQ g o) (b.1.length+b.2.length) cap,.int .i64 b.2.length] 99);clear j a;go_enter func113,ntmps113;go_wp2;go_ret;exact⟨by rw[k.o];rfl,hb⟩
variable{cs xs:List zx}{size:Nat}
def zez:Yz prog 163 253 (.agg #[.bool false,.slice none 0 0,.int .i64 0,.bool false,.slice none 0 0,.int .i64 0]) 6 80 :=
 ⟨underlying163,V9 yg,rfl,zW,zW⟩
def QG(nb:Bool)(g o n c k:Nat):List zx:=[.bool nb,.slice (g,o) n c,.int .i64 k]
abbrev RR(nb:Bool)(g o n c k:Nat):zx := .agg #[.bool nb,.slice (g,o) n c,k]
abbrev stF(b:Nat)(st:zx)(k:Nat):Prop:=k=b\/zM st k
section
variable {b:Nat} {x0 x1 x2 st v:zx} {l:Wd} {w w':z8}
def qG.stk(h:qG b x0 x1 x2 st v l w)(a:zx):qG b x0 x1 x2 a v l (w.setCell (b,5) a):=by
 obtain⟨p,h1,h2,d,c,f⟩:=h;exact⟨p,h1,by simp[xu,xc,h2],vz d (λe=>c e.symm) _,c,f⟩
def qG.c5(h:qG b x0 x1 x2 st v l w):zk w b 5 st:=h.cell.2.2.2.1
def qG.z(h:qG b x0 x1 x2 st v l w)(j:Nat):w.frozen? (b,j)=false:=h.cell.2.2.2.2 j
def RS(b:Nat)(x0 x1 x2 st v:zx)(l:Wd)(n:Nat)(cs:List zx)(w w':z8):Prop :=
 ∃st',qG b x0 x1 x2 st' v l w'/\w'.ownsRow 0 253 6 st' n cs/\st'.ownBlock≠some b/\(∀g,zM v g->¬zM st' g)/\Fr (stF b st) (stF b st') w w'
def zey(h:qG b x0 x1 x2 st v l w)(p:w.ownsRow 0 253 6 st n cs)(V:st.ownBlock≠some b)(rP:∀g,zM v g->¬zM st g)(hn:n<=1000000)(F I:Bool)(g o m c k g' H m' c' k':Nat) :
  zE prog 109 #[(b,5),.agg #[.bool F,.slice (g,o) m c,k,.bool I,.slice (g',H) m' c',k']] w λe w'=>e = .returned (.tuple #[])/\RS b x0 x1 x2 st v l (n+1) (cs++(QG F g o m c k++QG I g' H m' c' k')) w w':=by
 have HH:=Z h;have uh:=h.lt;obtain⟨W,hW⟩:=zw (w.alloc (.cells #[.bool F,.slice (zQ g o) m c,k,.bool I,.slice (zQ g' H) m' c',k'] 253));have hb:zR w W:=WZ;have i:Fr yH yH w W:=Fr.of hb;have A:(W:Nat)=(w:Nat)+1:=by rw[<-hW];simp
 have y:=h.fr i id (λ_ _ q=>q);have c5:=y.c5;have hc:∀j,W.cell? ⟨(w:Nat),j,none⟩=(#[gL F,.slice (zQ g o) m c,k,.bool I,.slice (zQ g' H) m' c',k']:Array zx)[j]? := λj=>by rw[<-hW];exact zZ _ _ _ _ _
 have M:=hc 0;have N:=hc 1;have O:=hc 2;have P:=hc 3;have Q:=hc 4;have R:=hc 5;simp only[gQ,qc,qe]at M N O P Q R;obtain⟨B,hB⟩:=zw (w:Nat);rw[hB]at M N O P Q R A uh;have U:=i.own p (λ_ _ q=>q);obtain⟨u,sc,rfl⟩:=zo p;obtain⟨HO,Vs,x,K,HSB,Vk⟩:=ED U i y rP V p;clear h hb i y hc p rP V U;go_enter func109,ntmps109;go_wp2_with fail;try rw[hB]
 have HWE:=Z hW;have mG:=Z hB;have HWS:=Z A;clear hW hB A;refine Dp (λW':z8=>zk W' b 5 (.slice u n sc)/\zk W' B 0 (.bool F)/\zk W' B 1 (.slice (zQ g o) m c)/\zk W' B 2 k/\zk W' B 3 (.bool I)/\zk W' B 4 (.slice (zQ g' H) m' c')/\zk W' B 5 k') 10 [0,1,2,3,4,5] 5 ⟨c5,M,N,O,P,Q,R⟩ ?_;refine dF 6 (λL s=>?_);go_simp;refine s.out _ _ ⟨yu c5 _,yu M _,yu N _,yu O _,yu P _,yu Q _,yu R _⟩ λ_=>?_
 clear s L;refine dF 7 (λL s=>?_);rw[yK xG];change j6 _ _ _ (W.drew.alloc (.cells [_,_,_,_,_,_].toArray _)) _ _
 refine jZ zez [_,_,_,_,_,_] 1 (by exact HO.o) J ?_;intro v2 w2 C f;have f:=f.und;have r:¬zM (.slice u n sc) b:=λe=>HSB.o e
 have E:¬zM (.slice u n sc) B:=λe=>by have:=ug Vk.o e;have:=mG.o;omega
 have f0:=f.cell c5 r;have f1:=f.cell M E;have f2:=f.cell N E;have f3:=f.cell O E;have f4:=f.cell P E;have f5:=f.cell Q E;have f6:=f.cell R E;have z2:w2.frozen? (b,5)=false:=(f.frozen (X _ _ c5) r).trans (x.o.z 5);have D:v2.ownBlock≠some b:=λe=>(f.fp b e).elim r (λq=>by have:=HWS.o;omega)
 have S:qG b x0 x1 x2 v2 v l (w2.setCell (b,5) v2):=(x.o.fr f r (λg hg=>K.o g hg)).stk v2;have t:Fr (stF b (.slice u n sc)) (stF b v2) w (w2.setCell (b,5) v2):=by
  have h1:Fr (stF b (.slice u n sc)) (stF b (.slice u n sc)) w w2:=(Vs.o.wide (G:=stF b (.slice u n sc)) (λ_ q=>q.elim)).trans (f.wide (λk T => .inr T));refine(h1.set (a:=(b,5)) v2 (.inl (.inl rfl))).tg (λk T=>?_);rcases T with rfl|T
  .exact .inl (.inl rfl)
  .exact(f.fp k T).elim (λq => .inl (.inr q)) (λq => .inr M9)
 have HQ:=Z (show RS b x0 x1 x2 (.slice u n sc) v l (n+1) (cs++(QG F g o m c k++QG I g' H m' c' k')) w (w2.setCell (b,5) v2) from
  ⟨v2,S,vz C (λe=>D e.symm) _,D,λg hg e=>(f.fp g e).elim (K.o g hg) (λq=>by have:=ug x.o.row hg;omega),t⟩)
 obtain⟨a2,cc2,rfl⟩:=zo C;clear C f S t D;go_simp;refine s.out _ _ ⟨f0,f1,f2,f3,f4,f5,f6⟩ λ_=>?_
 clear s L;refine jM [8,9] 1 rfl ZW yg yg ⟨f0,f1,f2,f3,f4,f5,f6⟩ ?_;(iterate 2 (refine ty ?_;try simp only[pl]))
 refine yW ?_;refine D0 10 (λL s=>?_);go_simp;refine s.out _ _ ?_;clear s L;refine D1 ?_ _;go_wp2;go_end0
 exact⟨rfl,HQ.o⟩
def zex{base e g:Nat}{w:z8}(h:w.ownsRow base e size (.slice (g,0) (n+1) c) (n+1) xs):w.ownsRow base e size (.slice (g,0) n c) n (xs.take (n*size)):=by
 rcases h with⟨h1,h2⟩;rcases h2 with⟨hv,_⟩|⟨g2,b,a,hv,k1,k2,k3,k4,d,f⟩
 .cases hv
 .cases hv;refine⟨by rw[u4,h1,Nat.succ_mul];omega,.inr ⟨g,c,a,rfl,k1,k2,J,k4,d,?_⟩⟩;rw[<-f,List.take_take,Nat.min_eq_left (uM _ J)]
def yug(h:qG b x0 x1 x2 st v l w){tp:List zx}(d:w.ownsRow 0 253 6 st (n+1) (cs++tp))(j:cs.length=n*6)(k:st.ownBlock≠some b)(m:∀g,zM v g->¬zM st g)(hn:n<=1000000) :
  zE prog 111 #[(b,5)] w λe w'=>e = .returned (.tuple #[])/\RS b x0 x1 x2 st v l n cs w w':=by
 obtain⟨g,c,rfl,-,p,-⟩:=xY d J;have c5:=h.c5;have D:=h.z 5;have q:=zex d;rw[<-j,Jo]at q;have i:n+1<=c:=by
  rcases d.2 with⟨hv,_⟩|⟨g2,s,A,hv,_,_,B,_⟩
  .cases hv
  .cases hv;exact B
 have f:b≠g:=λe=>k (by simp[yA,e])
 have u:=Z (show RS b x0 x1 x2 (.slice (g,0) (n+1) c) v l n cs w (w.setCell (b,5) (.slice (g,0) n c)) from
  ⟨_,h.stk _,vz q (by simpa[yA]using f) _,by simpa[yA]using Ne.symm f,m,(Fr.refl _ _).set (a:=(b,5)) _ (.inl (.inl rfl))⟩)
 have k1:((n:Int)+1) - 1=(n:Int):=J;have C:vG.wrap (n:Int)=(n:Int):=Yq;have k2:n<=c:=J;have k3:(n:Int)<=(c:Int):=J;clear h d q k m i j p;go_enter func111,ntmps111;go_wp2_with fail;refine Dp (λW':z8=>zk W' b 5 (.slice (zQ g 0) (n+1) c)) 14 (xH 14) 1 c5 ?_;refine D0 14 (λx t=>?_);go_simp;refine t.out _ _ ?_;clear t x;refine D1 ?_ _;go_wp2;go_end0
 obtain⟨r,a1,a2,a3,a4,y⟩:=u.o;exact⟨rfl,r,a1,a2,a3,a4,y.drew⟩
def DR(h:qG b x0 x1 x2 st v l w)(f p:Bool)(g o m c k g' i m' c' k':Nat)(d:w.ownsRow 0 253 6 st (n+1) (cs++(QG f g o m c k++QG p g' i m' c' k')))(a:cs.length=n*6)(hn:n<=1000000) :
  zE prog 112 #[(b,5)] w λe w' =>
   e = .returned (.agg #[.bool f,.slice (g,o) m c,k,.bool p,.slice (g',i) m' c',k'])/\zR w w':=by
 obtain⟨q,H,rfl,-,z,hc⟩:=xY d J;have c5:=yu h.c5 (.cells #[.bool false,.slice none 0 0,.int .i64 0,.bool false,.slice none 0 0,.int .i64 0] 253);have cc:∀j,j<6->(w.alloc (.cells #[.bool false,.slice none 0 0,.int .i64 0,.bool false,.slice none 0 0,.int .i64 0] 253)).cell? ⟨q,n*6+j,none⟩=(QG f g o m c k++QG p g' i m' c' k')[j]? := λj K=>by
  rw[zc _ _ _ z,hc _ J,yp J,a,Z7]
 have r:=cc 0 J;have s:=cc 1 J;have t:=cc 2 J;have u:=cc 3 J;have x:=cc 4 J;have y:=cc 5 J;simp only[QG,xd,xV,qc,qe,EK]at r s t u x y;have k1:((n:Int)+1) - 1=(n:Int):=J;have L:vG.wrap (n:Int)=(n:Int):=Yq;have k2:(n:Int)<(n:Int)+1:=J;obtain⟨W,hW⟩:=zw (w.alloc (.cells #[.bool false,.slice none 0 0,.int .i64 0,.bool false,.slice none 0 0,.int .i64 0] 253));rw[hW]at c5 r s t u x y;have hb:zR w W:=WZ;have hr:∀j,W.cell? ⟨(w:Nat),j,none⟩=(#[gL false,.slice none 0 0,.int .i64 0,.bool false,.slice none 0 0,.int .i64 0]:Array zx)[j]? := λj=>by rw[<-hW];exact zZ _ _ _ _ _
 have I:∀j,W.frozen? ⟨(w:Nat),j,none⟩=false:=λj=>by rw[<-hW];simp
 clear h d hc cc a;go_enter func112,ntmps112;go_wp2_with fail;try rw[hW]
 obtain⟨B,hB⟩:=zw (w:Nat);rw[hB]at hr I hb|-;have C:=hr 0;have r1:=hr 1;have r2:=hr 2;have D:=hr 3;have E:=hr 4;have F:=hr 5;simp only[gQ,qc,qe]at C r1 r2 D E F;clear hr hW;refine Dp (λW':z8=>zk W' b 5 (.slice (zQ q 0) (n+1) H)/\zk W' q (n*6) (.bool f)/\zk W' q (n*6+1) (.slice (zQ g o) m c)/\zk W' q (n*6+2) k/\zk W' q (n*6+3) (.bool p)/\zk W' q (n*6+4) (.slice (zQ g' i) m' c')/\zk W' q (n*6+5) k') 12 (xH 12) 1 ⟨c5,r,s,t,u,x,y⟩ ?_;refine D0 12 (λG A=>?_);go_simp;refine A.out _ _ ?_;clear A G;refine D1 ?_ _;go_wp2;refine yU (v := .agg #[.bool f,.slice (zQ g o) m c,k,.bool p,.slice (zQ g' i) m' c',k']) ?_ rfl ?_
 .simp[yN,results112,go_sem,C,r1,r2,D,E,F]
 .refine⟨rfl,?_⟩;rw[hB];(repeat(first|(with_reducible exact hb)|(with_reducible refine qs ?_)|(with_reducible refine ZE ?_ ?_ _;rotate_left;focus(exact Y _))))
end
variable{s:MkS}{hi lo:Nat}{α:Type}
def MkS.ky(P:MkS->Prop)(g:MkS->α->MkS)(b:∀s a,P s->P (g s a)):∀(l:List α) (s:MkS),P s->P (l.foldl g s)
 |[],_,h=>h
 |a::l,s,h=>MkS.ky P g b l _ (b s a h)
structure qm(P:MkS->Prop):Prop where
 put:∀s op v k tg,P s->P (s.put op v k tg)
 const:∀s t,P s->P (s.const t)
 xL:∀s i j,P s->P (s.xL i j)
section
variable {P:MkS->Prop} (I:qm P)
include I
def qm.one(op:Nat)(t:Wd)(h:P s):P (s.one op t):=I.put _ _ _ _ _ (I.const _ _ h)
def qm.vR:∀(f:Fo) (s:MkS) (acc:List Nat),P s->P (MkS.vR f s acc).1
 |.xi k _ _ r,s,acc,h=>by
  rw[MkS.vR];split
  .exact qm.vR r s acc h
  .exact qm.vR r _ _ (I.const _ _ h)
 |.nil,_,_,h=>h
 |.text _ _,_,_,h=>h
 |.hash _,_,_,h=>h
 |.put _ _ _,_,_,h=>h
 |.num _ _ _,_,_,h=>h
 |.br _ _ _ _ _ _ _,_,_,h=>h
def qm.vX:∀(f:Fo) (s:MkS) (acc:List (Wd×Nat)),P s->P (MkS.vX f s acc).1
 |.xi k _ _ r,s,acc,h=>by
  rw[MkS.vX];split
  .exact qm.vX r _ _ (I.put _ _ _ _ _ h)
  .exact qm.vX r s acc h
 |.nil,_,_,h=>h
 |.text _ _,_,_,h=>h
 |.hash _,_,_,h=>h
 |.put _ _ _,_,_,h=>h
 |.num _ _ _,_,_,h=>h
 |.br _ _ _ _ _ _ _,_,_,h=>h
def qm.plu(n o:Wd)(bs:Fo)(s0:MkS)(k:Wd)(h:P s):P (MkS.kV n o bs s0 k s):=zxq
def qm.go:∀(f:Fo) (a:Wd->MkS->MkS) (s:MkS) (ls:List Nat),(∀k s,P s->P (a k s))->P s->P (MkS.uw f a s ls).1
 |.nil,_,_,_,_,h=>h
 |.text t r,a,s,ls,hb,h=>qm.go r a _ ls hb (I.one _ _ h)
 |.hash r,a,s,ls,hb,h=>qm.go r a _ ls hb (I.put _ _ _ _ _ h)
 |.put n _ r,a,s,ls,hb,h=>qm.go r a _ ls hb (I.one _ _ h)
 |.num n _ r,a,s,ls,hb,h=>qm.go r a _ ls hb (I.one _ _ h)
 |.br n _ f o _ bs r,a,s,ls,hb,h=>by
  rw[MkS.uw];split
  .exact qm.go r a _ ls hb (MkS.ky P _ (λs i h=>I.xL _ _ _ h) _ _ (qm.go bs _ _ _ (λk x hx=>I.xL _ _ _ hx) (I.put _ _ _ _ _ (I.vR bs _ _ (I.const _ _ h)))))
  .exact qm.go r a _ ls hb (I.put _ _ _ _ _ (MkS.ky P _ (λs i h=>I.xL _ _ _ h) _ _ (qm.go bs _ _ _ (λk x hx=>I.plu n o bs s k hx) (I.put _ _ _ _ _ (I.vX bs _ _ (I.put _ _ _ _ _ (I.const _ _ h)))))))
 |.xi k _ m r,a,s,ls,hb,h=>qm.go r a _ _ hb (I.put _ _ _ _ _ (qm.go m _ _ _ (λ_ _ h=>h) (hb k s h)))
def qm.all(f:Fo)(h:P MkS.start):P (MkS.all f):=I.put _ _ _ _ _ (I.go f _ _ _ (λ_ _ h=>h) h)
end
def yuf:qm λs=>∀x∈s.code,x.pos<=s.pos:=by
 refine⟨λs op v k tg h x hx=>?_,λs t h=>?_,λs i j h x hx=>?_⟩
 .simp only[MkS.put,zS,zG]at hx|-;rcases hx with hx|rfl
  .have:=h x hx;omega
  .show s.pos<=_;omega
 .obtain⟨-,z2,a⟩:=xS s t;rw[z2,a];exact h
 .simp only[MkS.xL]at hx|-;obtain⟨n,hn,e⟩:=ja.1 hx;have h1:(s.code.modify i λx=>{ x with tg:=x.tg.set j s.pos })[n]? = some x:=Ls;rw[yez]at h1;cases hc:s.code[n]? with
  |none=>rw[hc]at h1;cases h1
  |some y =>
   rw[hc]at h1;have:=h y (ze hc);simp at h1;subst h1;split<;>exact this
structure uf(q:Nat)(s:MkS)(vC vI:zx)(rs:List (zx×zx))(mb:Nat)(w:z8):Prop where
 q0:zk w q 0 vC
 q1:zk w q 1 vI
 q2:zk w q 2 (.map (some mb))
 cC:w.ownsRow 0 9 1 vC s.cs.length (s.cs.map zO)
 cI:w.ownsRow 0 87 5 vI s.code.length (dN s.code rs)
 rows:UU w s.code rs
 mp:jS w mb s.code.length (qp s.code s.code.length)
def xl4(s:MkS)(w:z8)(e:xX)(w':z8):Prop:=∃q vC vI rs mb,e = .returned (.pointer (some ⟨q,0,none⟩))/\uf q s vC vI rs mb w'/\(w:Nat)<=q/\zR w w'
def zev(w:z8):∃W,W=((w.alloc (.cells #[.slice none 0 0,.slice none 0 0,.map none] 84)).alloc (.map #[] 0)).alloc (.cells #[(w,0),.int .i64 0,.map (some ((w:Nat)+1))] 141) /\
  uU ((w:Nat)+2) ⟨(w:Nat),(w:Nat),(w:Nat)+1,.slice none 0 0,.slice none 0 0,[]⟩ MkS.start W/\Fr yH yH w W:=by
 obtain⟨A,hA⟩:=zw (w.alloc (.cells #[.slice none 0 0,.slice none 0 0,.map none] 84));have g:(A:Nat)=(w:Nat)+1:=by rw[<-hA];simp
 have a:=λj=>zZ w #[.slice none 0 0,.slice none 0 0,.map none] 84 (0,0) j
 have s:∀j,A.frozen? ⟨(w:Nat),j,none⟩=false:=by intro j;rw[<-hA];simp
 have tA:gz A (w:Nat)=some 84:=by rw[<-hA];exact bN _ _ _
 have o:Fr yH yH w A:=Iz;rw[hA]at a|-;clear hA;obtain⟨B,hB⟩:=zw (A.alloc (.map #[] 0));have c:(B:Nat)=(w:Nat)+2:=by rw[<-hB];simp[g]
 have e:=jG.made 3 A;have p:Fr yH yH A B:=WN;rw[hB,g]at e;rw[hB];clear hB;obtain⟨C,hC⟩:=zw (B.alloc (.cells #[(zQ (w:Nat) 0),.int .i64 0,.map (some ((w:Nat)+1))] 141));have cC:=λj=>zZ B #[(zQ (w:Nat) 0),.int .i64 0,.map (some ((w:Nat)+1))] 141 (0,0) j
 have t:∀j,C.frozen? ⟨(w:Nat)+2,j,none⟩=false:=by intro j;rw[<-hC,<-c];simp
 have q:gz C ((w:Nat)+2)=some 141:=by rw[<-hC,<-c];exact bN _ _ _
 have d:Fr yH yH B C:=WO;rw[hC,c]at cC;rw[hC];clear hC;have f:=p.trans d;have l:jg []=λ_=>none:=by funext x;simp[jg]
 refine⟨C,rfl,⟨cC 0,cC 1,cC 2,f.cell (a 0) id,f.cell (a 1) id,f.cell (a 2) id,t,λj=>(f.frozen (show (w:Nat)<_ by omega) id).trans (s j),q,(ym (f.keep (w:Nat) J id)).trans tA,?_,xz _ _ _ _,xz _ _ _ _,⟨rfl,λn i r h=>by simp[MkS.start]at h,λn m r r' h=>by simp at h⟩,?_⟩,o.trans f⟩
 .show jG _ _ _ 0 (jg []);rw[l];exact e.fr d id
 .rintro k (rfl|rfl|rfl|b|b|⟨r,hr,-⟩)
  .show (w:Nat)<=(w:Nat)+2;omega
  .exact Yo
  .show (w:Nat)<=(w:Nat)+1;omega
  .cases b
  .cases b
  .cases hr
def zeu(f:Fo)(w:z8)(a:Option yI)(c:Nat)(vs:List zx)(hr:Uv lo hi w a vs)(R:yY lo hi w vs f)(O:hi<=(w:Nat))(hm:f.ya=true)(hw:f.wf 2000000=true)(hc:f.YD)(hl:f.len<=2000000)(hs:f.cw<=890000)
  (hF:qg w) (hN:qu w):zE prog 27 #[.slice a f.len c] w (xl4 (MkS.all f) w):=by
 have Ew:=@run_makeMap prog;obtain⟨W,hW,D,h⟩:=zev w;have g1:=X w _ (hF 0 J);have g2:=X w _ (hN 0 J);have m:Xi lo hi w (w:Nat) W:=⟨⟨zg O h.size,λk h1 h2=>h.keep k J id⟩,O,hF.fr h (λ_ q=>q.elim) g1,λj hj=>h.cell (hN j hj) id,g1,g2⟩;obtain⟨i,E,p,Vs⟩:=hdd (yu1 f _ _ MkS.start W a c vs D m hr R hm hw hc hl (by show 0+_<=_;omega)) m D h;clear hr R hm hw hc hl hF hN m D h;go_enter func27,ntmps27;go_wp2_with fail;rw[<-hW];obtain⟨P,hP⟩:=zw ((w:Nat)+2);rw[show (w:Nat)+1+1=P from hP];rw[hP]at i p;clear hP;refine i.o.mono ?_;rintro e w1 ⟨rfl,L1,z,⟨A,u⟩,y⟩;dsimp only at A u;obtain⟨s1,C⟩:=zw (MkS.Zx f MkS.start);have V:=(aB f MkS.start).2;rw[C]at z V;have EE:s1.sz<=890000:=by have:MkS.start.sz=0:=rfl;omega
 unfold MkS.sz at EE;have v:Xi lo hi w L1.B w1:=by rw[u];exact E.o.fr y p.o.lo
 have U:(xE ⟨0,s1.pos,0,[],[]⟩).length=1:=Iq;have t:=Z (Zy P L1 s1 0 0 [] [] (.slice none 0 0) (.slice none 0 0) w1 z (uk.nil _) (uk.nil _) (λg hg=>U3) (λg hg=>by cases hg) (λg hg=>by cases hg) (λg hg=>WW)
  ⟨(by decide:0<12),zV,zV,zV,zV,rfl⟩ v.fo v.g1 J J (by rw[U];omega))
 have l:s1.put 0 0 [] []=MkS.all f:=by unfold MkS.all;rw[C]
 rw[l]at t;have K:=Z (yuf.all f (λx hx=>K3));have hza:(MkS.all f).code.length<=900000/\(MkS.all f).pos<=900000:=by
  rw[<-l];have:=gh s1 0 0 [] [];rw[U]at this;unfold MkS.sz at this;omega
 have F:=Z y;clear hW z y i C V v l;go_wp2_with fail;refine t.o.mono ?_;rintro e w2 ⟨b9,c9,rfl,-,-,-,n,r,⟨S,DG⟩,N,-,-⟩;have p0:=r.p0;obtain⟨H,b,Va,I⟩:=hdd (pw _ n (MkS.all f) w2 r J (λx hx=>by have:=K.o x hx;omega)) r N (show n.q=(w:Nat)from S.trans A);clear r N t A S u DG;go_wp2_with fail;refine H.o.mono ?_;rintro e w3 ⟨rfl,mb,hmb,q0,q1,q2,Q,d⟩;have nq:∀g,n.has P g->gz w2 g≠some 84->g≠n.q:=by rintro g - hg rfl;exact hg b.o.tq
 have L:=d.own b.o.cC (λg hg=>(b.o.nC hg).2.1);have M:=d.own b.o.cI (λg hg=>(b.o.nI hg).2.1);have T:=b.o.rows.fr d (by rintro g rfl;rw[b.o.tq];simp);have p03:=d.cell p0 b.o.nP.1;have hqq:n.q=(w:Nat):=I.o;have s:zR w w3:=by
  have f12:Fr (λg=>(w:Nat)<=g) (λg=>(w:Nat)<=g) W w2:=((F.o.wide (G:=λg=>(w:Nat)<=g) (λg hg=>p.o.lo g hg)).trans (Va.o.wide (G:=λg=>(w:Nat)<=g) (λg hg=>by
   rcases hg with hg|hg|hg
   .have h1:=F.o.fp g hg;rcases h1 with h1|h1
    .exact p.o.lo g h1
    .exact M9
   .cases hg
   .cases hg)))
  have f13:=f12.trans (d.wide (G:=λg=>(w:Nat)<=g) (by rintro g rfl;show (w:Nat)<=n.q;omega));have:=((Vs.o.wide (G:=λg=>(w:Nat)<=g) (λ_ q=>q.elim)).trans f13);exact this.low (λk hk=>hk) (Y _)
 have HPA:=Z (show uf n.q (MkS.all f) n.vC n.vI n.rs mb w3 from⟨q0,q1,q2,L,M,T,Q⟩);have mG:=Z s;clear L M T s Q q0 q1 q2 d H nq hqq p0;go_wp2;go_ret;exact⟨_,_,_,_,mb,rfl,HPA.o,by rw[I.o];exact Y _,mG.o⟩
variable{t:Wd}
structure zeq(q k:Nat)(x:uF)(I n ic:Nat)(kv tv:zx)(w:z8):Prop where
 q1:zk w q 1 (.slice (I,0) n ic)
 lt:k<n
 op:zk w I (k*5) x.op
 v:zk w I (k*5+2) x.v
 kc:zk w I (k*5+3) kv
 tc:zk w I (k*5+4) tv
 kr:uk w kv x.k
 tr:uk w tv x.tg
section
variable {q mb k:Nat} {s:MkS} {vC vI:zx} {rs:List (zx×zx)} {w:z8}
def uf.ins{x:uF}(h:uf q s vC vI rs mb w)(hk:s.code[k]? = some x):∃I d kv tv,zeq q k x I s.code.length d kv tv w:=by
 have a:=(zD.1 hk).1;obtain⟨⟨kv,tv⟩,hr⟩:∃r,rs[k]? = some r:=⟨_,zj GI⟩;obtain⟨h1,h2⟩:=h.rows.k k x _ hk hr;obtain⟨I,d,b,-,e,yn6⟩:=xY h.cI J;have c:∀j,j<5->w.cell? ⟨I,k*5+j,none⟩=(JU x (kv,tv))[j]? := λj hj=>AE
 exact⟨I,d,kv,tv,by rw[h.q1,b],a,c 0 J,c 2 J,c 3 J,c 4 J,h1,h2⟩
def uf.con(h:uf q s vC vI rs mb w)(a:s.cs[j]? = some t):∃C cc,zk w q 0 (.slice (some ⟨C,0,none⟩) s.cs.length cc)/\zk w C j (zO t)/\j<s.cs.length:=by
 have b:=(zD.1 a).1;obtain⟨C,cc,hv,-,-,hc⟩:=xY h.cC J;exact⟨C,cc,by rw[h.q0,hv],by rw[hc j J,Ql,a];rfl,b⟩
def uk.at_{v:zx}{l:List Nat}{x:Nat}(h:uk w v l)(a:l[j]? = some x):∃g c,v = .slice (some ⟨g,0,none⟩) l.length c/\zk w g j x/\j<l.length:=by
 have b:=(zD.1 a).1;obtain⟨g,c,hv,-,-,hc⟩:=xY h J;exact⟨g,c,hv,by rw[hc j J];simp[bh,a],b⟩
end
section
variable {b q mb k:Nat} {s:MkS} {vC vI x1 x2 st v:zx} {rs:List (zx×zx)} {l:Wd} {w:z8} {x:uF}
def step_end(h:qG b (q,0) x1 x2 st v l w)(hp:uf q s vC vI rs mb w)(d:s.code[k]? = some x)(a:x.op=0)(hn:s.code.length<=1000000) :
  zE prog 65 #[(b,0),k] w λe w'=>e = .returned (.int .i64 (-1))/\w=w':=by
 obtain⟨I,g,kv,tv,q1,lt,f,-⟩:=hp.ins d;obtain⟨n,c⟩:=zw s.code.length;rw[c]at q1 lt hn;rw[a]at f;have b0:=h.cell.1;have k1:(k:Int)<(n:Int):=J;clear h hp d a c;go_enter func65,ntmps65;go_wp2;go_ret;exact⟨rfl,rfl⟩
def rR(h:qG b (q,0) x1 x2 st v l w)(hp:uf q s vC vI rs mb w)(E:s.code[k]? = some x)(c:x.op=1)(D:x.k[0]? = some j)(F:s.cs[j]? = some t)(hn:s.code.length<=1000000)(hc:s.cs.length<=1000000)(a:l.length+t.length<=1000000000) :
  zE prog 65 #[(b,0),k] w λe w'=>e = .returned ((k+1:Nat):Int)/\Cj b (q,0) x1 x2 st v (l++t) w w':=by
 obtain⟨I,O,kv,tv,q1,lt,M,-,G,-,kr,-⟩:=hp.ins E;obtain⟨C,cc,q0,L,g⟩:=hp.con F;obtain⟨K,kc,rfl,N,i⟩:=kr.at_ D;have p:=Z (F6 (w:=w.drew) t h a);obtain⟨n,A⟩:=zw s.code.length;obtain⟨m,y⟩:=zw s.cs.length;obtain⟨z,B⟩:=zw x.k.length;rw[A]at q1 lt hn;rw[y]at q0 g hc;rw[B]at G i;rw[c]at M;have b0:=h.cell.1;have k1:(k:Int)<(n:Int):=J;have k2:(j:Int)<(m:Int):=J;have k3:(0:Int)<(z:Int):=J;have P:(k:Int)<=1000000:=J;clear h hp E c A y B kr D F;go_enter func65,ntmps65;go_wp2_with fail;refine Dp (λW':z8=>zk W' b 0 (zQ q 0)/\zk W' q 0 (.slice (zQ C 0) m cc)/\zk W' I (k*5+3) (.slice (zQ K 0) z kc)/\zk W' K 0 j/\zk W' C j (zO t)) 18 (xH 18) 1 ⟨b0,q0,G,N,L⟩ ?_;refine D0 18 (λH r=>?_);go_simp;refine p.o.mono ?_;rintro e w2 ⟨⟨u,rfl⟩,d⟩;refine r.out _ _ ?_;clear r H;refine D1 ?_ _;have f:=Z d;clear d p;go_wp2;go_ret;obtain⟨v',h1,h2⟩:=f.o;exact⟨B6,v',h1,h2.und⟩
end
variable{A:Nat}{σ:Type}
abbrev kQ(n:Nat):zx := .iface 28 n
def NK(n:Nat)(w:z8):(za (kQ n) 20 28 true).run prog w = .ok (.tuple #[n,.bool true]) w:=xG
def RA(w:z8):(za .nilIface 20 28 true).run prog w = .ok (.tuple #[.int .i64 0,.bool false]) w:=xG
def zek(A B:Nat)(w:z8):CallsD prog 64 #[(A,0),(B,0)] .returning w λe c w'=>e = .returned (.tuple #[])/\c = .returning/\w'=w:=by
 refine Xd func64 rfl λa cs b=>?_
 have ha:=RA;apply wpS_seq;apply EJ;simp[wpOpsS,go_sem,recoverD,b,ha,ntmps64,VY];refine TQ ?_;go_wp2;cases a;simp_all [TK,yN,results64]
def rS(A B n:Nat)(u v:zx)(a:List PanicEntry)(w:z8)(hA:zk w A 0 u)(b:w.frozen? (A,0)=false)(hB:zk w B 0 v)(d:w.frozen? (B,0)=false)(hAB:B≠A) :
  CallsD prog 64 #[(A,0),(B,0)] (.panicking ({ v:=kQ n,recovered:=false }::a)) w λe g w' =>
   e = .returned (.tuple #[])/\g = .panicking ({ v:=kQ n,recovered:=true }::a)/\w'=(w.setCell (A,0) (zO [])).setCell (B,0) (kQ n):=by
 have ha:=NK n;refine Xd func64 rfl λh cs f=>?_
 apply wpS_seq;apply EJ;simp[wpOpsS,go_sem,recoverD,f,ha,ntmps64,VY];refine TQ ?_;simp only[vQ,zX,Qm,List.set_cons_zero,List.set_cons_succ,xu0,xd,xV,Act.put];have c:zk (w.setCell (zQ A 0) (zO [])) B 0 v:=zvg;go_wp2;simp[TK,yN,results64]
def cu{σ:Type}(G:Nat->Prop)(I:Nat->σ->z8->Prop)(Jk K:σ->z8->Prop)(r:aA σ)(w:z8)(e:xX)(w':z8):Prop :=
 (match r with
  |.go k s=>e = .returned k/\I k s w'
  |.fin s=>e = .returned (.int .i64 (-1))/\Jk s w'
  |.err n s=>(∃ZN:List PanicEntry,e = .panicked ({ v:=kQ n,recovered:=false }::ZN)/\ZN.dropWhile (!·.goexit)=[])/\K s w'
  |.bad=>False)/\Fr G G w w'
def xl5{σ:Type}(G:Nat->Prop)(out:σ->Wd)(Zk:σ->z8->Prop)(r:Except (Nat×σ) σ)(w:z8)(e:xX)(w':z8):Prop :=
 (match r with
  |.ok s=>e = .returned (.tuple #[zO (out s),.nilIface])/\Zk s w'
  |.error (n,s)=>e = .returned (.tuple #[zO [],kQ n])/\Zk s w')/\Fr G G w w'
def rT(w:z8)(p l g:zx):z8:=((w.alloc (.cells #[zO []] 9)).alloc (.cells #[.nilIface] 49)).alloc (.cells #[p,l,g,.pointer none,.slice none 0 0,.slice none 0 0] 167)
def rW(w:z8)(hA:(w:Nat)=A):kW A (zO []) .nilIface ((w.alloc (.cells #[zO []] 9)).alloc (.cells #[.nilIface] 49)):=by
 have h1:(w.alloc (.cells #[zO []] 9)).heap.size=A+1:=by simp[hA]
 have uh:A<(w.alloc (.cells #[zO []] 9)).heap.size:=J;exact yb1
def kW.fr(h:kW A u v w)(hf:Fr F F' w w')(ha:¬F A)(hb:¬F (A+1)):kW A u v w' :=
 h.keep λk a=>hf.keep k (by have:=h.lt;omega) (by rcases a with rfl|rfl<;>assumption)
def yrf{σ:Type}(G:Nat->Prop)(I:Nat->Nat->σ->z8->Prop)(Jk:σ->z8->Prop)(F:Nat->σ->aA σ)(r:Except (Nat×σ) σ)(A:Nat)(w:z8)(m:Nat)(kv:zx)(wr:z8):Prop :=
 ((∃k s,kv = .int .i64 (k:Nat)/\I m k s wr/\VN F m k s=some r)\/∃s,kv = .int .i64 (-1)/\Jk s wr/\r = .ok s)/\kW A (zO []) .nilIface wr/\Fr G G w wr
def yud(G:Nat->Prop)(I:Nat->Nat->σ->z8->Prop)(Jk K Zk:σ->z8->Prop)(out:σ->Wd)(F:Nat->σ->aA σ)(fuel:Nat)(s0:σ)(r:Except (Nat×σ) σ)(w:z8)(pa la:Option yI)(S:Fn)(g1 g2:Array zx)
  (U:¬G (w:Nat)) (V:¬G ((w:Nat)+1)) (T:∀k,(w:Nat)+2<=k->G k) (h0:I fuel 0 s0 (rT w (.pointer pa) (.pointer la) (.func S g1 g2)))
  (u:∀s W,Jk s W->∃v x0 x1 x2 st,qG ((w:Nat)+2) x0 x1 x2 st v (out s) W/\(∀b,zM v b->(w:Nat)+2<=b)/\(out s).length<=1000000000/\∀W',Fr (λk=>k=(w:Nat)\/k=(w:Nat)+1\/zM v k) (λk=>k=(w:Nat)\/k=(w:Nat)+1\/zM v k) W W'->Zk s W')
  (hK:∀s W W',K s W->Fr (λk=>k=(w:Nat)\/k=(w:Nat)+1) (λk=>k=(w:Nat)\/k=(w:Nat)+1) W W'->Zk s W')
  (O:∀m k s W,I (m+1) k s W->F k s ≠ .bad->zE prog 65 #[((w:Nat)+2,0),.int .i64 (k:Nat)] W (cu G (I m) Jk K (F k s) W))
  (hr:VN F fuel 0 s0=some r):zE prog 34 #[.pointer pa,.pointer la,.func S g1 g2] w (xl5 G out Zk r w):=by
 have hmf:∀(fn:Fn) (first cap:Array zx) (w:z8),(qA fn first cap).run prog w = .ok (.func fn first cap) w:=λ_ _ _ _=>rfl
 obtain⟨A,hA⟩:=zw (w:Nat);rw[hA]at U V T u O hK;have z:=rW w hA;obtain⟨R,Vk,HR,HKZ,P⟩:=G0 u O hr hK hA;have hW2:((w.alloc (.cells #[zO []] 9)).alloc (.cells #[.nilIface] 49)).heap.size=A+2:=by simp[hA]
 have M:Fr G G w (rT w (.pointer pa) (.pointer la) (.func S g1 g2)):=(((Fr.refl _ _).alloc _).alloc _).alloc _;have i:kW A (zO []) .nilIface (rT w (.pointer pa) (.pointer la) (.func S g1 g2)):=z.below ((zu _ _).alloc (Y _) _);obtain⟨W0,D⟩:=zw (rT w (.pointer pa) (.pointer la) (.func S g1 g2));rw[D]at M i h0;have HW0:=Z D;have H0:=Z h0;have HF0:=Z M;clear u O hr hK hA z D h0 M;go_enter_defers func34,ntmps34;go_wp2_with fail;rw[P.o];go_loopg [9] fuel (λm kv wr=>yrf G I Jk F r A w m kv wr)
 case atStart =>
  have e:=HW0.o;subst e;exact⟨.inl ⟨0,s0,rfl,H0.o,HR.o⟩,i,HF0.o⟩
 case round =>
  obtain⟨L,y,hfr⟩:=hrel;have j:=Z y;have C:=Z hfr;clear hW2 i hfr;rcases L with⟨k,s,rfl,hI,d⟩|⟨s,rfl,hI,QD⟩
  .obtain⟨m,hm⟩:∃m,gk=m+1:=by
    refine⟨gk - 1,?_⟩;have:gk≠0:=λe=>by rw[e]at d;cases d
    omega
   rw[hm,VN]at d;have HM:=Z hm;have g:=Z d;have iA:decide ((0:Int)<=(k:Int))=true:=zV;have HS:=Z (Vk.o m k s wr (by rw[<-hm];exact hI) (λe=>by rw[e]at d;cases d));clear hm d y hI;go_wp2_with fail;refine HS.o.mono ?_;rintro e w1 ⟨hq,hf⟩;have c:=j.o.fr hf U V;have l:=Z (C.o.trans hf);have d:=g.o;obtain⟨o,ho⟩:=zw (F k s);rw[ho]at hq d;clear ho hf HS g C j;cases o with
   |go k' s' =>
    obtain⟨rfl,p⟩:=hq;have HI:=Z p;have h:=Z c;have g:=Z (show VN F m k' s'=some r from d);clear p c d;go_wp2;go_roundg m
    case measure=>have:=HM.o;omega
    case rel=>exact⟨.inl ⟨k',s',rfl,HI.o,g.o⟩,h.o,l.o⟩
   |fin s' =>
    obtain⟨rfl,p⟩:=hq;have HI:=Z p;have h:=Z c;have g:=Z (show(some (.ok s'):Option (Except (Nat×σ) σ))=some r from d);clear p c d;go_wp2;go_roundg m
    case measure=>have:=HM.o;omega
    case rel=>exact⟨.inr ⟨s',rfl,HI.o,(zL g.o).symm⟩,h.o,l.o⟩
   |bad=>exact hq.elim
   |err n s' =>
    obtain⟨⟨ZN,rfl,hold⟩,hk'⟩:=hq;have HK':=Z hk';clear hk';have Q:=Z hold;have g:=Z (show(some (.error (n,s')):Option (Except (Nat×σ) σ))=some r from d);clear hold d;go_wp2;refine kI (f:=64) (args:=#[(zQ A 0),(zQ (A+1) 0)]) zV kO ?_;refine(rS A (A+1) _ _ _ _ _ c.c0 c.z0 c.c1 c.z1 J).mono ?_;rintro e u' VQ ⟨rfl,rfl,rfl⟩;have B:=(c.VE (x:=zO [])).Mw (x:=kQ n);have E:=B.c0;have H:=B.c1;simp[Ur,settle,yN,results34,go_sem,E,H,Q.o];have hr:=zL g.o;rw[<-hr];exact⟨⟨rfl,HKZ.o s' _ _ HK'.o (((Fr.refl _ _).set (a:=(zQ A 0)) _ (.inl (.inl rfl))).set (a:=(zQ (A+1) 0)) _ (.inl (.inr rfl)))⟩,(l.o.set _ (.inr (by rw[P.o];exact Y _))).set _ (.inr (by rw[P.o];exact dJ _))⟩
  .obtain⟨v,x0,x1,x2,st,ho,hv,hl,hz⟩:=R.o s wr hI;have HZ:=Z hz;have HG:=Z (yuk hv ho hl);have HRS:=Z QD;clear hI QD ho hv hl y hz;go_wp2_with fail;refine HG.o.mono ?_;rintro e w1 ⟨rfl,hb,hfv⟩;have HFV:=Z hfv;clear hfv;have c:=j.o.keep (λk hk=>hb.block k J);have uh:=j.o.lt;have Q6:Fr G G w w1:=C.o.trans ⟨hb.os,hb.tape,hb.output,hb.size,λk hk hn=>hb.block k (Nat.lt_of_not_le λq=>hn (T k q)),λ_ q => .inl q⟩;have l:=Z Q6;obtain⟨t,ht⟩:=zw (out s);rw[ht];have HT:=Z ht;have q0:=c.c0;have q1:=c.c1;have q2:=c.z0;have q3:=c.z1;have N:=c.VE (x:=zO t);have PJ:=N.Mw (x := .nilIface);have q4:=N.c1;have q5:=N.z1;clear Q6 hb ht HG;go_wp2;refine kI (f:=64) (args:=#[(zQ A 0),(zQ (A+1) 0)]) zV kO ?_;refine(zek A (A+1) _).mono ?_;rintro e u' VQ ⟨rfl,rfl,rfl⟩;have E:=PJ.c0;have H:=PJ.c1;simp[Ur,settle,yN,results34,go_sem,E,H];rw[HRS.o];exact⟨⟨by rw[<-HT.o],HZ.o _ (((HFV.o.wide (λk hk => .inr (.inr hk))).set (a:=(zQ A 0)) _ (.inl (.inl rfl))).set (a:=(zQ (A+1) 0)) _ (.inl (.inr (.inl rfl))))⟩,(l.o.set _ (.inr (by rw[P.o];exact Y _))).set _ (.inr (by rw[P.o];exact dJ _))⟩
variable{gv:zx}
def yrd(o:yru)(e:xX):Prop :=
 match o with
 |.no=>∃t b,e = .returned (.tuple #[.agg #[zO t,.bool b],.bool false])
 |.val t num=>t.length<=1000000/\e = .returned (.tuple #[.agg #[zO t,.bool num],.bool true])
 |.yrq=>False
section
variable {τ:Type}
def xl6(E:jY τ)(F S:τ->Nat->Prop)(Inv:τ->z8->Prop)(n:Wd)(s:τ)(w:z8)(e:xX)(w':z8):Prop :=
 yrd (E.get n s).1 e/\Inv (E.get n s).2 w'/\Fr (F s) (F (E.get n s).2) w w'/\∀k,S (E.get n s).2 k->S s k\/(w:Nat)<=k
structure NJ(gv:zx)(E:jY τ)(F S:τ->Nat->Prop)(Inv:τ->z8->Prop):Prop where
 call:∃K cp,gv = .func (.func K) #[] cp/\(∀args w,(callFunc K args).run prog w = .ok (.enter K args) w)/\∀W s n,Inv s W->n.length<=5000000->zE prog K (#[zO n]++cp) W (xl6 E F S Inv n s W)
 sub:∀s k,F s k->S s k
 NG:∀s W k,Inv s W->S s k->k<W.heap.size
 keep:∀s W W',Inv s W->W.heap.size<=W'.heap.size->(∀k,S s k->W'.heap[k]? = W.heap[k]?)->Inv s W'
def NJ.fr{E:jY τ}{F S:τ->Nat->Prop}{Inv:τ->z8->Prop}(h:NJ gv E F S Inv){s:τ}{D b:Nat->Prop}(hi:Inv s w)(hf:Fr D b w w')(hd:∀k,D k->¬S s k):Inv s w' :=
 h.keep s w w' hi hf.size (λk a=>hf.keep k (h.NG s w k hi a) (λq=>hd k q a))
def cg(A:Nat)(w:z8)(hA:zk w A 0 (.bool true)):CallsD prog 191 #[(A,0)] .returning w λe c w'=>e = .returned (.tuple #[])/\c = .returning/\w'=w:=by
 refine Xd func191 rfl λa cs b=>?_
 apply wpS_seq;apply EJ;simp[wpOpsS,go_sem,b,hA,ntmps191,VY];refine TQ ?_;go_wp2;cases a;simp_all [TK,yN,results191]
def yub{E:jY τ}{F S:τ->Nat->Prop}{Inv:τ->z8->Prop}(C:NJ gv E F S Inv)(b:Nat)(n:Wd)(s:τ)(w:z8)(c2:zk w b 2 gv)(hi:Inv s w)(hn:n.length<=5000000) :
  zE prog 146 #[(b,0),zO n] w (xl6 E F S Inv n s w):=by
 obtain⟨K,cp,rfl,p7,g⟩:=C.call;have hmf:∀(fn:Fn) (first cap:Array zx) (w:z8),(qA fn first cap).run prog w = .ok (.func fn first cap) w:=λ_ _ _ _=>rfl
 obtain⟨A,hA⟩:=zw (w:Nat);obtain⟨V,hV⟩:=zw (((w.alloc (.cells #[.string ⟨#[]⟩,.bool false] 65)).alloc (.cells #[.bool false] 4)));obtain⟨W,p⟩:=zw (V.setCell (A+1,0) (.bool false));have s1:(w.alloc (.cells #[.string ⟨#[]⟩,.bool false] 65)).heap.size=A+1:=by simp[hA]
 have r:Fr yH yH w W:=by
  rw[<-p,<-hV];exact(((Fr.refl _ _).alloc _).alloc _).set _ (.inr (by rw[hA];exact dJ _))
 have c2W:=r.cell c2 id;have I:(W:Nat)=A+2:=by rw[<-p,<-hV];simp[hA,xu]
 have v0:zk V A 0 (.string ⟨#[]⟩):=zv5;have v1:zk V A 1 (.bool false):=zv5;have v2:zk V (A+1) 0 (.bool false):=by rw[<-hV,<-s1];exact zZ _ _ _ _ _
 have y0:∀j,V.frozen? ⟨A,j,none⟩=false:=λj=>by rw[<-hV,zU (xQ _ _ _ (by show A<_;omega)),<-hA];simp
 have y2:∀j,V.frozen? ⟨A+1,j,none⟩=false:=λj=>by rw[<-hV,<-s1];simp
 have a0:zk W A 0 (.string ⟨#[]⟩):=by rw[<-p];exact uH v0 _ (by show A+1≠A;omega)
 have a1:zk W A 1 (.bool false):=by rw[<-p];exact uH v1 _ (by show A+1≠A;omega)
 have a2:zk W (A+1) 0 (.bool false):=by rw[<-p];exact xq v2 _
 have z0:∀j,W.frozen? ⟨A,j,none⟩=false:=λj=>by rw[<-p,zP];exact y0 j
 have z2:∀j,W.frozen? ⟨A+1,j,none⟩=false:=λj=>by rw[<-p,zP];exact y2 j
 have R:zk V b 2 (.func (.func K) #[] cp):=by
  have:Fr yH yH w V:=by rw[<-hV];exact((Fr.refl _ _).alloc _).alloc _
  exact this.cell c2 id
 have U:(V:Nat)=A+2:=by rw[<-hV];simp[hA]
 have H:=C.fr hi r (λ_ q=>q.elim);obtain⟨HC,P,HG,Q,D,N,l⟩:=EB (g W s n H hn) r C (λk (x:S s k)=>C.NG s w k hi x) C.sub hA I;clear r g H c2 hi C s1 I;go_enter_defers func146,ntmps146;go_wp2_with fail;try rw[p]
 clear p hV v0 v1 v2 y0 y2 U R hA;refine HC.o.mono ?_;rintro e w1 ⟨hr,u,c,i⟩;have m:∀k,A<=k->¬S s k:=λk x q=>by have:=Q.o k q;have:=N.o;omega
 have M:¬F s A:=λq=>m A (Y _) (D.o _ _ q)
 have y:¬F s (A+1):=λq=>m (A+1) J (D.o _ _ q)
 have b0:=c.cell a0 M;have b1:=c.cell a1 M;have b2:=c.cell a2 y;have k0:∀j,w1.frozen? ⟨A,j,none⟩=false:=λj=>(c.frozen (a:=⟨A,j,none⟩) (by show A<_;have:=l.o;omega) M).trans (z0 j)
 have k2:∀j,w1.frozen? ⟨A+1,j,none⟩=false:=λj=>(c.frozen (a:=⟨A+1,j,none⟩) (by show A+1<_;have:=l.o;omega) y).trans (z2 j)
 obtain⟨t,z,ok,rfl⟩:∃t z ok,e = .returned (.tuple #[.agg #[zO t,.bool z],.bool ok]):=by
  unfold yrd at hr;split at hr
  .obtain⟨t,b,h⟩:=hr;exact⟨t,b,_,h⟩
  .exact⟨_,_,_,hr.2⟩
  .exact hr.elim
 have HR:=Z hr;have HI:=Z (zf u (zf c i));have O:=Z m;clear hr u c i m M y a0 a1 a2 z0 z2 HC;go_wp2_with fail;obtain⟨L,B⟩:=zw ((((((w1.setCell (zQ A 0) (zO t)).setCell (zQ A 1) (.bool z)).setCell (zQ (A+1) 0) (.bool true)).setCell (zQ A 0) (zO t)).setCell (zQ A 1) (.bool z)));rw[B];have n01:(⟨A,0,none⟩:yI)≠⟨A,1,none⟩:=zV;have e2:zk L (A+1) 0 (.bool true):=by
  rw[<-B];exact uH (uH (xq (uH (uH b2 _ zV) _ zV) _) _ zV) _ zV
 have e0:zk L A 0 (zO t):=by
  rw[<-B,zr,yv zV];refine xq (v:=zO t) ?_ _;refine uH ?_ _ zV;rw[zr,yv zV];exact xq b0 _
 have e1:zk L A 1 (.bool z):=by
  rw[<-B];refine xq (v := .bool z) ?_ _;rw[zr,yv zV];refine uH ?_ _ zV;refine xq (v := .bool false) ?_ _;rw[zr,yv zV];exact b1
 have d:Fr (λk=>k=A\/k=A+1) (λk=>k=A\/k=A+1) w1 L:=by
  rw[<-B];exact(((((Fr.refl _ _).set _ (.inl (.inl rfl))).set _ (.inl (.inl rfl))).set _ (.inl (.inr rfl))).set _ (.inl (.inl rfl))).set _ (.inl (.inl rfl))
 clear B;refine kI (f:=191) (args:=#[(A+1,0)]) zV kO ?_;refine(cg (A+1) _ e2).mono ?_;rintro e u' VQ ⟨rfl,rfl,rfl⟩;simp[Ur,settle,yN,results146,go_sem,e0,e1];obtain⟨u,c,i⟩:=HI.o;have T:∀k,(k=A\/k=A+1)->¬S (E.get n s).2 k:=by
  intro k x q;rcases i k q with q|q
  .exact O.o k J q
  .have:=l.o;omega
 refine⟨HR.o,HG.o.fr u d T,?_,λk x=>(i k x).imp id (λq=>by have:=l.o;have:=N.o;omega)⟩;have h1:Fr (F s) (F (E.get n s).2) w w1:=((P.o.wide (G:=F s) (λ_ q=>q.elim)).trans c);exact⟨d.os.trans h1.os,d.tape.trans h1.tape,d.output.trans h1.output,zg h1.size d.size,λk x hn=>(d.keep k (zC x h1.size) (λq=>by have:=N.o;omega)).trans (h1.keep k x hn),h1.fp⟩
end
def Il(t:Wd)(num:Bool)(w:z8)(i:t.length<=1000000) :
  zE prog 62 #[.agg #[zO t,.bool num]] w λe w'=>e = .returned (.bool (bZ t num))/\zR w w':=by
 have hb:∀d,yE w w (w.alloc d):=λd=>(zu _ _).alloc (Y _) _
 have g:(⟨t.toArray⟩:ByteArray).size=t.length:=size_mk _;cases num
 .have k1:((t.length:Int)<=60)=(t.length<=60):=by simp only[eq_iff_iff];omega
  have f:=Z (show bZ t false=decide (t.length<=60)from rfl);have c:=Z (hb (.cells #[zO t,.bool false] 65));clear hb;go_enter func62,ntmps62;go_wp2;go_ret;rw[f.o];exact⟨zV,c.o⟩
 .have f:=Z (show bZ t true=ui t from rfl);have h:=λd=>Z (X3 ⟨t.toArray⟩ (w.alloc d) (by rw[g];exact i))
  go_enter func62,ntmps62;go_wp2_with fail;refine(h _).out.mono ?_;rintro e w1 ⟨b,v,k,rfl,⟨va,l,j,rfl⟩,a,-⟩;have c:=Z ((hb _).trans (a.mono zV));clear hb a h;go_wp2;go_ret;rw[f.o];exact⟨rfl,c.o.alloc c.o.size _⟩
variable{w1 w2:z8}
structure Hj(b q j:Nat)(n:Wd)(w:z8):Prop where
 b0:zk w b 0 (q,0)
 c:∃C m cc,zk w q 0 (.slice (some ⟨C,0,none⟩) m cc)/\zk w C j (zO n)/\j<m/\m<=1000000
def Hj.fr{b:Nat}{n:Wd}{D a:Nat->Prop}(h:Hj b q j n w)(hf:Fr D a w w')(hd:∀k,¬D k):Hj b q j n w':=by
 obtain⟨b0,C,m,cc,h1,h2,c⟩:=h;exact⟨hf.cell b0 (hd _),C,m,cc,hf.cell h1 (hd _),hf.cell h2 (hd _),c⟩
def yrb(n:Nat)(e:xX):Prop:=∃ZN:List PanicEntry,e = .panicked ({ v:=kQ n,recovered:=false }::ZN)/\ZN.dropWhile (!·.goexit)=[]
section
variable {τ:Type}
def Qs{α:Type}(F S:τ->Nat->Prop)(Inv:τ->z8->Prop)(s:τ)(w:z8)(ok:α->τ->z8->xX->Prop)(r:Except (Nat×τ) (α×τ))(e:xX)(w':z8):Prop :=
 match r with
 |.ok (a,s')=>ok a s' w' e/\Inv s' w'/\Fr (F s) (F s') w w'/\∀k,S s' k->S s k\/(w:Nat)<=k
 |.error (n,s')=>yrb n e/\Inv s' w'/\Fr (F s) (F s') w w'/\∀k,S s' k->S s k\/(w:Nat)<=k
def Qs.more{E:jY τ}{F S:τ->Nat->Prop}{Inv:τ->z8->Prop}(c:NJ gv E F S Inv){s s':τ}{D b:Nat->Prop}(h:Inv s' w1/\Fr (F s) (F s') w w1/\∀k,S s' k->S s k\/(w:Nat)<=k)(hf:Fr D b w1 w2)(hd:∀k,D k->¬S s' k/\(w:Nat)<=k):Inv s' w2/\Fr (F s) (F s') w w2/\∀k,S s' k->S s k\/(w:Nat)<=k :=
 ⟨c.fr h.1 hf (λk q=>(hd k q).1),⟨hf.os.trans h.2.1.os,hf.tape.trans h.2.1.tape,hf.output.trans h.2.1.output,zg h.2.1.size hf.size,λk a hn=>(hf.keep k (zC a h.2.1.size) (λq=>by have:=(hd k q).2;omega)).trans (h.2.1.keep k a hn),h.2.1.fp⟩,h.2.2⟩
def vc5(a:Wd×Bool)(_:τ)(_:z8)(e:xX):Prop:=a.1.length<=1000000/\e = .returned (.agg #[zO a.1,.bool a.2])
def NF{E:jY τ}{F S:τ->Nat->Prop}{Inv:τ->z8->Prop}(O:NJ gv E F S Inv)(b q j:Nat)(n:Wd)(s:τ)(w:z8)(c2:zk w b 2 gv)(hc:Hj b q j n w)(hi:Inv s w)(hn:n.length<=5000000) :
  zE prog 106 #[(b,0),j] w (Qs F S Inv s w vc5 (VO E n s)):=by
 obtain⟨W,hW⟩:=zw (w.alloc (.cells #[.string ⟨#[]⟩,.bool false] 65));have f:Fr yH yH w W:=by rw[<-hW];exact(Fr.refl _ _).alloc _
 obtain⟨A,hA⟩:=zw (w:Nat);have a0:zk W A 0 (.string ⟨#[]⟩):=WE;have a1:zk W A 1 (.bool false):=WE;have z0:∀j,W.frozen? ⟨A,j,none⟩=false:=λj=>by rw[<-hW,<-hA];simp
 have R:(W:Nat)=A+1:=by rw[<-hW];simp[hA]
 have r:∀k,S s k->k<A:=λk Q=>by rw[<-hA];exact O.NG s w k hi Q
 have P:=O.fr hi f (λ_ q=>q.elim);obtain⟨b0,C,m,cc,q0,cj,hjm,hm⟩:=hc.fr f (λ_ q=>q);have z:=Z (yub O b n s W (f.cell c2 id) P hn);have k1:(j:Int)<(m:Int):=J;obtain⟨Vs,HG,H,I⟩:=hdd f O r R;clear f P c2 hc hi O r R;go_enter func106,ntmps106;go_wp2_with fail;refine z.o.mono ?_;rintro e w1 ⟨hr,x,c,h⟩;have T:¬F s A:=λq=>by have:=H.o A (HG.o.sub _ _ q);omega
 have u:=c.cell a0 T;have K:=c.cell a1 T;have y0:∀j,w1.frozen? ⟨A,j,none⟩=false:=λj=>(c.frozen (a:=⟨A,j,none⟩) (by show A<_;have:=I.o;omega) T).trans (z0 j)
 obtain⟨⟨o,s'⟩,ho⟩:∃p,E.get n s=p:=⟨_,rfl⟩;rw[ho]at hr x c h;have M:Fr (F s) (F s') w w1:=(Vs.o.wide (G:=F s) (λ_ q=>q.elim)).trans c;have N:∀k,S s' k->S s k\/(w:Nat)<=k:=λk Q=>(h k Q).imp id (λq=>M9)
 have V:=Z ho;have HI:=Z (zf x (zf M N));have l:¬S s' A:=λq=>(h A q).elim (λq=>by have:=H.o A q;omega) (λq=>by have:=I.o;omega)
 have U:=Z l;clear x c h M N ho z a0 a1 z0 b0 q0 cj T l;cases o with
 |yrq=>exact hr.elim
 |no =>
  obtain⟨t,bb,rfl⟩:=hr;have B:=Z (show VO E n s = .error (12,s')by unfold VO;rw[V.o]);go_wp2;refine⟨rfl,?_⟩;rw[B.o];exact zx2
 |val t num =>
  obtain⟨ht,rfl⟩:=hr;have HT:=Z ht;have HV:=λW=>Z (Il t num W ht)
  go_wp2_with fail;refine(HV _).out.mono ?_;rintro e w2 ⟨rfl,g⟩;have lA:A<(w1:Nat):=X w1 _ u;have d:Fr yH yH w1 w2:=((Fr.refl _ _).alloc _).trans (Fr.of g);have d0:=d.cell u id;have d1:=d.cell K id;have d2:∀j,w2.frozen? ⟨A,j,none⟩=false:=λj=>(d.frozen (a:=⟨A,j,none⟩) lA id).trans (y0 j)
  have e0:zk w2 (w1:Nat) 0 (zO t):=(g.cell zV).trans (zZ _ _ _ _ 0);have e1:zk w2 (w1:Nat) 1 (.bool num):=(g.cell zV).trans (zZ _ _ _ _ 1);have HFZ:=Z d;have uez:¬((w1:Nat)=A):=λe=>J
  have L:=Qs.more HG.o HI.o d (λ_ q=>q.elim);have y:=Z L;clear g d u K y0 HV L;cases i:bZ t num
  .have B:=Z (show VO E n s = .error (11,s')by unfold VO;rw[V.o];simp only[i];rfl);clear i;go_wp2;refine⟨rfl,?_⟩;rw[B.o];exact⟨⟨[],rfl,rfl⟩,y.o⟩
  .have B:=Z (show VO E n s = .ok ((t,num),s')by unfold VO;rw[V.o];simp only[i];rfl);clear i;go_wp2;refine yU (v := .agg #[zO t,.bool num]) ?_ rfl ?_
   .simp[yN,results106,go_sem,d0,d1]
   .rw[B.o];exact⟨⟨HT.o,rfl⟩,Qs.more HG.o y.o (D:=λk=>k=A) (((Fr.refl (λk=>k=A) _).set (a:=(zQ A 0)) _ (.inl rfl)).set (a:=(zQ A 1)) _ (.inl rfl)) (λk Q=>by subst Q;exact⟨U.o,J⟩)⟩
end
end Go.Proofs.YtpggmjffejgakaaGreatDoor
namespace Go.Proofs.YtpggmjffejgakaaGreatDoor
open Go Go.RowKit Go.Extern.Stop Go.Stop Go.Extern
set_option maxRecDepth 10000
abbrev uS(t:Nat):zx := .pointer (12,t)
def rlm(z:Sem zx)(f:xM->yI->Nat->Nat->Sem zx)(v:zx) :
  ReflectliteValue.method z f #[v]=(do match <-ReflectliteValue.parts v with|none=>z|some (t,a,fl)=>f t a fl (fl % 32)):=rfl
def rls(v x:zx):ReflectliteValue.set #[v,x]=(do
  let (some (dst,a,fl),some (src,b,_)):=(<-ReflectliteValue.parts v,<-ReflectliteValue.parts x)
   |yfk (.noEntry "extern/(internal/reflectlite.Value).Set.zeroValue")
  if fl / ReflectliteValue.flagAddr % 2==0 then yfk (.noEntry "extern/(internal/reflectlite.Value).Set.unaddressable")
  let val <-Hw src b
  if <-Rtype.directlyAssignable dst src then iY dst a val
  else if <-Rtype.implements dst src then
   if (<-Rtype.kind src)==20 then
    match val with
    |.nilIface=>yfk (.noEntry "extern/reflectlite: a nil value of one interface type handed on as a value of another")
    |_=>iY dst a val
   else iY dst a (.iface src val)
  else panicString ("reflectlite.Set: value of type " ++ (<-Rtype.spelt src) ++ " is not assignable to type " ++ (<-Rtype.spelt dst))
  pure (.tuple #[])):=rfl
def Kg(h:zx)(w:z8):(iX 496 224 (.agg #[h]) "Kind").run prog w = .ok (278,h) w:=yg
def Kf(h:zx)(w:z8):(iX 496 224 (.agg #[h]) "Elem").run prog w = .ok (296,.agg #[h]) w:=yg
def bX(h:zx)(w:z8):(iX 496 224 (.agg #[h]) "Implements").run prog w = .ok (297,.agg #[h]) w:=yg
def fx(h:zx)(w:z8):(iX 496 224 (.agg #[h]) "AssignableTo").run prog w = .ok (294,.agg #[h]) w:=yg
def Im(t:yI)(w:z8):(ReflectliteValue.unpack (.iface 74 (.pointer (some t)))).run prog w
  = .ok (.agg #[uS 74,(w,0),.int .u64 150]) (w.alloc (.cells #[.pointer (some t)] 74)):=yg
def zej(a:yI)(w:z8):(ReflectliteValue.methodAny (ReflectliteValue.valueError "reflectlite.Value.Type" 0) (λt _ _ _=>ReflectliteType.toType t) #[.agg #[uS 74,.pointer (some a),.int .u64 150]]).run prog w
  = .ok (.iface 224 (.agg #[uS 74])) w:=yg
def mF(w:z8):((ReflectliteType.abiMethod λt=>(λa:Nat=>yZ Vz (a:Int)) <$> Rtype.kind t) #[uS 74]).run prog w = .ok (.int .u8 22) w:=yg
def mB(w:z8):((ReflectliteType.abiMethod λt=>(λa:Nat=>yZ Vz (a:Int)) <$> Rtype.kind t) #[uS 72]).run prog w = .ok (.int .u8 22) w:=yg
def mC(a:yI)(w:z8):(ReflectliteValue.parts (.agg #[uS 74,.pointer (some a),.int .u64 150])).run prog w = .ok (some (74,a,150)) w:=yg
def mH(a p:yI)(W:z8)(ha:W.cell? a=some (.pointer (some p))) :
  (ReflectliteValue.method (ReflectliteValue.valueError "reflectlite.Value.IsNil" 0) ReflectliteValue.isNil #[.agg #[uS 74,.pointer (some a),.int .u64 150]]).run prog W = .ok (.bool false) W:=by
 rw[rlm];simp only[kp,mC,yt];simp[ReflectliteValue.isNil,Hw,xjy,KI,underlying74,ha,yt]
def zeg(w:z8):(ReflectliteType.method ReflectliteType.elem #[.agg #[uS 74]]).run prog w = .ok (.iface 224 (.agg #[uS 72])) w:=yg
def zef(w:z8):(ReflectliteType.relation "Implements" ReflectliteType.implements_ #[.agg #[uS 72],.iface 224 (.agg #[uS 49])]).run prog w = .ok (.bool true) w:=yg
def zed(w:z8):(Rtype.elem? 74).run prog w = .ok (some 72) w:=yg
def vc7(p:yI)(w:z8):(ReflectliteValue.mk 72 p ReflectliteValue.flagAddr).run prog w = .ok (.agg #[uS 72,.pointer (some p),.int .u64 406]) w:=yg
def yq0(a p:yI)(W:z8)(ha:W.cell? a=some (.pointer (some p))) :
  (ReflectliteValue.method (ReflectliteValue.valueError "reflectlite.Value.Elem" 0) ReflectliteValue.elem #[.agg #[uS 74,.pointer (some a),.int .u64 150]]).run prog W
   = .ok (.agg #[uS 72,.pointer (some p),.int .u64 406]) W:=by
 rw[rlm];simp only[kp,mC,yt];simp[ReflectliteValue.elem,Hw,xjy,KI,underlying74,ha,yt,zed,vc7]
def zeb(a:yI)(w:z8):(ReflectliteValue.parts (.agg #[uS 72,.pointer (some a),.int .u64 406])).run prog w = .ok (some (72,a,406)) w:=yg
def rA(t:yI)(w:z8):(ReflectliteValue.unpack (.iface 77 (.pointer (some t)))).run prog w
  = .ok (.agg #[uS 77,(w,0),.int .u64 150]) (w.alloc (.cells #[.pointer (some t)] 77)):=yg
def xz0(a:yI)(w:z8):(ReflectliteValue.methodAny (ReflectliteValue.valueError "reflectlite.Value.Type" 0) (λt _ _ _=>ReflectliteType.toType t) #[.agg #[uS 77,.pointer (some a),.int .u64 150]]).run prog w
  = .ok (.iface 224 (.agg #[uS 77])) w:=yg
def yq1(w:z8):((ReflectliteType.abiMethod λt=>(λa:Nat=>yZ Vz (a:Int)) <$> Rtype.kind t) #[uS 77]).run prog w = .ok (.int .u8 22) w:=yg
def yq2(w:z8):((ReflectliteType.abiMethod λt=>(λa:Nat=>yZ Vz (a:Int)) <$> Rtype.kind t) #[uS 28]).run prog w = .ok (.int .u8 2) w:=yg
def mL(a:yI)(w:z8):(ReflectliteValue.parts (.agg #[uS 77,.pointer (some a),.int .u64 150])).run prog w = .ok (some (77,a,150)) w:=yg
def yq3(a p:yI)(W:z8)(ha:W.cell? a=some (.pointer (some p))) :
  (ReflectliteValue.method (ReflectliteValue.valueError "reflectlite.Value.IsNil" 0) ReflectliteValue.isNil #[.agg #[uS 77,.pointer (some a),.int .u64 150]]).run prog W = .ok (.bool false) W:=by
 rw[rlm];simp only[kp,mL,yt];simp[ReflectliteValue.isNil,Hw,xjy,KI,underlying77,ha,yt]
def xz1(w:z8):(ReflectliteType.method ReflectliteType.elem #[.agg #[uS 77]]).run prog w = .ok (.iface 224 (.agg #[uS 28])) w:=yg
def xz2(w:z8):(ReflectliteType.relation "Implements" ReflectliteType.implements_ #[.agg #[uS 28],.iface 224 (.agg #[uS 49])]).run prog w = .ok (.bool true) w:=yg
def zi0(w:z8):(Rtype.elem? 77).run prog w = .ok (some 28) w:=yg
def vc8(p:yI)(w:z8):(ReflectliteValue.mk 28 p ReflectliteValue.flagAddr).run prog w = .ok (.agg #[uS 28,.pointer (some p),.int .u64 386]) w:=yg
def yq4(a p:yI)(W:z8)(ha:W.cell? a=some (.pointer (some p))) :
  (ReflectliteValue.method (ReflectliteValue.valueError "reflectlite.Value.Elem" 0) ReflectliteValue.elem #[.agg #[uS 77,.pointer (some a),.int .u64 150]]).run prog W
   = .ok (.agg #[uS 28,.pointer (some p),.int .u64 386]) W:=by
 rw[rlm];simp only[kp,mL,yt];simp[ReflectliteValue.elem,Hw,xjy,KI,underlying77,ha,yt,zi0,vc8]
def zi1(a:yI)(w:z8):(ReflectliteValue.parts (.agg #[uS 28,.pointer (some a),.int .u64 386])).run prog w = .ok (some (28,a,386)) w:=yg
def zi2(v:zx)(w:z8):(ReflectliteType.typeOf #[.iface 72 v]).run prog w = .ok (.iface 224 (.agg #[uS 72])) w:=yg
def zi3(w:z8):(ReflectliteType.relation "AssignableTo" ReflectliteType.assignableTo #[.agg #[uS 72],.iface 224 (.agg #[uS 72])]).run prog w = .ok (.bool true) w:=yg
def cd(e:yI)(w:z8):(ReflectliteValue.unpack (.iface 72 (.pointer (some e)))).run prog w
  = .ok (.agg #[uS 72,(w,0),.int .u64 150]) (w.alloc (.cells #[.pointer (some e)] 72)):=yg
def zi4(a:yI)(w:z8):(ReflectliteValue.parts (.agg #[uS 72,.pointer (some a),.int .u64 150])).run prog w = .ok (some (72,a,150)) w:=yg
def zi5(w:z8):(Rtype.directlyAssignable 72 72).run prog w = .ok true w:=yg
def xl7(ta b:yI)(e:yI)(Om:zx)(W:z8)(hb:W.cell? b=some (.pointer (some e)))(ht:W.cell? ta=some Om)(hf:W.frozen? ta=false) :
  (ReflectliteValue.set #[.agg #[uS 72,.pointer (some ta),.int .u64 406],.agg #[uS 72,.pointer (some b),.int .u64 150]]).run prog W
   = .ok (.tuple #[]) (W.setCell ta (.pointer (some e))):=by
 rw[rls];simp only[kp,zeb,zi4,yt];simp[ReflectliteValue.flagAddr,Hw,xjy,KI,underlying72,hb,yt,zi5,iY,Js,storeCells,fG];rw[run_store prog W ta _ _ xG];simp[ht,hf]
def Ra(v:zx)(w:z8):(ReflectliteType.typeOf #[.iface 28 v]).run prog w = .ok (.iface 224 (.agg #[uS 28])) w:=yg
def zi6(w:z8):(ReflectliteType.relation "AssignableTo" ReflectliteType.assignableTo #[.agg #[uS 28],.iface 224 (.agg #[uS 28])]).run prog w = .ok (.bool true) w:=yg
def cZ(e:Int)(w:z8):(ReflectliteValue.unpack (.iface 28 e)).run prog w
  = .ok (.agg #[uS 28,(w,0),.int .u64 130]) (w.alloc (.cells #[e] 28)):=yg
def zi7(a:yI)(w:z8):(ReflectliteValue.parts (.agg #[uS 28,.pointer (some a),.int .u64 130])).run prog w = .ok (some (28,a,130)) w:=yg
def zi8(w:z8):(Rtype.directlyAssignable 28 28).run prog w = .ok true w:=yg
def xl8(ta b:yI)(e:Int)(Om:zx)(W:z8)(hb:W.cell? b=some (.int .i64 e))(ht:W.cell? ta=some Om)(hf:W.frozen? ta=false) :
  (ReflectliteValue.set #[.agg #[uS 28,.pointer (some ta),.int .u64 386],.agg #[uS 28,.pointer (some b),.int .u64 130]]).run prog W
   = .ok (.tuple #[]) (W.setCell ta e):=by
 rw[rls];simp only[kp,zi1,zi7,yt];simp[ReflectliteValue.flagAddr,Hw,xjy,KI,underlying28,hb,yt,zi8,iY,Js,storeCells,fG];rw[run_store prog W ta _ _ xG];simp[ht,hf]
def Rc(w:z8):(ReflectliteType.relation "AssignableTo" ReflectliteType.assignableTo #[.agg #[uS 28],.iface 224 (.agg #[uS 72])]).run prog w = .ok (.bool false) w:=yg
def xz3(v:zx)(xT:xM)(w:z8):(za (.iface 28 v) xT 229 true).run prog w = .ok (.tuple #[.nilIface,.bool false]) w:=Jh underlying229 yg yg v xT w
def cY(v:zx)(xT:xM)(w:z8):(za (.iface 28 v) xT 232 true).run prog w = .ok (.tuple #[.nilIface,.bool false]) w:=Jh underlying232 yg yg v xT w
def Re(v:zx)(xT:xM)(w:z8):(za (.iface 28 v) xT 234 true).run prog w = .ok (.tuple #[.nilIface,.bool false]) w:=Jh underlying234 yg yg v xT w
def zi9(e t:yI)(Om:zx)(w:z8)(hg:zk w 1 0 (.iface 224 (.agg #[uS 49])))(ht0:w.cell? t=some Om)(hf0:w.frozen? t=false) :
  zE prog 25 #[.iface 72 (.pointer (some e)),.iface 74 (.pointer (some t))] w λev w'=>ev = .returned (.bool true)/\∃o1 o2 o3 o4:Obj,w'=((((w.alloc o1).alloc o2).alloc o3).alloc o4).setCell t (.pointer (some e)):=by
 have h0:=@run_callFunc_extern prog 43 _ (λargs=>ReflectliteValue.unpack (args.getD 0 (.tuple #[]))) func43 yg yg yg yg;have h1:=@run_callFunc_extern prog 44 _ (ReflectliteValue.methodAny (ReflectliteValue.valueError "reflectlite.Value.Type" 0) (λt _ _ _=>ReflectliteType.toType t)) func44 yg (by kernel_rfl) (by kernel_rfl) (by kernel_rfl);have h2:=@run_callFunc_extern prog 45 _ (ReflectliteValue.method (ReflectliteValue.valueError "reflectlite.Value.IsNil" 0) ReflectliteValue.isNil) func45 (by kernel_rfl) (by kernel_rfl) (by kernel_rfl) (by kernel_rfl);have h3:=@run_callFunc_extern prog 278 _ (ReflectliteType.abiMethod λt=>do pure (.int .u8 (<-Rtype.kind t))) func278 (by kernel_rfl) (by kernel_rfl) (by kernel_rfl) (by kernel_rfl);have h4:=@run_callFunc_extern prog 296 _ (ReflectliteType.method ReflectliteType.elem) func296 (by kernel_rfl) (by kernel_rfl) (by kernel_rfl) (by kernel_rfl);have h5:=@run_callFunc_extern prog 297 _ (ReflectliteType.relation "Implements" ReflectliteType.implements_) func297 (by kernel_rfl) (by kernel_rfl) (by kernel_rfl) (by kernel_rfl);have h6:=@run_callFunc_extern prog 92 _ (ReflectliteType.typeOf) func92 (by kernel_rfl) (by kernel_rfl) (by kernel_rfl) (by kernel_rfl);have h7:=@run_callFunc_extern prog 294 _ (ReflectliteType.relation "AssignableTo" ReflectliteType.assignableTo) func294 (by kernel_rfl) (by kernel_rfl) (by kernel_rfl) (by kernel_rfl);have h8:=@run_callFunc_extern prog 93 _ (ReflectliteValue.method (ReflectliteValue.valueError "reflectlite.Value.Elem" 0) ReflectliteValue.elem) func93 (by kernel_rfl) (by kernel_rfl) (by kernel_rfl) (by kernel_rfl);have h9:=@run_callFunc_extern prog 94 _ (ReflectliteValue.set) func94 (by kernel_rfl) (by kernel_rfl) (by kernel_rfl) (by kernel_rfl);have mK:=Kg;have mE:=Kf;have mI:=bX;have mA:=fx;have f1:=Im;have f2:=zej;have f3:=mF;have f4:=mB;have f5:=zeg;have f6:=zef;have n8:=mH ⟨(w:Nat),0,none⟩ t ((w.alloc (.cells #[.pointer (some t)] 74)).alloc (.cells #[uS 74,(w,0),.int .u64 150] 121)) zV;have uh:1<(w:Nat):=AS;have Ik:zk ((w.alloc (.cells #[.pointer (some t)] 74)).alloc (.cells #[uS 74,(w,0),.int .u64 150] 121)) 1 0 (.iface 224 (.agg #[uS 49])):=zyg;have htl:t.block<(w:Nat):=zyd;have el:=yq0 ⟨(w:Nat),0,none⟩ t (((w.alloc (.cells #[.pointer (some t)] 74)).alloc (.cells #[uS 74,(zQ (w:Nat) 0),.int .u64 150] 121)).alloc (.cells #[uS 74,(zQ (w:Nat) 0),.int .u64 150] 121)) zg1;have tO:=zi2;have aT:=zi3;have vT:=cd;have st:=xl7 t ⟨(w:Nat)+1+1+1,0,none⟩ e Om ((((w.alloc (.cells #[.pointer (some t)] 74)).alloc (.cells #[uS 74,(zQ (w:Nat) 0),.int .u64 150] 121)).alloc (.cells #[uS 74,(zQ (w:Nat) 0),.int .u64 150] 121)).alloc (.cells #[.pointer (some e)] 72))
  zgx
  zd4
  zd3
 go_enter func25,ntmps25;go_wp2;refine gV 1 ?_;rw[xR];go_wp2;go_ret;exact⟨rfl,_,_,_,_,rfl⟩
def ziz(e:Int)(t:yI)(Om:zx)(w:z8)(hg:zk w 1 0 (.iface 224 (.agg #[uS 49])))(ht0:w.cell? t=some Om)(hf0:w.frozen? t=false) :
  zE prog 25 #[.iface 28 e,.iface 77 (.pointer (some t))] w λev w'=>ev = .returned (.bool true)/\∃o1 o2 o3 o4:Obj,w'=((((w.alloc o1).alloc o2).alloc o3).alloc o4).setCell t e:=by
 have h0:=@run_callFunc_extern prog 43 _ (λargs=>ReflectliteValue.unpack (args.getD 0 (.tuple #[]))) func43 yg yg yg yg;have h1:=@run_callFunc_extern prog 44 _ (ReflectliteValue.methodAny (ReflectliteValue.valueError "reflectlite.Value.Type" 0) (λt _ _ _=>ReflectliteType.toType t)) func44 yg (by kernel_rfl) (by kernel_rfl) (by kernel_rfl);have h2:=@run_callFunc_extern prog 45 _ (ReflectliteValue.method (ReflectliteValue.valueError "reflectlite.Value.IsNil" 0) ReflectliteValue.isNil) func45 (by kernel_rfl) (by kernel_rfl) (by kernel_rfl) (by kernel_rfl);have h3:=@run_callFunc_extern prog 278 _ (ReflectliteType.abiMethod λt=>do pure (.int .u8 (<-Rtype.kind t))) func278 (by kernel_rfl) (by kernel_rfl) (by kernel_rfl) (by kernel_rfl);have h4:=@run_callFunc_extern prog 296 _ (ReflectliteType.method ReflectliteType.elem) func296 (by kernel_rfl) (by kernel_rfl) (by kernel_rfl) (by kernel_rfl);have h5:=@run_callFunc_extern prog 297 _ (ReflectliteType.relation "Implements" ReflectliteType.implements_) func297 (by kernel_rfl) (by kernel_rfl) (by kernel_rfl) (by kernel_rfl);have h6:=@run_callFunc_extern prog 92 _ (ReflectliteType.typeOf) func92 (by kernel_rfl) (by kernel_rfl) (by kernel_rfl) (by kernel_rfl);have h7:=@run_callFunc_extern prog 294 _ (ReflectliteType.relation "AssignableTo" ReflectliteType.assignableTo) func294 (by kernel_rfl) (by kernel_rfl) (by kernel_rfl) (by kernel_rfl);have h8:=@run_callFunc_extern prog 93 _ (ReflectliteValue.method (ReflectliteValue.valueError "reflectlite.Value.Elem" 0) ReflectliteValue.elem) func93 (by kernel_rfl) (by kernel_rfl) (by kernel_rfl) (by kernel_rfl);have h9:=@run_callFunc_extern prog 94 _ (ReflectliteValue.set) func94 (by kernel_rfl) (by kernel_rfl) (by kernel_rfl) (by kernel_rfl);have mK:=Kg;have mE:=Kf;have mI:=bX;have mA:=fx;have f1:=rA;have f2:=xz0;have f3:=yq1;have f4:=yq2;have f5:=xz1;have f6:=xz2;have n8:=yq3 ⟨(w:Nat),0,none⟩ t ((w.alloc (.cells #[.pointer (some t)] 77)).alloc (.cells #[uS 77,(w,0),.int .u64 150] 121)) zV;have uh:1<(w:Nat):=AS;have Ik:zk ((w.alloc (.cells #[.pointer (some t)] 77)).alloc (.cells #[uS 77,(w,0),.int .u64 150] 121)) 1 0 (.iface 224 (.agg #[uS 49])):=zyg;have htl:t.block<(w:Nat):=zyd;have el:=yq4 ⟨(w:Nat),0,none⟩ t (((w.alloc (.cells #[.pointer (some t)] 77)).alloc (.cells #[uS 77,(zQ (w:Nat) 0),.int .u64 150] 121)).alloc (.cells #[uS 77,(zQ (w:Nat) 0),.int .u64 150] 121)) zg1;have tO:=Ra;have aT:=zi6;have vT:=cZ;have st:=xl8 t ⟨(w:Nat)+1+1+1,0,none⟩ e Om ((((w.alloc (.cells #[.pointer (some t)] 77)).alloc (.cells #[uS 77,(zQ (w:Nat) 0),.int .u64 150] 121)).alloc (.cells #[uS 77,(zQ (w:Nat) 0),.int .u64 150] 121)).alloc (.cells #[e] 28))
  zgx
  zd4
  zd3
 go_enter func25,ntmps25;go_wp2;refine gV 1 ?_;rw[xR];go_wp2;go_ret;exact⟨rfl,_,_,_,_,rfl⟩
def yq5(e:Int)(t:yI)(Om:zx)(w:z8)(hg:zk w 1 0 (.iface 224 (.agg #[uS 49])))(ht0:w.cell? t=some Om)(hf0:w.frozen? t=false) :
  zE prog 25 #[.iface 28 e,.iface 74 (.pointer (some t))] w λev w'=>ev = .returned (.bool false)/\∃o1 o2 o3:Obj,w'=((w.alloc o1).alloc o2).alloc o3:=by
 have h0:=@run_callFunc_extern prog 43 _ (λargs=>ReflectliteValue.unpack (args.getD 0 (.tuple #[]))) func43 yg yg yg yg;have h1:=@run_callFunc_extern prog 44 _ (ReflectliteValue.methodAny (ReflectliteValue.valueError "reflectlite.Value.Type" 0) (λt _ _ _=>ReflectliteType.toType t)) func44 yg (by kernel_rfl) (by kernel_rfl) (by kernel_rfl);have h2:=@run_callFunc_extern prog 45 _ (ReflectliteValue.method (ReflectliteValue.valueError "reflectlite.Value.IsNil" 0) ReflectliteValue.isNil) func45 (by kernel_rfl) (by kernel_rfl) (by kernel_rfl) (by kernel_rfl);have h3:=@run_callFunc_extern prog 278 _ (ReflectliteType.abiMethod λt=>do pure (.int .u8 (<-Rtype.kind t))) func278 (by kernel_rfl) (by kernel_rfl) (by kernel_rfl) (by kernel_rfl);have h4:=@run_callFunc_extern prog 296 _ (ReflectliteType.method ReflectliteType.elem) func296 (by kernel_rfl) (by kernel_rfl) (by kernel_rfl) (by kernel_rfl);have h5:=@run_callFunc_extern prog 297 _ (ReflectliteType.relation "Implements" ReflectliteType.implements_) func297 (by kernel_rfl) (by kernel_rfl) (by kernel_rfl) (by kernel_rfl);have h6:=@run_callFunc_extern prog 92 _ (ReflectliteType.typeOf) func92 (by kernel_rfl) (by kernel_rfl) (by kernel_rfl) (by kernel_rfl);have h7:=@run_callFunc_extern prog 294 _ (ReflectliteType.relation "AssignableTo" ReflectliteType.assignableTo) func294 (by kernel_rfl) (by kernel_rfl) (by kernel_rfl) (by kernel_rfl);have h8:=@run_callFunc_extern prog 93 _ (ReflectliteValue.method (ReflectliteValue.valueError "reflectlite.Value.Elem" 0) ReflectliteValue.elem) func93 (by kernel_rfl) (by kernel_rfl) (by kernel_rfl) (by kernel_rfl);have h9:=@run_callFunc_extern prog 94 _ (ReflectliteValue.set) func94 (by kernel_rfl) (by kernel_rfl) (by kernel_rfl) (by kernel_rfl);have mK:=Kg;have mE:=Kf;have mI:=bX;have mA:=fx;have f1:=Im;have f2:=zej;have f3:=mF;have f4:=mB;have f5:=zeg;have f6:=zef;have n8:=mH ⟨(w:Nat),0,none⟩ t ((w.alloc (.cells #[.pointer (some t)] 74)).alloc (.cells #[uS 74,(w,0),.int .u64 150] 121)) zV;have uh:1<(w:Nat):=AS;have Ik:zk ((w.alloc (.cells #[.pointer (some t)] 74)).alloc (.cells #[uS 74,(w,0),.int .u64 150] 121)) 1 0 (.iface 224 (.agg #[uS 49])):=zyg;have htl:t.block<(w:Nat):=zyd;have tO:=Ra;have aT:=Rc;have n1:=xz3;have n2:=cY;have n3:=Re;go_enter func25,ntmps25;go_wp2;refine gV 1 ?_;rw[xR];go_wp2;go_ret;exact⟨rfl,_,_,_,rfl⟩
end Go.Proofs.YtpggmjffejgakaaGreatDoor
namespace Go.Proofs.YtpggmjffejgakaaGreatDoor
open Go Go.RowKit
set_option maxRecDepth 10000
variable{w w':z8}
def JM(w:z8):Prop:=w.cell? (1,0)=some (.iface 224 (.agg #[uS 49]))
def JM.below(h:JM w)(hb:zR w w'):JM w':=by
 have a:=X w _ h;unfold JM;rw[hb.cell (p:=(zQ 1 0)) a];exact h
def cX(n:Int):zx:=if n=0 then .nilIface else .iface 28 n
def UH(n at_:Int)(w:z8)(e:xX)(w':z8):Prop:=e = .returned (.tuple #[n,at_])/\zR w w'
def UI(w:z8):zE prog 15 #[.nilIface] w (UH 0 0 w):=by
 go_enter func15,ntmps15;go_wp2;go_ret2
 exact zg7
def ziy(n:Int)(w:z8)(h:JM w):zE prog 15 #[.iface 28 n] w (UH n 0 w):=by
 have g:=Z h;clear h;go_enter func15,ntmps15;go_wp2_with fail;refine yw ?_;intro W hW;have hb:zR w W:=MY;have i:(w:Nat)+2<=(W:Nat):=by rw[hW];simp
 have hA:zk W (w:Nat) 0 (.pointer none)/\W.frozen? (zQ (w:Nat) 0)=false:=Wc;have hB:zk W ((w:Nat)+1) 0 (.int .i64 0)/\W.frozen? (zQ ((w:Nat)+1) 0)=false:=Wc;clear hW;refine(yq5 n ⟨(w:Nat),0,none⟩ _ W (g.o.below hb) hA.1 hA.2).mono ?_;rintro e w1 ⟨rfl,l,m,p,f⟩;have qI:zR W w1:=by rw[f];exact(((zu _ _).alloc (Y _) _).alloc zV _).alloc yF _
 have a:zk w1 ((w:Nat)+1) 0 (.int .i64 0)/\w1.frozen? ((w:Nat)+1,0)=false :=
  ⟨by rw[qI.cell yF];exact hB.1,by rw[qI.frozen yF];exact hB.2⟩
 have b:=hb.trans (qI.mono J);have j:(w:Nat)+2<=(w1:Nat):=Aq;clear f hA hB qI i;go_wp2_with fail;refine(ziz n ⟨(w:Nat)+1,0,none⟩ _ w1 (g.o.below b) a.1 a.2).mono ?_;rintro e w2 ⟨rfl,p1,p2,q,r,hw2⟩;have d:yE ((w:Nat)+1) w1 w2:=zd5;have c:=b.trans (d.mono J);have k:zk w2 ((w:Nat)+1) 0 n:=by
  rw[hw2,zr,yK rfl];rw[zc _ _ _ yF,zc _ _ _ yF,zc _ _ _ yF,zc _ _ _ (by show (w:Nat)+1<_;omega),a.1];rfl
 clear hw2 d a;go_wp2;go_ret2
 exact⟨rfl,c⟩
def Cg(n:Int)(w:z8)(a:JM w):zE prog 15 #[cX n] w (UH n 0 w):=by
 unfold cX;by_cases h:n=0
 .subst h;rw[yK rfl];exact UI w
 .rw[yv h];exact ziy n w a
def ND:(prog.info? 113).map (λj=>j.size)=some 2:=yg
def Hg(B b:Nat)(bs:List zx)(w:z8)(h:xe 113 5 B b bs w) :
  zE prog 119 #[(b,0)] w λe w'=>e = .returned (.tuple #[])/\TC 113 5 B b (b,0) bs w'/\yE B w w':=by
 obtain⟨j,c,d⟩:=Option.map_eq_some_iff.1 ND;rcases h with h|h
 .have h0:=h.cell0;have a:=h.shape;have f:=h.frozen0;have H:=Z h;clear h;go_enter func119,ntmps119;go_wp2;rw[xjz w ⟨b,0,none⟩ underlying111 underlying118 c (by rw[d];decide) a (Nat.zero_lt_succ 1)];simp only[yt];rw[jc];go_wp2;rw[TB func157 yg yg yg (e:=YW) yg];rw[vz5];simp only[yt];rw[jc];go_wp2;rw[yeq w ⟨b,0,none⟩ underlying118 underlying111 c a yg];simp only[yt];rw[jc];go_wp2;go_end0
  exact⟨rfl,H.o.used _,(zu B w).setCell (p:=(b,0)) H.o.1 _⟩
 .have h0:=h.cell0;have H:=Z h;clear h;go_enter func119,ntmps119;go_wp2;rw[yfq w _ underlying111 c];go_wp2;go_end0
  exact⟨rfl,H.o,zu B _⟩
def Hf(B b:Nat)(bs:List zx)(r:Int)(q : -2147483648<=r)(s:r<=2147483647)(w:z8)(h:xe 113 5 B b bs w)(i:bs.length+4<=140737488355328)(x:B<=(w:Nat)) :
  zE prog 70 #[(b,0),.int .i32 r] w λe w'=>(∃v,e = .returned v)/\xe 113 5 B b (bs++wY r) w'/\yE B w w':=by
 have z:=yfj r;go_enter func70,ntmps70;go_wp2_with fail;refine(Hg B b bs _ h).mono ?_;rintro e w1 ⟨rfl,h1,qI⟩;obtain⟨hB,v,D5,c,f⟩:=h1;obtain⟨l,cap,rfl⟩:=zo c;have c0:zk w1 b 0 (zQ b 0):=GX;have c1:zk w1 b 1 (.slice l bs.length cap):=GX;have n:b<(w1:Nat):=by
  rcases ud b (w1:Nat)with m |m
  .exact m
  .simp[jA m]at D5
 go_wp2_with fail;refine(Tryz.utf8_AppendRune_plain B _ bs.length bs r q s _ c i Aq).mono ?_;rintro e w2 ⟨v',rfl,a,o,d⟩;have qX:w2.heap[b]? = some (.cells #[(b,0),.slice l bs.length cap] 113 (0,0)):=by
  rw[d.block b yF (λe=>f e.symm),xQ w1 _ b n];exact D5
 have d0:zk w2 b 0 (zQ b 0):=B4;have d1:zk w2 b 1 (.slice l bs.length cap):=B4;have f1:w2.frozen? (b,1)=false:=vF qX 1;have g:=zo a;obtain⟨a',t,rfl⟩:=g;have u:=Z c;have j:=Z a;have A:=Z f;clear c a f;go_wp2;go_ret2
 refine⟨⟨_,rfl⟩,.inr ?_,?_⟩
 .exact vz6 (T:=113) (e:=5) hB qX (bs':=bs++wY r) (by simpa using j.o) zW
 .exact((qI.alloc Aq _).grown d (by have:=qI.size;simp;omega) (λk y=>(u.o.lt k y).1)).setCell (p:=(b,1)) hB _
structure Hd(w:z8)(g:Nat)(mi po gr fi ne:Int)(ds:List Int):Prop where
 c2:zk w g 2 (.int .i32 mi)
 c3:zk w g 3 (.int .i32 po)
 c4:zk w g 4 (.int .i32 gr)
 c5:zk w g 5 fi
 c6:zk w g 6 ne
 len:ds.length=10
 c7:∀j (h:j<ds.length),zk w g (7+j) (.int .i32 ds[j])
def Ys(gr fi ne:Int)(left:Nat):Bool:=gr !=0 && decide (0<fi) && decide (fi<=(left:Int)) && (((left:Int) - fi) % ne==0)
def Ww(g:Nat)(mi po gr:Int)(fi ne:Nat)(ds:List Int)(left:Nat)(w:z8)(h:Hd w g mi po gr fi ne ds)(p:left<=1000000)(hf:fi<=255)(hn:0<fi->0<ne)(j:ne<=255) :
  zE prog 72 #[(g,0),left] w λe w'=>e = .returned (.bool (Ys gr fi ne left))/\∃n,w'=w.drewN n:=by
 have c4:=h.c4;have c5:=h.c5;have c6:=h.c6;clear h;by_cases h1:(gr !=0)=true
 .by_cases h2:(0:Int)<(fi:Int)
  .by_cases m:(fi:Int)<=(left:Int)
   .have b:0<fi:=(by omega);have c:fi<=left:=J;have a:Ys gr fi ne left=(((left:Int) - fi) % ne==0):=(by simp[Ys,h1,b,c]);have HF:=Z a;clear a;have k:0<ne:=hn J;have f:¬((ne:Int)=0):=J;have l:(0:Int)<=(left:Int) - (fi:Int):=J;exact MZ
   .have b:0<fi:=(by omega);have c:¬fi<=left:=J;have i:(left:Int)<(fi:Int):=J;have a:Ys gr fi ne left=false:=(by simp[Ys];omega);have HF:=Z a;clear a;exact MZ
  .have b:fi=0:=(by omega);subst b;clear h2;have a:Ys gr (0:Nat) ne left=false:=(by simp[Ys]);have HF:=Z a;clear a;exact MZ
 .have d:(gr !=0)=false:=by simpa using h1
  have a:Ys gr fi ne left=false:=by simp[Ys,d]
  have HF:=Z a;clear a h1;exact MZ
variable{gr mi po:Int}{B:Nat}{e:xM}
def yJ.KW{a:Option yI}{l:List Int}(h:yJ w a l)(hb:yE B w w')(e:∀q,a=some q->q.block<B):yJ w' a l:=λj d=>by
 obtain⟨b,c,hc⟩:=h j d;refine⟨b,c,?_⟩;rw[hb.cell (by rw[addr_add];exact e b c)];exact hc
def Hd.below{g:Nat}{fi ne:Int}{ds:List Int}(h:Hd w g mi po gr fi ne ds)(hb:yE B w w')(a:g<B):Hd w' g mi po gr fi ne ds where
 c2:=by rw[hb.cell (p:=(zQ g 2)) a];exact h.c2
 c3:=by rw[hb.cell (p:=(zQ g 3)) a];exact h.c3
 c4:=by rw[hb.cell (p:=(zQ g 4)) a];exact h.c4
 c5:=by rw[hb.cell (p:=(zQ g 5)) a];exact h.c5
 c6:=by rw[hb.cell (p:=(zQ g 6)) a];exact h.c6
 len:=h.len
 c7:=λj b=>by rw[hb.cell (p:=⟨g,7+j,none⟩) a];exact h.c7 j b
abbrev I32(r:Int):Prop:=-2147483648<=r/\r<=2147483647
def B3(ds l:List Int)(i:Nat):List UInt8:=yi (ds.getD (l.getD i 0).toNat 0)
def VC(gr:Int)(fi ne:Nat)(ds l:List Int)(k:Nat):List UInt8 :=
 (xH k).flatMap λi=>(if 0<i && Ys gr fi ne (l.length - i)then yi gr else [])++B3 ds l i
def fS(po:Int)(ds l:List Int)(k:Nat):List UInt8 :=
 (xH k).flatMap λi=>(if i==0 then yi po else [])++B3 ds l i
def Vm(neg:Bool)(l:List Int)(sc:Nat)(mi po gr:Int)(fi ne:Nat)(ds:List Int):List UInt8 :=
 (if neg then yi mi else [])++VC gr fi ne ds (l.take (l.length - sc)) (l.length - sc)++fS po ds (l.drop (l.length - sc)) sc
def Ij(gr:Int)(fi ne:Nat)(ds l:List Int)(k:Nat):VC gr fi ne ds l (k+1)=VC gr fi ne ds l k++((if 0<k && Ys gr fi ne (l.length - k)then yi gr else [])++B3 ds l k):=by
 simp[VC,List.range_succ]
def Bq(po:Int)(ds l:List Int)(k:Nat):fS po ds l (k+1)=fS po ds l k++((if k==0 then yi po else [])++B3 ds l k):=by
 simp[fS,List.range_succ]
def byteCells_append(a b:List UInt8):yq (a++b)=yq a++yq b:=by simp[yq]
def Vw(B b:Nat)(acc:List UInt8)(r:Int)(hr:I32 r)(w:z8)(h:xe 113 5 B b (yq acc) w)(c:acc.length<=1000000)(a:B<=(w:Nat)) :
  zE prog 70 #[(b,0),.int .i32 r] w λe w'=>(∃v,e = .returned v)/\xe 113 5 B b (yq (acc++yi r)) w'/\yE B w w':=by
 rw[byteCells_append,Lib.byteCells_encodeRune];exact Hf B b _ r hr.1 hr.2 w h (by simp[yq];omega) a
def Yp(r:Int):(yi r).length<=4:=by
 have:=(yfj r).2;rw[Lib.runeCells_length]at this;exact this
def Pf(gr:Int)(fi ne:Nat)(ds l:List Int):∀k,(VC gr fi ne ds l k).length<=8*k
 | 0=>by simp[VC]
 |k+1=>by
  rw[Ij];have:=Pf gr fi ne ds l k;have h1:=Yp gr;exact zvz
def Ig(po:Int)(ds l:List Int):∀k,(fS po ds l k).length<=8*k
 | 0=>by simp[fS]
 |k+1=>by
  rw[Bq];have:=Ig po ds l k;have h1:=Yp po;exact zvz
def IsBuilder.later{T:xM}{b:Nat}{bs:List zx}(h:xe T e B b bs w)(hb:zR w w'):xe T e B b bs w':=by
 have key:∀p,TC T e B b p bs w->TC T e B b p bs w':=λp h=>by
  have a:=h.lt;obtain⟨h1,v,h2,c,d⟩:=h;exact⟨h1,v,by rw[hb.block b a];exact h2,dn c hb,d⟩
 exact h.elim (λx => .inl (key _ x)) (λx => .inr (key _ x))
def Ri(w:z8)(B:Nat)(hB:B<=(w:Nat)):xe 113 5 B (w:Nat) (yq []) (w.alloc (.cells #[.pointer none,.slice none 0 0] 113)) :=
 .inl ⟨hB,.slice none 0 0,WK,xz _ _ _ _,AX⟩
def Ko{x:Int}(h:0<=x/\x<=9):∃m:Nat,x=(m:Int)/\m<10:=⟨x.toNat,J,J⟩
def Io(g gd od cap sc n:Nat)(b:Bool)(l:List Int)(mi po gr:Int)(fi ne:Nat)(ds:List Int)(w:z8)
  (hX:Hd w g mi po gr fi ne ds) (hg:g<(w:Nat)) (hB:yJ w (some ⟨gd,od,none⟩) l) (hgd:gd<(w:Nat)) (hl:l.length=n) (hs:sc<=n) (PZ:n<=cap) (hn:n<=10000)
  (hd:∀x∈l,0<=x/\x<=9) (d:I32 mi/\I32 po/\I32 gr/\∀x∈ds,I32 x) (hfi:fi<=255) (gN:0<fi->0<ne) (vk2:ne<=255) :
  zE prog 36 #[(g,0),.agg #[.bool b,.slice (gd,od) n cap,sc]] w λe w' =>
   e = .returned (zO (Vm b l sc mi po gr fi ne ds))/\zR w w':=by
 have c2:=hX.c2;have G:¬((w:Nat)=g):=J;go_enter func36,ntmps36;have c:∀W:z8,W=((w.alloc (.cells #[.bool b,.slice (gd,od) n cap,sc] 99)).alloc (.cells #[.pointer none,.slice none 0 0] 113)) ->
   zR w W/\(W:Nat)=(w:Nat)+2/\zk W (w:Nat) 0 (.bool b)/\zk W (w:Nat) 1 (.slice (gd,od) n cap)/\W.cell? (w,2)=some (.int .i64 sc) /\
   xe 113 5 ((w:Nat)+1) ((w:Nat)+1) (yq []) W:=by
  intro W F;subst F;refine⟨((zu _ _).alloc (Y _) _).alloc zV _,zV,uK,uK,by go_simp,?_⟩;have:=Ri (w.alloc (.cells #[.bool b,.slice (gd,od) n cap,sc] 99)) ((w:Nat)+1) zV;simpa using this
 have B:=d.1;have hpo:=d.2.1;have PY:=d.2.2.1;have hds:=d.2.2.2;obtain⟨Es,f⟩:∃a:List UInt8,a=if b then yi mi else []:=⟨_,rfl⟩;have HA:=Z f;have E:Es.length<=4:=by rw[f];split;exact Yp mi;simp
 clear f d;cases b
 .go_wp2_with fail;refine yw ?_;intro r z;obtain⟨qI,D,YU,VK,XY,iW⟩:=c r z;have ym1:xe 113 5 ((w:Nat)+1) ((w:Nat)+1) (yq Es) r:=by rw[HA.o];exact iW
  clear z c iW;have xf3:(w:Nat)+2<=(r:Nat):=J;clear D;obtain⟨bb,OM⟩:∃bb:Bool,bb=false:=⟨_,rfl⟩;exact zk1
 .go_wp2_with fail;refine yw ?_;intro W0 y;obtain⟨A,C,s,t,u,iW⟩:=c W0 y;clear y c;refine(Vw _ _ _ _ B _ iW zV J).mono ?_;rintro e r ⟨⟨v,rfl⟩,h,XO⟩;have ym1:xe 113 5 ((w:Nat)+1) ((w:Nat)+1) (yq Es) r:=by rw[HA.o];exact h
  have qI:zR w r:=A.trans (XO.mono J);have xf3:(w:Nat)+2<=(r:Nat):=by have:=XO.size;omega
  have YU:zk r (w:Nat) 0 (.bool true):=by rw[XO.cell zV];exact s
  have VK:zk r (w:Nat) 1 (.slice (zQ gd od) n cap):=by rw[XO.cell zV];exact t
  have XY:zk r (w:Nat) 2 sc:=by rw[XO.cell zV];exact u
  clear A C s t u iW h XO;go_wp2_with fail;obtain⟨bb,OM⟩:∃bb:Bool,bb=true:=⟨_,rfl⟩;exact zk1
def mM(lo hi:Nat)(A B:z8):Prop:=(A:Nat)<=(B:Nat)/\∀j,j<lo\/(hi<=j/\j<(A:Nat))->B.heap[j]? = A.heap[j]?
def ql(w:z8)(c:zx)(r:Bool)(Q:z8->zx->Prop):Prop :=
 ∀W,zR w W->zE prog 37 #[c] W λe W'=>(∃a n k,e = .returned (.tuple #[.slice a n k,.bool r])/\∀W2,mM (w:Nat) W.heap.size W' W2->Q W2 (.slice a n k))/\zR W W'
abbrev Hb(c o:zx)(mi po gr fi ne:Int)(dg:ByteArray):zx :=
 .agg #[c,o,.int .i32 mi,.int .i32 po,.int .i32 gr,.int .u8 fi,.int .u8 ne,.string dg]
variable{o:zx}
structure Cf(w:z8)(b:Nat)(c o:zx)(mi po gr fi ne:Int)(dg:ByteArray):Prop where
 c0:zk w b 0 c
 c1:zk w b 1 o
 c2:zk w b 2 (.int .i32 mi)
 c3:zk w b 3 (.int .i32 po)
 c4:zk w b 4 (.int .i32 gr)
 c5:zk w b 5 (.int .u8 fi)
 c6:zk w b 6 (.int .u8 ne)
 c7:zk w b 7 (.string dg)
def Cf.below{b:Nat}{c:zx}{fi ne:Int}{dg:ByteArray}(h:Cf w b c o mi po gr fi ne dg)(hb:yE B w w')(a:b<B):Cf w' b c o mi po gr fi ne dg :=
 ⟨(hb.cell (p:=(b,0)) a).trans h.c0,(hb.cell (p:=(b,1)) a).trans h.c1,(hb.cell (p:=(b,2)) a).trans h.c2,(hb.cell (p:=(b,3)) a).trans h.c3,
  (hb.cell (p:=(b,4)) a).trans h.c4,(hb.cell (p:=(b,5)) a).trans h.c5,(hb.cell (p:=(b,6)) a).trans h.c6,(hb.cell (p:=(b,7)) a).trans h.c7⟩
def Cf.drew{b:Nat}{c:zx}{fi ne:Int}{dg:ByteArray}(h:Cf w b c o mi po gr fi ne dg):Cf w.drew b c o mi po gr fi ne dg :=
 ⟨h.c0,h.c1,h.c2,h.c3,h.c4,h.c5,h.c6,h.c7⟩
def toList_eq(s:ByteArray):s.toList=s.data.toList:=by
 exact Di s
def xl(ra rb:Bool)(mi po gr fi ne:Int)(dg:List UInt8):Bool :=
 ra && (rb && (dM mi && (dM po && (dM gr && (!(mi==0) && (!(po==0) && (decide (((qQ dg).2:Int)=(dg.length:Int)) && ((decide (¬0<dg.length) || !(((qQ dg).1.length:Int) !=10)) && (decide (fi<=9) && decide (ne<=9))))))))))
variable{ra rb:Bool}{nx:Int}{rs:List Int}{dg:List UInt8}{fi hi j pos:Nat}{cv ov:zx}{W W':z8}
def vc9:List UInt8:=[48,49,50,51,52,53,54,55,56,57]
def Jy(dg:List UInt8):List UInt8:=if dg=[]then vc9 else dg
def Rl(ra rb:Bool)(mi po gr:Int)(fi ne:Nat)(dg:List UInt8)(Qc Qo:z8->zx->Prop)(w:z8)(e:xX)(w':z8):Prop :=
 zR w w' /\
 if xl ra rb mi po gr fi ne dg then ∃(g:Nat) (cv ov:zx),e = .returned (g,0)/\(w:Nat)<=g/\g<(w':Nat) /\
   Hd w' g mi po gr fi ((if ne=0 then fi else ne:Nat):Int) (xk (Jy dg))/\zk w' g 0 cv/\w'.cell? (g,1)=some ov /\
   (∀W,zR w' W->Qc W cv)/\(∀W,zR w' W->Qo W ov)
 else e = .returned (.pointer none)
def Vx(b:Nat)(A B:z8):Prop:=(A:Nat)<=(B:Nat)/\∀j,j≠b->j≠b+1->j<(A:Nat)->B.heap[j]? = A.heap[j]?
def Vx.refl(b:Nat)(A:z8):Vx b A A:=⟨Y _,λ_ _ _ _=>rfl⟩
def Vx.trans{b:Nat}{A B C:z8}(h:Vx b A B)(k:Vx b B C):Vx b A C :=
 ⟨zg h.1 k.1,λj h1 h2 a=>(k.2 j h1 h2 (zC a h.1)).trans (h.2 j h1 h2 a)⟩
def Vx.below{b:Nat}{A B:z8}(h:zR A B):Vx b A B:=⟨h.size,λj _ _ a=>h.block j a⟩
def Vx.set{b:Nat}{A B:z8}(h:Vx b A B)(p:yI)(v:zx)(hp:p.block=b\/p.block=b+1):Vx b A (B.setCell p v) :=
 h.trans ⟨zV,λj h1 h2 _=>yX _ _ _ _ J⟩
def Vx.agree{b:Nat}{A B C:z8}(h:Vx b A B)(c:b+2<=hi)(hb:b+2<=(A:Nat))(k:zR B C):mM b hi A C :=
 ⟨zg h.1 k.size,λj d=>by
  have a:j<(A:Nat):=J;rw[k.block j (zC a h.1)];exact h.2 j J J a⟩
def re(h:Array Obj)(a b:Obj):((h.push a).push b)[h.size+1]? = some b:=by
 have e:h.size+1=(h.push a).size:=zV;rw[e];exact Array.getElem?_push_size
def Kd(r:Int):Lib.validRune r=dM r:=by
 unfold Lib.validRune dM;rw[decide_eq_decide];omega
def zix{ne:Nat}(h:¬(ra=true/\rb=true/\max (fi:Int) (ne:Int)<=9/\¬mi=0/\¬po=0)):xl ra rb mi po gr fi ne dg=false:=by
 rw[<-bE];intro a;simp only[xl,zv,vA,beq_eq_false_iff_ne,decide_eq_true_eq]at a;exact h ⟨a.1,a.2.1,J,a.2.2.2.2.2.1,a.2.2.2.2.2.2.1⟩
def F7{ne:Nat}(h:dM mi=false\/dM po=false\/dM gr=false):xl ra rb mi po gr fi ne dg=false:=by
 rw[<-bE];intro a;simp only[xl,zv]at a;rcases h with h|h|h
 .rw[a.2.2.1]at h;cases h
 .rw[a.2.2.2.1]at h;cases h
 .rw[a.2.2.2.2.1]at h;cases h
def Dr(h:Yv 3 4 w)(hb:zR w W):Yv 3 4 W:=ydv
def ot{ne:Nat}(h:Lib.validD dg=false):xl ra rb mi po gr fi ne dg=false:=by
 rw[<-bE];intro a;simp only[xl,zv,decide_eq_true_eq]at a;have h1:(qQ dg).2=dg.length:=by have:=a.2.2.2.2.2.2.2.1;omega
 rw[(Gj dg).2 h1]at h;cases h
def P8{o:Obj}{a:yI}(h:a.block<(w:Nat)):(w.alloc o).cell? a=w.cell? a:=zc w o a h
def om:(qQ (⟨#[48,49,50,51,52,53,54,55,56,57]⟩:ByteArray).data.toList).1.length=10:=by
 have h:=(Yc ⟨#[48,49,50,51,52,53,54,55,56,57]⟩ 10 0 zW zW (by rw[qW,(Gj _).1 zW];decide)).1;rw[qW]at h;rw[<-h];decide
def oh{ne:Nat}(hd:¬dg=[])(h:¬(qQ dg).1.length=10):xl ra rb mi po gr fi ne dg=false:=by
 rw[<-bE];intro a;simp only[xl,zv,vW,decide_eq_true_eq]at a;rcases a.2.2.2.2.2.2.2.2.1 with h1|h1
 .exact h1 (zt.2 hd)
 .refine h ?_;simp at h1;omega
def Ds(B:Nat)(w:z8)(s:ByteArray)(pos:Nat):B<=(w:Nat)->yE B w (w.iter s pos):=λhB=>(zu _ _).alloc hB _
def heap_set{b:Nat}{cs:Array zx}{T:xM}{fr:Nat×Nat}(h:w.heap[b]? = some (.cells cs T fr))(v:zx):(w.setCell (b,j) v).heap[b]? = some (.cells (cs.setIfInBounds j v) T fr):=by
 simp[xu,xc,h]
structure RW(b:Nat)(c o cv ov:zx)(mi po gr fi ne nx:Int)(dg:ByteArray)(W:z8):Prop where
 hA:W.heap[b]? = some (.cells #[c,o,.int .i32 mi,.int .i32 po,.int .i32 gr,.int .u8 fi,.int .u8 ne,.string dg] 26 (0,0))
 hB:W.heap[b+1]? = some (.cells #[cv,ov,.int .i32 mi,.int .i32 po,.int .i32 gr,fi,nx,.int .i32 0,.int .i32 0,.int .i32 0,.int .i32 0,.int .i32 0,.int .i32 0,.int .i32 0,.int .i32 0,.int .i32 0,.int .i32 0] 132 (0,0))
def RW.below{b:Nat}{c:zx}{fi ne:Int}{dg:ByteArray}(h:RW b c o cv ov mi po gr fi ne nx dg W)(hb:yE B W W')(a:b+1<B):RW b c o cv ov mi po gr fi ne nx dg W' :=
 ⟨by rw[hb.block b J];exact h.hA,by rw[hb.block (b+1) a];exact h.hB⟩
def RW.a{b:Nat}{c:zx}{fi ne:Int}{dg:ByteArray}(h:RW b c o cv ov mi po gr fi ne nx dg W) :
  W.cell? (b,0)=some c/\zk W b 1 o/\zk W b 2 (.int .i32 mi)/\zk W b 3 (.int .i32 po)/\W.cell? (b,4)=some (.int .i32 gr) /\
  W.cell? (b,5)=some (.int .u8 fi)/\zk W b 6 (.int .u8 ne)/\zk W b 7 (.string dg)/\W.frozen? (b,7)=false :=
 ⟨yx h.hA 0,yx h.hA 1,yx h.hA 2,yx h.hA 3,yx h.hA 4,yx h.hA 5,yx h.hA 6,yx h.hA 7,vF h.hA 7⟩
def RW.b{b:Nat}{c:zx}{fi ne:Int}{dg:ByteArray}(h:RW b c o cv ov mi po gr fi ne nx dg W) :
  W.cell? (b+1,0)=some cv/\zk W (b+1) 1 ov/\zk W (b+1) 5 fi/\W.cell? (b+1,6)=some (.int .i64 nx) /\
  W.frozen? (b+1,0)=false/\W.frozen? (b+1,1)=false/\W.frozen? (b+1,6)=false :=
 ⟨yx h.hB 0,yx h.hB 1,yx h.hB 5,yx h.hB 6,vF h.hB 0,vF h.hB 1,vF h.hB 6⟩
def RW.VE{b:Nat}{c:zx}{fi ne:Int}{dg:ByteArray}(h:RW b c o cv ov mi po gr fi ne nx dg W)(v:zx):RW b c o v ov mi po gr fi ne nx dg (W.setCell (b+1,0) v) :=
 ⟨Ay,AB⟩
def RW.Mw{b:Nat}{c:zx}{fi ne:Int}{dg:ByteArray}(h:RW b c o cv ov mi po gr fi ne nx dg W)(v:zx):RW b c o cv v mi po gr fi ne nx dg (W.setCell (b+1,1) v) :=
 ⟨Ay,AB⟩
def RW.xl9{b:Nat}{c:zx}{fi ne:Int}{dg:ByteArray}(h:RW b c o cv ov mi po gr fi ne nx dg W)(v:Int):RW b c o cv ov mi po gr fi ne v dg (W.setCell (b+1,6) v) :=
 ⟨Ay,AB⟩
def RW.xlz{b:Nat}{c:zx}{fi ne:Int}{dg:ByteArray}(h:RW b c o cv ov mi po gr fi ne nx dg W)(d:ByteArray):RW b c o cv ov mi po gr fi ne nx d (W.setCell (b,7) (.string d)) :=
 ⟨by rw[heap_set h.hA];rfl,by rw[yX _ _ _ _ zV];exact h.hB⟩
def ri(V:z8)(cs:List zx)(r:Array zx)(T:xM)(j:Nat)(v:zx)(h:cs[j]? = some v) :
  (V.alloc (.cells (cs.toArray++r) T)).drew.drew.cell? ((⟨(V:Nat),0,none⟩:yI).add j)=some v:=by
 have h1:(V.alloc (.cells (cs.toArray++r) T)).drew.drew.heap[(V:Nat)]? = some (.cells (cs.toArray++r) T):=by
  show(V.heap.push _)[(V:Nat)]? = _;simp
 have uh:j<cs.length:=by
  rcases ud j cs.length with a|a
  .exact a
  .rw[uG a]at h;cases h
 rw[ve,yx h1 j,Array.getElem?_append_left Qt];simpa using h
def Ip{V:z8}{g:Nat}{cs:Array zx}{T:xM}(h:V.heap[g]? = some (.cells cs T (0,0)))(hs:cs.size=17)(n:Nat)(hn:n=10) :
  (∀j,j<n->(V.cell? ⟨g,7+j,none⟩).isSome=true)/\∀j,j<n->V.frozen? ⟨g,7+j,none⟩=false:=by
 subst hn;refine⟨λj a=>?_,λj a=>vF h _⟩;rw[yx h (7+j)];have:7+j<cs.size:=J;simp[this]
def Vx.setCells{b:Nat}{A:z8}:∀(vs:List zx) (B:z8) (o:Nat),Vx b A B->Vx b A (B.setCells (b+1) o vs)
 |[],_,_,h=>h
 |v::vs,B,o,h=>by
  unfold yfg;exact Vx.setCells vs _ _ (h.set _ _ (.inr rfl))
def UL{b:Nat}{A:z8}:∀(vs:List zx) (B:z8) (o:Nat),yE b A B->yE b A (B.setCells (b+1) o vs)
 |[],_,_,h=>h
 |v::vs,B,o,h=>by
  unfold yfg;exact UL vs _ _ (h.setCell (dJ b) _)
def yy2{ne:Nat}{D:List UInt8}(a:D=Jy dg)(f:max (fi:Int) (ne:Int)<=9)(b:¬mi=0)(c:¬po=0)(p1:dM mi=true)(p2:dM po=true)(d:dM gr=true)
  (hp:(qQ D).2=D.length) (hc:(qQ D).1.length=10):xl true true mi po gr fi ne dg=true:=by
 unfold Jy at a;by_cases h:dg=[]
 .subst h;have e:(qQ []).2=0:=by rw[kR]
  simp[xl,p1,p2,d,b,c,e];omega
 .rw[yv h]at a;subst a;simp[xl,p1,p2,d,b,c,hp,hc];omega
def zyz{g i a:z8}{D:ByteArray}{d:Obj}{c z:zx}{ne nx e f:Nat}{p q:z8->zx->Prop}
  (h:RW (w:Nat) c z cv ov mi po gr fi ne (nx:Int) D a) (hb:zR w a) (G:(w:Nat)+2<=(a:Nat)) (s:rs.length=10) (n:nx=if ne=0 then fi else ne)
  (QD:rs=xk D.data.toList) (r:D.data.toList=Jy dg) (x:xl true true mi po gr fi ne dg=true)
  (C:Vx (w:Nat) g a) (E:Vx (w:Nat) i a) (h1:(w:Nat)+2<=e) (t:(w:Nat)+2<=f) (z1:(w:Nat)+2<=(g:Nat)) (F:(w:Nat)+2<=(i:Nat))
  (q1:∀W,mM (w:Nat) e g W->p W cv) (B:∀W,mM (w:Nat) f i W->q W ov) :
  Rl true true mi po gr fi ne dg p q w (.returned ((w:Nat)+1,0)) (((a.iter D pos).alloc d).drew.drew.setCells ((w:Nat)+1) 7 (rs.map (yZ .i32))):=by
 have u:((a.iter D pos).alloc d).drew.drew.heap[(w:Nat)+1]? = a.heap[(w:Nat)+1]? := by
  show((a.alloc _).alloc _).heap[(w:Nat)+1]? = _;rw[xQ _ _ _ yF,xQ _ _ _ J]
 have b:=u.trans h.hB;have o:∀{A:z8},Vx (w:Nat) A a->Vx (w:Nat) A (((a.iter D pos).alloc d).drew.drew.setCells ((w:Nat)+1) 7 (rs.map (yZ .i32))):=by
  intro A hA;refine Vx.setCells _ _ _ (hA.trans ⟨?_,λj _ _ hj=>?_⟩)
  .show (a:Nat)<=((a.alloc _).alloc _).heap.size;simp;omega
  .show((a.alloc _).alloc _).heap[j]? = _;rw[xQ _ _ _ yF,xQ _ _ _ hj]
 have l:yE w w (((a.iter D pos).alloc d).drew.drew.setCells ((w:Nat)+1) 7 (rs.map (yZ .i32))):=by
  refine UL _ _ _ ?_;have h1:yE w w ((a.iter D pos).alloc d):=(hb.trans (Ds _ _ _ _ J)).alloc (by show _<=(a.alloc _).heap.size;simp;omega) _;exact⟨h1.os,h1.tape,h1.output,h1.size,h1.block⟩
 have y:=(o (Vx.refl _ a)).1;generalize v:((a.iter D pos).alloc d).drew.drew=V at *;have out:∀j,j<7->(V.setCells ((w:Nat)+1) 7 (rs.map (yZ .i32))).cell? ⟨(w:Nat)+1,j,none⟩=V.cell? ⟨(w:Nat)+1,j,none⟩:=λj hj=>World.cell?_setCells_out _ _ _ _ _ (λ_ _ => .inl hj)
 refine⟨l,?_⟩;rw[yK x];refine⟨(w:Nat)+1,cv,ov,rfl,dJ _,J,⟨?_,?_,?_,?_,?_,?_,?_⟩,?_,?_,λW k=>q1 W ((o C).agree h1 z1 k),λW k=>B W ((o E).agree t F k)⟩
 .rw[out 2 zW];exact yx b 2
 .rw[out 3 zW];exact yx b 3
 .rw[out 4 zW];exact yx b 4
 .rw[out 5 zW];exact yx b 5
 .rw[out 6 zW,<-n];exact yx b 6
 .rw[<-r,<-QD];exact s
 .rw[<-r,<-QD];intro j hj;have m:=World.cell?_setCells_in ((w:Nat)+1) (rs.map (yZ .i32)) 7 V (by rw[vU];exact(Ip b rfl _ s).1) j My;rw[m,List.getElem_map]
 .rw[out 0 zW];exact yx b 0
 .rw[out 1 zW];exact yx b 1
def zy9(V:z8)(rs:List Int)(r:Array zx)(cap b:Nat){cs:Array zx}{T:xM}(d:rs.length=10)
  (c:(V.alloc (.cells ((rs.map (yZ .i32)).toArray++r) 21)).drew.drew.heap[b]? = some (.cells cs T (0,0))) (hs:cs.size=17) :
  (Builtin.copy_ #[137,137] 3 #[.slice (b,7) 10 10,.slice (V,0) 10 cap]).run prog (V.alloc (.cells ((rs.map (yZ .i32)).toArray++r) 21)).drew.drew =
   .ok (goInt (rs.map (yZ .i32)).length) ((V.alloc (.cells ((rs.map (yZ .i32)).toArray++r) 21)).drew.drew.setCells b 7 (rs.map (yZ .i32))):=by
 have hd:=Ip c hs (rs.map (yZ .i32)).length (by simp[d]);have a:=ri V (rs.map (yZ .i32)) r 21;generalize (V.alloc (.cells ((rs.map (yZ .i32)).toArray++r) 21)).drew.drew=W at *;exact run_copy_cells W 137 137 3 21 b 7 10 10 ⟨(V:Nat),0,none⟩ 10 cap (rs.map (yZ .i32)) underlying137 yg (by simp[d]) a hd.1 hd.2 (by intro v hv;simp at hv;obtain⟨x,_,rfl⟩:=hv;rfl)
end Go.Proofs.YtpggmjffejgakaaGreatDoor
