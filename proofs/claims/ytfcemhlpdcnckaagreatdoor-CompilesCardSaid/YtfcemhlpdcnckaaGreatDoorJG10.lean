import Derived.Test.YtfcemhlpdcnckaaGreatDoorJG9
import Derived.Deep.CutBlock
import Derived.Recover
set_option linter.defProp false
set_option maxHeartbeats 64000000
open Go.Act renaming put->ZP
open Go.RowKit renaming Below->yX
open Go.RowKit.Below renaming heap_setCell->zh,refl->z8
open Bool renaming and_eq_true->zQ,not_eq_true'->ypz,or_eq_true->gj,or_true->PW
open Go renaming Calls->zE,Ending->gG,TypeId->uP,Value->zx,World->z7,bodyPost_ret->zU,results->yk,wpAnyH_done->V8
open Classical renaming byContradiction->zi,not_not->Mp
open Go.Lib renaming decodeN->kM,hid->Z
open List renaming all_eq_true->Yl,any_eq_true->Mn,any_map->yf1,append_assoc->vv,append_eq_nil_iff->ir,append_nil->vu,cons_append->yw,dropLast_concat->ag,drop_drop->Vt,drop_eq_getElem_cons->yH,drop_left->Ht,drop_of_length_le->yq,eq_nil_of_length_eq_zero->zF,find?_append->jM,flatMap_append->xh,flatMap_cons->zn,flatMap_nil->Xn,foldl_append->kS,foldl_cons->QA,getD_eq_getElem?_getD->zM,getElem?_append_right->zc,getElem?_drop->MM,getElem?_eq_getElem->zw,getElem?_eq_none->Xe,getElem_mem->xd,getElem_take->ypu,getLast?_concat->Uo,head?_cons->ZR,head?_drop->Z2,head?_nil->Hh,idxOf_lt_length_iff->UJ,length->qj,length_append->zI,length_cons->zm,length_drop->xz,length_nil->ur,length_pos_iff->xI,length_singleton->xH,length_take->xr,map_cons->ve,map_nil->YW,mem_append->xY,mem_cons->yp,mem_cons_of_mem->yo,mem_cons_self->xB,mem_map->yk5,mem_of_mem_drop->ZD,mem_singleton->uG,mem_take_iff_getElem->XO,nil_append->kr,not_mem_nil->qW,setIfInBounds_toArray->yb,set_cons_succ->xq,set_cons_zero->xu,takeWhile_cons_of_neg->kR,takeWhile_cons_of_pos->Un,take_add->Kn,take_append->zk6,take_left->Hw,take_length->kp,take_of_length_le->xJ,take_succ_cons->qO,take_succ_eq_append_getElem->zr
open List.cons renaming inj->lO
open Nat renaming add_assoc->jo,add_right_comm->zuy,add_sub_cancel_left->dD,add_zero->fD,le_add_right->WD,le_of_lt->xx,le_refl->X,le_trans->zZ,lt_irrefl->yO,lt_succ_self->xf,mod_eq_of_lt->uC,not_lt_zero->uf,sub_self->ZO,zero_add->V9,zero_le->zG
open Option.some renaming injEq->vw
open UInt8 renaming ofNat->yW,toNat->UI,toNat_ofNat'->vO
open Go.Utf8 renaming encode->F9
open Go.Value renaming int->yF
open Go.World renaming block_lt_of_cell?->Y,cell?_of_block->yZ,frozen?_of_block->zb,setCell->xW
open Go.Proofs.Tryz
namespace Go.Proofs.YtfcemhlpdcnckaaGreatDoor
open Go Go.RowKit
set_option maxRecDepth 10000
variable{k:Nat}{v:zx}{w w':z7}
def xez:Mk:=⟨0,[],[],[],[],0⟩
def YA(l:List Mk)(i:Nat):Mk:=l.getD i xez
def yq4:Wd:=[111,116,104,101,114]
def ZN(st:Nat×Nat)(e a:Nat):Nat×Nat:=if st.1=0\/a<st.2 then (e,a)else st
def KA(m x:Mk):Bool:=decide (uQ x≠0) && decide (x.name=m.name)
def YP(l:List Mk)(i:Nat)(m:Mk)(st:Nat×Nat):Nat×Nat :=
 if uQ m=0 then st else match (l.take i).find? (KA m) with|none=>st|some x=>if uQ x≠uQ m then ZN st 5 m.pl else st
def Zo(l:List Mk)(x b:Nat):Bool:=decide ((YA l b).text=(YA l x).text)
def twA(l:List Mk)(bs:List Nat)(a:Nat)(st:Nat×Nat):Nat×Nat:=if (bs.take a).any (Zo l (bs.getD a 0))=true then ZN st 7 (YA l (bs.getD a 0)).pl else st
def Cp(l:List Mk)(bs:List Nat):Nat->Nat×Nat->Nat×Nat
 | 0,st=>st
 |a+1,st=>twA l bs a (Cp l bs a st)
def YR(l:List Mk)(b:Nat):Bool:=decide ((YA l b).text=yq4)
def Gp(l:List Mk)(i:Nat)(st:Nat×Nat):Nat×Nat :=
 let m:=YA l i
 if m.kind≠40 then YP l i m st
 else if (uD l i).any (YR l)=true then Cp l (uD l i) (uD l i).length (YP l i m st)
 else ZN (Cp l (uD l i) (uD l i).length (YP l i m st)) 6 (YA l (Yj l i)).pl
def uK(l:List Mk):Nat->Nat×Nat
 | 0=>(0,0)
 |i+1=>Gp l i (uK l i)
def gX(l:List Mk):Nat×Nat:=uK l l.length
def MV{l:List Mk}{i:Nat}(h:i<l.length):YA l i=l[i]:=by unfold YA;simp[h]
def QL(st:Nat×Nat)(a:Nat):ZN (ZN st 7 a) 7 a=ZN st 7 a:=by
 unfold ZN;split
 .simp
 .rfl
def Ap(l:List Mk)(e:Nat):∀(n i:Nat),∀b∈KW l e n i,b<e
 | 0,i,b,h=>xp
 |n+1,i,b,h=>by
  rw[KW]at h;split at h
  .rcases yp.1 h with rfl|h
   .assumption
   .exact Ap l e n _ b h
  .cases h
def MU{l:List Mk}{b:Nat}(a:k<=l.length)(h:b∈uD l k):b<l.length:=by
 have:=Ap l _ _ _ b h;have:=MZ l k a;omega
def Px(l:List Mk)(e:Nat):∀(n i:Nat),(KW l e n i).length<=n
 | 0,i=>X _
 |n+1,i=>by
  rw[KW];split
  .have:=Px l e n (Yj l i+1);simp;omega
  .exact zG _
def Hq(w:z7)(g:Nat)(l:List Mk):Prop:=∀j o (h:j<l.length),o<6->w.cell? ⟨g,j*6+o,none⟩=(xl l[j])[o]?
def Hq.at_{g:Nat}{l:List Mk}(h:Hq w g l)(j:Nat)(a:j<l.length):zy w g (j*6) (.int .u8 ((YA l j).kind:Nat))/\zy w g (j*6+1) (zv (YA l j).text)/\w.cell? (g,j*6+2)=some (zv (YA l j).name) /\
  w.cell? (g,j*6+3)=some (zv (YA l j).how)/\zy w g (j*6+4) (zv (YA l j).off)/\zy w g (j*6+5) ((YA l j).pl:Nat):=by
 rw[MV a];exact⟨h j 0 a J,h j 1 a J,h j 2 a J,h j 3 a J,h j 4 a J,h j 5 a J⟩
def Hq.below{g:Nat}{l:List Mk}(h:Hq w g l)(hb:zJ w w'):Hq w' g l:=by
 intro j o b d;have c:=h j 0 b J;have a:g<(w:Nat):=Y w _ c;exact(hb.cell (p:=(g,j*6+o)) a).trans (h j o b d)
def ql.row{l:List Mk}(h:ql w v l)(a:0<l.length):∃g cap,v = .slice (some ⟨g,0,none⟩) l.length cap/\Hq w g l:=h.ne a
def Hk{l:List Mk}{p:Mk->Bool}(a:k<l.length)(h:(l.take k).find? p=none)(hp:p l[k]=false):(l.take (k+1)).find? p=none:=by
 rw[zr a,jM,h];simp[hp]
def zv5{l:List Mk}{p:Mk->Bool}{i:Nat}(a:k<l.length)(hi:k<i)(h:(l.take k).find? p=none)(hp:p l[k]=true):(l.take i).find? p=some l[k]:=by
 have e:l.take i=l.take k++l[k]::(l.drop (k+1)).take (i - (k+1)):=by
  rw[show i=k+(i - k)by omega,Kn,drop_mk a,show i - k=(i - (k+1))+1 by omega,qO];congr 3;omega
 rw[e,jM,h];simp[hp]
def Ti(v:zx)(l:List Mk)(w:z7)(h:ql w v l)(hl:l.length<=1000000)(Ar:∀m∈l,m.kind<256)(SS:∀i (h:i<l.length),l[i].kind=40->Yj l i<l.length) :
  zE prog 19 #[v] w λe w'=>e = .returned (.tuple #[.int .i64 ((gX l).1:Nat),.int .i64 ((gX l).2:Nat)])/\yX w.heap.size w w':=by
 obtain⟨sa,sc,hv⟩:=h.sl;have HH:=Z h;have Nv:=Z SS;have HBR:=Z (λk (hk:k<l.length) W (h:ql W v l)=>MX v l k W h hk hl Ar);have HEN:=Z (λk (hk:k<=l.length) W (h:ql W v l)=>MY v l k W h hk hl Ar);have HKD:=Z Ar;obtain⟨n,hn⟩:=zo l.length;rw[hn]at hl hv;have HN:=Z hn;have HR:=Z (λ(h:0<l.length)=>HH.out.row h);subst hv;clear h Ar SS hn;go_enter func19,ntmps19;go_wp2_with fail;go_loopw [4,5,6] (λev av iv wr=>∃i e a:Nat,iv = .int .i64 (i:Nat)/\ev = .int .i64 (e:Nat)/\av = .int .i64 (a:Nat)/\i<=n/\uK l i=(e,a)/\yX w.heap.size w wr) (λ_ _ iv _=>n - (intOf iv).toNat)
 case atStart=>exact⟨0,0,0,rfl,rfl,rfl,zG _,rfl,z8 _ _⟩
 case round =>
  obtain⟨i,e,a,rfl,rfl,rfl,hi,Zz,Cm⟩:=hrel;have bd:=Z Zz;have HBL:=Z Cm;clear Zz Cm;by_cases ud:i<n
  .have va3:(i:Int)<(n:Int):=by omega
   have hil:i<l.length:=by rw[HN.out];exact ud
   obtain⟨g,zgj,hg1,Y4⟩:=HR.out (by omega);obtain rfl:sa=some ⟨g,0,none⟩:=by cases hg1;rfl
   clear hg1;have gi:=Z Y4;have Td:=Z (Y4.below HBL.out);obtain⟨m,hm⟩:=zo (YA l i);obtain⟨c0,c1,c2,c3,c4,c5⟩:=Td.out.at_ i hil;rw[hm]at c0 c1 c2 c3 c4 c5;have HM:=Z hm;obtain⟨pl,lu⟩:∃n,m.pl=n:=⟨_,rfl⟩;have HPL:=Z lu;clear hm Y4 lu;go_wp2_with fail;refine(Hu m wr).mono ?_;rintro e1 w1 ⟨rfl,qV⟩;obtain⟨so,hso⟩:∃s,uQ m=s:=⟨_,rfl⟩;rw[hso];have HSO:=Z hso;have lZ:=Z (HBL.out.trans (qV.mono HBL.out.size));clear qV hso c0 c1 c2 c3 c4 c5;obtain⟨⟨e1,a1⟩,hka⟩:∃st,YP l i m (e,a)=st:=⟨_,rfl⟩;have HKA:=Z hka;clear hka;go_upto_block 2 with fail
   go_cut [4,5] (λev av wc=>ev = .int .i64 (e1:Nat)/\av = .int .i64 (a1:Nat)/\yX w.heap.size w wc)
   case first =>
    go_wp2_with fail;go_loopw [4,5,8] (λev av kv wr=>∃k:Nat,ev = .int .i64 (e:Nat)/\av = .int .i64 (a:Nat)/\kv = .int .i64 (k:Nat)/\k<=i/\(so≠0->(l.take k).find? (KA m)=none)/\yX w.heap.size w wr) (λ_ _ kv _=>i - (intOf kv).toNat)
    case atStart=>exact⟨0,rfl,rfl,rfl,zG _,λ_=>rfl,lZ.out⟩
    case round =>
     obtain⟨k,rfl,rfl,rfl,hk,hnf,IM⟩:=hrel;have HNF:=Z hnf;have Sr:=Z IM;clear hnf IM;by_cases Pv:so=0
     .have HF:=Lib.hid (show YP l i m (e,a)=(e,a)by unfold YP;rw[HSO.out,if_pos Pv]);have js:((so:Int)==0)=true:=by simp[Pv]
      have js2:((so:Int) !=0)=false:=by rw[bne,js];rfl
      have he1:e1=e:=by have:=HKA.out.symm.trans HF.out;cases this;rfl
      have ha1:a1=a:=by have:=HKA.out.symm.trans HF.out;cases this;rfl
      subst he1 ha1;clear Pv;by_cases hki:k<i
      .have yq5:(k:Int)<(i:Int):=by omega
       go_wp2_with fail;go_meet
       case rel=>exact⟨rfl,rfl,Sr.out⟩
      .have yq5:¬(k:Int)<(i:Int):=by omega
       go_wp2_with fail;go_meet
       case rel=>exact⟨rfl,rfl,Sr.out⟩
     .have js:((so:Int)==0)=false:=by simp;omega
      have js2:((so:Int) !=0)=true:=by rw[bne,js];rfl
      by_cases hki:k<i
      .have yq5:(k:Int)<(i:Int):=by omega
       have wB:k<l.length:=by omega
       have Qn:k<n:=by omega
       have va5:(k:Int)<(n:Int):=by omega
       have HRK:=Z (gi.out.below Sr.out);obtain⟨x,hx⟩:=zo (YA l k);obtain⟨c0,c1,c2,c3,c4,c5⟩:=HRK.out.at_ k wB;rw[hx]at c0 c1 c2 c3 c4 c5;have HX:=Z (show l[k]=x by rw[<-MV wB];exact hx);have HS0:=Z Pv;clear hx Pv;go_wp2_with fail;refine(Hu x wr).mono ?_;rintro e2 w2 ⟨rfl,qX⟩;obtain⟨z,hz⟩:∃s,uQ x=s:=⟨_,rfl⟩;rw[hz];have HZ:=Z hz;have qX:=Sr.out.trans (qX.mono Sr.out.size);have CQ:=Z qX;have MT:=gi.out.below qX;clear hz qX c0 c1 c2 c3 c4 c5;obtain⟨-,-,d2,-,-,-⟩:=MT.at_ k wB;obtain⟨-,-,f2,-,-,f5⟩:=MT.at_ i hil;rw[HM.out]at f2 f5;rw[HPL.out]at f5;rw[MV wB,HX.out]at d2;have HD2:=Z d2;have ZT:=Z f2;have HF5:=Z f5;clear MT;have jq:w2.drew.cell? ⟨g,k*6+2,none⟩=some (zv x.name)/\w2.drew.cell? ⟨g,i*6+2,none⟩=some (zv m.name):=⟨d2,f2⟩;by_cases Wr:z=0
       .have jz:((z:Int)==0)=true:=by simp[Wr]
        have HL:=Z (show KA m l[k]=false by rw[HX.out];unfold KA;rw[HZ.out,Wr];rfl);clear Wr d2 f2 f5;go_wp2_with fail;refine xb (λW':z7=>W'.cell? ⟨g,k*6+2,none⟩=some (zv x.name)/\W'.cell? ⟨g,i*6+2,none⟩=some (zv m.name)) [0,1,2,3,4,5,6,7,8,9,10,11,12,13,14] 0 (by intro _ _ d _ _ h;cases d<;>exact h) (by kernel_rfl) (by kernel_rfl) jq ?_;(iterate 15 (first|(refine jN (v:=?_) rfl (by rfl) ?_ ?_;rotate_left;(focus((intro w' Pa;(try dsimp only at Pa);go_simp;try(with_reducible rfl));done));(try simp only[ZP,yb,xu,xq]))|(refine dT rfl (by rfl) ?_;(try simp only[ZP,yb,xu,xq]))))
        refine yA ?_;refine V8 (by kernel_rfl) ?_ _;go_wp2_with fail;go_roundw
        case rel=>exact⟨k+1,rfl,rfl,by go_num,by omega,λh=>Hk wB (HNF.out h) HL.out,CQ.out.drew⟩
        case measure=>simp[intOf];omega
       .have jz:((z:Int)==0)=false:=by simp;omega
        by_cases Cq:x.name=m.name
        .have jn:(x.name==m.name)=true:=by simpa using Cq
         have jn2:(x.name !=m.name)=false:=by rw[bne,jn];rfl
         have HL:=Z (show KA m l[k]=true by rw[HX.out];unfold KA;rw[HZ.out];simp[Wr,Cq]);have HFD:=Z (zv5 wB hki (HNF.out HS0.out) HL.out);clear Wr d2 f2 f5 Cq;go_wp2_with fail;refine xb (λW':z7=>W'.cell? ⟨g,k*6+2,none⟩=some (zv x.name)/\W'.cell? ⟨g,i*6+2,none⟩=some (zv m.name)) [0,1,2,3,4,5,6,7,8,9,10,11,12,13,14] 0 (by intro _ _ d _ _ h;cases d<;>exact h) (by kernel_rfl) (by kernel_rfl) jq ?_;(iterate 15 (first|(refine jN (v:=?_) rfl (by rfl) ?_ ?_;rotate_left;(focus((intro w' Pa;(try dsimp only at Pa);go_simp;try(with_reducible rfl));done));(try simp only[ZP,yb,xu,xq]))|(refine dT rfl (by rfl) ?_;(try simp only[ZP,yb,xu,xq]))))
         refine yA ?_;refine V8 (by kernel_rfl) ?_ _;have TZ:=Z (show YP l i m (e,a)=if z≠so then ZN (e,a) 5 pl else (e,a)by unfold YP;rw[HSO.out,if_neg HS0.out,HFD.out,HX.out];dsimp only;rw[HZ.out,HPL.out]);have f5:w2.drew.cell? ⟨g,i*6+5,none⟩=some (.int .i64 (pl:Nat)):=HF5.out;by_cases hzs:z=so
         .have jzs:((z:Int)==(so:Int))=true:=by simp[hzs]
          have xev:((z:Int) !=(so:Int))=false:=by rw[bne,jzs];rfl
          have yoy:(z==so)=true:=by simp[hzs]
          have xeu:(z !=so)=false:=by simp[hzs]
          have Cf:=Z (TZ.out.trans (if_neg (not_not_intro hzs)));clear hzs;go_wp2_with fail;go_meet
          case rel =>
           have hx:=HKA.out.symm.trans Cf.out
           cases hx;exact⟨rfl,rfl,CQ.out.drew⟩
         .have jzs:((z:Int)==(so:Int))=false:=by simp;omega
          have xev:((z:Int) !=(so:Int))=true:=by rw[bne,jzs];rfl
          have yoy:(z==so)=false:=by simpa using hzs
          have xeu:(z !=so)=true:=by rw[bne,yoy];rfl
          have TZ:=Z (TZ.out.trans (if_pos hzs));clear hzs;by_cases Gr:e=0
          .have je:((e:Int)==0)=true:=by simp[Gr]
           have jen:(e==0)=true:=by simp[Gr]
           have HU:=Z (show ZN (e,a) 5 pl=(5,pl)from if_pos (.inl Gr));clear Gr;go_wp2_with fail;go_meet
           case rel =>
            have hx:=HKA.out.symm.trans (TZ.out.trans HU.out)
            cases hx;exact⟨rfl,rfl,CQ.out.drew⟩
          .have je:((e:Int)==0)=false:=by simp;omega
           have jen:(e==0)=false:=by simpa using Gr
           by_cases hp:pl<a
           .have jp:decide ((pl:Int)<(a:Int))=true:=by simp;omega
            have jpn:decide (pl<a)=true:=by simpa using hp
            have jpi:(pl:Int)<(a:Int):=by omega
            have HU:=Z (show ZN (e,a) 5 pl=(5,pl)from if_pos (.inr hp));clear Gr;go_wp2_with fail;go_meet
            case rel =>
             have hx:=HKA.out.symm.trans (TZ.out.trans HU.out)
             cases hx;exact⟨rfl,rfl,CQ.out.drew⟩
           .have jp:decide ((pl:Int)<(a:Int))=false:=by simp;omega
            have jpn:decide (pl<a)=false:=by simpa using hp
            have jpi:¬(pl:Int)<(a:Int):=by omega
            have HU:=Z (show ZN (e,a) 5 pl=(e,a)from if_neg (λh=>by rcases h with h|h;exact Gr h;exact hp h));clear Gr;go_wp2_with fail;go_meet
            case rel =>
             have hx:=HKA.out.symm.trans (TZ.out.trans HU.out)
             cases hx;exact⟨rfl,rfl,CQ.out.drew⟩
        .have jn:(x.name==m.name)=false:=beq_eq_false_iff_ne.2 Cq;have jn2:(x.name !=m.name)=true:=by rw[bne,jn];rfl
         have HL:=Z (show KA m l[k]=false by rw[HX.out];unfold KA;simp[Cq]);clear Wr d2 f2 f5 Cq;go_wp2_with fail;refine xb (λW':z7=>W'.cell? ⟨g,k*6+2,none⟩=some (zv x.name)/\W'.cell? ⟨g,i*6+2,none⟩=some (zv m.name)) [0,1,2,3,4,5,6,7,8,9,10,11,12,13,14] 0 (by intro _ _ d _ _ h;cases d<;>exact h) (by kernel_rfl) (by kernel_rfl) jq ?_;(iterate 15 (first|(refine jN (v:=?_) rfl (by rfl) ?_ ?_;rotate_left;(focus((intro w' Pa;(try dsimp only at Pa);go_simp;try(with_reducible rfl));done));(try simp only[ZP,yb,xu,xq]))|(refine dT rfl (by rfl) ?_;(try simp only[ZP,yb,xu,xq]))))
         refine yA ?_;refine V8 (by kernel_rfl) ?_ _;go_wp2_with fail;go_roundw
         case rel=>exact⟨k+1,rfl,rfl,by go_num,by omega,λh=>Hk wB (HNF.out h) HL.out,CQ.out.drew⟩
         case measure=>simp[intOf];omega
      .have HF:=Z (show YP l i m (e,a)=(e,a)by unfold YP;rw[HSO.out,if_neg Pv,show i=k by omega,HNF.out Pv]);have yq5:¬(k:Int)<(i:Int):=by omega
       have he1:e1=e:=by have:=HKA.out.symm.trans HF.out;cases this;rfl
       have ha1:a1=a:=by have:=HKA.out.symm.trans HF.out;cases this;rfl
       subst he1 ha1;clear Pv;go_wp2_with fail;go_meet
       case rel=>exact⟨rfl,rfl,Sr.out⟩
   case rest =>
    obtain⟨rfl,rfl,MW⟩:=hcut;have HBC:=Z MW;have HRC:=Z (gi.out.below MW);have f0:=(HRC.out.at_ i hil).1;rw[HM.out]at f0;obtain⟨kd,hkd⟩:∃k,m.kind=k:=⟨_,rfl⟩;rw[hkd]at f0;have HKI:=Z hkd;clear MW hkd;by_cases h40:kd=40
    case neg =>
     have j40:((kd:Int)==40)=false:=by simp;omega
     have va9:((kd:Int) !=40)=true:=by rw[bne,j40];rfl
     have aY:=Z (show uK l (i+1)=(e1,a1) by
      show Gp l i (uK l i)=_;rw[bd.out];unfold Gp;dsimp only;rw[HM.out,if_pos (by rw[HKI.out];exact h40)];exact HKA.out)
     clear h40;go_wp2_with fail;go_roundw
     case rel=>exact⟨i+1,e1,a1,by go_num,rfl,rfl,by omega,aY.out,HBC.out⟩
     case measure=>simp[intOf];omega
    have yoq:=Z (show m.kind=40 from HKI.out.trans h40);subst h40;go_wp2_with fail;refine(HBR.out i hil wc (HH.out.below HBC.out)).mono ?_;rintro e2 w3 ⟨u,rfl,hou,kL⟩;obtain⟨B,hB⟩:=zo (uD l i);rw[hB]at hou;have HBB:=Z hB;have yoj:=Z (λb (hb:b∈B)=>MU (l:=l) (k:=i) (by omega) (hB▸hb));have xek:B.length<=l.length+1:=hB▸Px l _ _ _;obtain⟨nb,hnb⟩:∃n,B.length=n:=⟨_,rfl⟩;rw[hnb]at hou xek;have HNB:=Z hnb;have vaz:nb<=1000001:=by have:=HN.out;omega
    obtain⟨ba,bc,rfl⟩:=zD hou;have HOU:=Z hou;have l9:=Z (HBC.out.trans (kL.mono HBC.out.size));obtain⟨⟨e2,a2⟩,htw⟩:∃st,Cp l B nb (e1,a1)=st:=⟨_,rfl⟩;have HTW:=Z htw;obtain⟨ob,hob⟩:∃b,B.any (YR l)=b:=⟨_,rfl⟩;have HOB:=Z hob;clear hB hnb hou kL htw hob f0;go_upto_block 4 with fail
    go_cut [4,5,11] (λev av ov wc=>ev = .int .i64 (e2:Nat)/\av = .int .i64 (a2:Nat)/\ov = .bool ob/\yX w.heap.size w wc)
    case first =>
     go_wp2_with fail;go_loopw [4,5,11,12] (λev av ov kv wr=>∃(k e' a':Nat) (o':Bool),ev = .int .i64 (e':Nat)/\av = .int .i64 (a':Nat)/\ov = .bool o'/\kv = .int .i64 (k:Nat)/\k<=nb/\Cp l B k (e1,a1)=(e',a')/\(B.take k).any (YR l)=o'/\yX w3.heap.size w3 wr) (λ_ _ _ kv _=>nb - (intOf kv).toNat)
     case atStart=>exact⟨0,e1,a1,false,rfl,rfl,rfl,rfl,zG _,rfl,rfl,z8 _ _⟩
     case round =>
      obtain⟨k,e',a',o',rfl,rfl,rfl,rfl,hk,htk,hot,IM⟩:=hrel;have HTK:=Z htk;have HOT:=Z hot;have Sr:=Z IM;clear htk hot IM;have hkm:k<=1000001:=by omega
      by_cases hkb:k<nb
      .have vay:(k:Int)<(nb:Int):=by omega
       obtain⟨gb,oc,hvv,hpg,hgw,XS⟩:=vK HOU.out (by omega);obtain rfl:ba=some ⟨gb,0,none⟩:=by cases hvv;rfl
       have xeg:gb<w3.heap.size:=hgw;have HCI:=Z (λW (hb:yX w3.heap.size w3 W) j (hj:j<nb)=>(show W.cell? ⟨gb,j,none⟩=some (.int .i64 ((B[j]'(by rw[HNB.out];exact hj)):Nat)) from(hb.cell (p:=⟨gb,j,none⟩) xeg).trans (by rw[XS j (by omega)];simp[Py,HNB.out,hj])));have HRK:=Z (λW (hb:yX w3.heap.size w3 W)=>gi.out.below (l9.out.trans (hb.mono l9.out.size)));have hkB:k<B.length:=by rw[HNB.out];exact hkb
       obtain⟨bk,zc3⟩:∃b,B[k]=b:=⟨_,rfl⟩;have Cm:bk<l.length:=yoj.out bk (zc3▸xd hkB);have hbn:bk<n:=by rw[<-HN.out];exact Cm
       have vav:(bk:Int)<(n:Int):=by omega
       have d0:=HCI.out _ Sr.out k hkb;rw[zc3]at d0;have yq6:=Z zc3;obtain⟨-,d1,-,-,-,d5⟩:=(HRK.out _ Sr.out).at_ bk Cm;obtain⟨tk,htk⟩:∃t,(YA l bk).text=t:=⟨_,rfl⟩;obtain⟨Cj,yq7⟩:∃t,(YA l bk).pl=t:=⟨_,rfl⟩;rw[htk]at d1;rw[yq7]at d5;have HT:=Z htk;have HPK:=Z yq7;clear hvv XS zc3 htk yq7;go_upto_region 21 with fail
       go_cut [11] (λov wc=>ov = .bool (o' ||YR l bk)/\wc=wr)
       case first =>
        cases o' with
        |true =>
         go_wp2_with fail;go_meet
         case rel=>exact⟨rfl,rfl⟩
        |false =>
         by_cases hto:tk=yq4
         .have jt:(tk==[111,116,104,101,114])=true:=by rw[hto];rfl
          have HI:=Z (show YR l bk=true by unfold YR;rw[HT.out];simpa using hto);clear hto;go_wp2_with fail;go_meet
          case rel=>exact⟨by rw[HI.out];rfl,rfl⟩
         .have jt:(tk==[111,116,104,101,114])=false:=beq_eq_false_iff_ne.2 hto;have HI:=Z (show YR l bk=false by unfold YR;rw[HT.out];simpa using hto);clear hto;go_wp2_with fail;go_meet
          case rel=>exact⟨by rw[HI.out];rfl,rfl⟩
       case rest =>
        obtain⟨rfl,rfl⟩:=hcut;have xeb:=Z (show(B.take (k+1)).any (YR l)=(o' ||YR l bk)by rw[zr hkB,List.any_append,HOT.out,yq6.out];simp);obtain⟨⟨e3,a3⟩,hta⟩:∃st,twA l B k (e',a')=st:=⟨_,rfl⟩;have HTA:=Z (show(if (B.take k).any (Zo l bk)=true then ZN (e',a') 7 Cj else (e',a'))=(e3,a3) by
         rw[<-hta];unfold twA;rw[show B.getD k 0=bk by rw[<-yq6.out];simp[hkB],HPK.out])
        have xi1:=Z (show Cp l B (k+1) (e1,a1)=(e3,a3)by rw[Cp,HTK.out,hta]);clear hta;skip
        ·
         clear d0 d1 d5;go_wp2_with fail;go_loopw [4,5,13] (λev av qv wr=>∃q ec ac:Nat,ev = .int .i64 (ec:Nat)/\av = .int .i64 (ac:Nat)/\qv = .int .i64 (q:Nat)/\q<=k/\(if (B.take q).any (Zo l bk)=true then ZN (e',a') 7 Cj else (e',a'))=(ec,ac)/\yX w3.heap.size w3 wr) (λ_ _ qv _=>k - (intOf qv).toNat)
         case atStart=>exact⟨0,e',a',rfl,rfl,rfl,zG _,rfl,Sr.out⟩
         case round =>
          obtain⟨q,ec,ac,rfl,rfl,rfl,hq,hcu,hbq⟩:=hrel;have HCU:=Z hcu;have HBQ:=Z hbq;clear hcu hbq;have hqm:q<=1000001:=by omega
          by_cases hqk:q<k
          .have vaq:(q:Int)<(k:Int):=by omega
           have hqb:q<nb:=by omega
           have vak:(q:Int)<(nb:Int):=by omega
           have hqB:q<B.length:=by rw[HNB.out];exact hqb
           obtain⟨bq,zc5⟩:∃b,B[q]=b:=⟨_,rfl⟩;have hql:bq<l.length:=yoj.out bq (zc5▸xd hqB);have hqn:bq<n:=by rw[<-HN.out];exact hql
           have vaj:(bq:Int)<(n:Int):=by omega
           have d0:=HCI.out _ HBQ.out k hkb;rw[yq6.out]at d0;have d2:=HCI.out _ HBQ.out q hqb;rw[zc5]at d2;have xi2:=Z zc5;obtain⟨-,d1,-,-,-,d5⟩:=(HRK.out _ HBQ.out).at_ bk Cm;obtain⟨-,d3,-,-,-,-⟩:=(HRK.out _ HBQ.out).at_ bq hql;rw[HT.out]at d1;rw[HPK.out]at d5;obtain⟨tq,htq⟩:∃t,(YA l bq).text=t:=⟨_,rfl⟩;rw[htq]at d3;have HTQ:=Z htq;have zc6:=Z (show(B.take (q+1)).any (Zo l bk)=((B.take q).any (Zo l bk) ||Zo l bk bq)by rw[zr hqB,List.any_append,xi2.out];simp);have HD5:=Z d5;have HD0:=Z d0;clear zc5 htq;go_wp2_with fail;have jq:wr.drew.cell? ⟨gb,k,none⟩=some (.int .i64 (bk:Nat))/\wr.drew.cell? ⟨gb,q,none⟩=some (.int .i64 (bq:Nat))/\wr.drew.cell? ⟨g,bk*6+1,none⟩=some (zv tk)/\wr.drew.cell? ⟨g,bq*6+1,none⟩=some (zv tq)/\wr.drew.cell? ⟨g,bk*6+5,none⟩=some (.int .i64 (Cj:Nat)):=⟨d0,d2,d1,d3,d5⟩;clear d0 d1 d2 d3 d5;by_cases htt:tk=tq
           .have jt:(tk==tq)=true:=by simpa using htt
            have HSM:=Z (show Zo l bk bq=true by unfold Zo;rw[HT.out,HTQ.out];simp[htt]);clear htt;by_cases Gr:ec=0
            .have je:((ec:Int)==0)=true:=by simp[Gr]
             have jen:(ec==0)=true:=by simp[Gr]
             have HU:=Z (show ZN (ec,ac) 7 Cj=(7,Cj)from if_pos (.inl Gr));clear Gr;refine xb (λW':z7=>W'.cell? ⟨gb,k,none⟩=some (.int .i64 (bk:Nat))/\W'.cell? ⟨gb,q,none⟩=some (.int .i64 (bq:Nat))/\W'.cell? ⟨g,bk*6+1,none⟩=some (zv tk)/\W'.cell? ⟨g,bq*6+1,none⟩=some (zv tq)/\W'.cell? ⟨g,bk*6+5,none⟩=some (.int .i64 (Cj:Nat))) [0,1,2,3,4,5,6,7,8,9,10,11,12,13,14,15,16,17,18,19,20,21,22,23,24,25,26,27,28,29,30,31,32] 0 (by intro _ _ d _ _ h;cases d<;>exact h) (by kernel_rfl) (by kernel_rfl) jq ?_;(iterate 33 (first|(refine jN (v:=?_) rfl (by rfl) ?_ ?_;rotate_left;(focus((intro w' Pa;(try dsimp only at Pa);go_simp;try(with_reducible rfl));done));(try simp only[ZP,yb,xu,xq]))|(refine dT rfl (by rfl) ?_;(try simp only[ZP,yb,xu,xq]))))
             refine yA ?_;refine V8 (by kernel_rfl) ?_ _;have f5:wr.drew.cell? ⟨g,bk*6+5,none⟩=some (.int .i64 (Cj:Nat)):=HD5.out;have f0:wr.drew.cell? ⟨gb,k,none⟩=some (.int .i64 (bk:Nat)):=HD0.out;go_wp2_with fail;go_roundw
             case rel=>exact⟨q+1,_,_,rfl,rfl,by go_num,by omega,by
              rw[zc6.out,HSM.out,PW,if_pos rfl,<-HU.out,<-HCU.out];split
              .exact(QL _ _).symm
              .rfl,HBQ.out.drew⟩
             case measure=>simp[intOf];omega
            .have je:((ec:Int)==0)=false:=by simp;omega
             have jen:(ec==0)=false:=by simpa using Gr
             by_cases hp:Cj<ac
             .have jp:decide ((Cj:Int)<(ac:Int))=true:=by simp;omega
              have jpn:decide (Cj<ac)=true:=by simpa using hp
              have jpi:(Cj:Int)<(ac:Int):=by omega
              have HU:=Z (show ZN (ec,ac) 7 Cj=(7,Cj)from if_pos (.inr hp));clear Gr;refine xb (λW':z7=>W'.cell? ⟨gb,k,none⟩=some (.int .i64 (bk:Nat))/\W'.cell? ⟨gb,q,none⟩=some (.int .i64 (bq:Nat))/\W'.cell? ⟨g,bk*6+1,none⟩=some (zv tk)/\W'.cell? ⟨g,bq*6+1,none⟩=some (zv tq)/\W'.cell? ⟨g,bk*6+5,none⟩=some (.int .i64 (Cj:Nat))) [0,1,2,3,4,5,6,7,8,9,10,11,12,13,14,15,16,17,18,19,20,21,22,23,24,25,26,27,28,29,30,31,32] 0 (by intro _ _ d _ _ h;cases d<;>exact h) (by kernel_rfl) (by kernel_rfl) jq ?_;(iterate 33 (first|(refine jN (v:=?_) rfl (by rfl) ?_ ?_;rotate_left;(focus((intro w' Pa;(try dsimp only at Pa);go_simp;try(with_reducible rfl));done));(try simp only[ZP,yb,xu,xq]))|(refine dT rfl (by rfl) ?_;(try simp only[ZP,yb,xu,xq]))))
              refine yA ?_;refine V8 (by kernel_rfl) ?_ _;have f5:wr.drew.cell? ⟨g,bk*6+5,none⟩=some (.int .i64 (Cj:Nat)):=HD5.out;have f0:wr.drew.cell? ⟨gb,k,none⟩=some (.int .i64 (bk:Nat)):=HD0.out;go_wp2_with fail;go_roundw
              case rel=>exact⟨q+1,_,_,rfl,rfl,by go_num,by omega,by
               rw[zc6.out,HSM.out,PW,if_pos rfl,<-HU.out,<-HCU.out];split
               .exact(QL _ _).symm
               .rfl,HBQ.out.drew⟩
              case measure=>simp[intOf];omega
             .have jp:decide ((Cj:Int)<(ac:Int))=false:=by simp;omega
              have jpn:decide (Cj<ac)=false:=by simpa using hp
              have jpi:¬(Cj:Int)<(ac:Int):=by omega
              have HU:=Z (show ZN (ec,ac) 7 Cj=(ec,ac)from if_neg (λh=>by rcases h with h|h;exact Gr h;exact hp h));clear Gr;refine xb (λW':z7=>W'.cell? ⟨gb,k,none⟩=some (.int .i64 (bk:Nat))/\W'.cell? ⟨gb,q,none⟩=some (.int .i64 (bq:Nat))/\W'.cell? ⟨g,bk*6+1,none⟩=some (zv tk)/\W'.cell? ⟨g,bq*6+1,none⟩=some (zv tq)/\W'.cell? ⟨g,bk*6+5,none⟩=some (.int .i64 (Cj:Nat))) [0,1,2,3,4,5,6,7,8,9,10,11,12,13,14,15,16,17,18,19,20,21,22,23,24,25,26,27,28,29,30,31,32] 0 (by intro _ _ d _ _ h;cases d<;>exact h) (by kernel_rfl) (by kernel_rfl) jq ?_;(iterate 33 (first|(refine jN (v:=?_) rfl (by rfl) ?_ ?_;rotate_left;(focus((intro w' Pa;(try dsimp only at Pa);go_simp;try(with_reducible rfl));done));(try simp only[ZP,yb,xu,xq]))|(refine dT rfl (by rfl) ?_;(try simp only[ZP,yb,xu,xq]))))
              refine yA ?_;refine V8 (by kernel_rfl) ?_ _;have f5:wr.drew.cell? ⟨g,bk*6+5,none⟩=some (.int .i64 (Cj:Nat)):=HD5.out;have f0:wr.drew.cell? ⟨gb,k,none⟩=some (.int .i64 (bk:Nat)):=HD0.out;go_wp2_with fail;go_roundw
              case rel=>exact⟨q+1,_,_,rfl,rfl,by go_num,by omega,by
               rw[zc6.out,HSM.out,PW,if_pos rfl,<-HU.out,<-HCU.out];split
               .exact(QL _ _).symm
               .rfl,HBQ.out.drew⟩
              case measure=>simp[intOf];omega
           .have jt:(tk==tq)=false:=by simpa using htt
            have HSM:=Z (show Zo l bk bq=false by unfold Zo;rw[HT.out,HTQ.out];simpa using λe=>htt e.symm);clear htt;refine xb (λW':z7=>W'.cell? ⟨gb,k,none⟩=some (.int .i64 (bk:Nat))/\W'.cell? ⟨gb,q,none⟩=some (.int .i64 (bq:Nat))/\W'.cell? ⟨g,bk*6+1,none⟩=some (zv tk)/\W'.cell? ⟨g,bq*6+1,none⟩=some (zv tq)/\W'.cell? ⟨g,bk*6+5,none⟩=some (.int .i64 (Cj:Nat))) [0,1,2,3,4,5,6,7,8,9,10,11,12,13,14,15,16,17,18,19,20,21,22,23,24,25,26,27,28,29,30,31,32] 0 (by intro _ _ d _ _ h;cases d<;>exact h) (by kernel_rfl) (by kernel_rfl) jq ?_;(iterate 33 (first|(refine jN (v:=?_) rfl (by rfl) ?_ ?_;rotate_left;(focus((intro w' Pa;(try dsimp only at Pa);go_simp;try(with_reducible rfl));done));(try simp only[ZP,yb,xu,xq]))|(refine dT rfl (by rfl) ?_;(try simp only[ZP,yb,xu,xq]))))
            refine yA ?_;refine V8 (by kernel_rfl) ?_ _;go_wp2_with fail;go_roundw
            case rel=>exact⟨q+1,ec,ac,rfl,rfl,by go_num,by omega,by rw[zc6.out,HSM.out,Bool.or_false];exact HCU.out,HBQ.out.drew⟩
            case measure=>simp[intOf];omega
          .have xi6:q=k:=by omega
           subst xi6;have hx:=HTA.out.symm.trans HCU.out
           cases hx;go_wp2_with fail;go_roundw
           case rel=>exact⟨q+1,e3,a3,_,rfl,rfl,rfl,by go_num,by omega,xi1.out,xeb.out,HBQ.out⟩
           case measure=>simp[intOf];omega
      .have xi7:k=nb:=by omega
       subst xi7;have hx:=HTW.out.symm.trans HTK.out;have ho:=HOB.out.symm.trans (show _=o' by rw[<-HOT.out,xJ (by rw[HNB.out];omega)])
       cases hx;subst ho;go_wp2_with fail;go_meet
       case rel=>exact⟨rfl,rfl,rfl,l9.out.trans (Sr.out.mono l9.out.size)⟩
    case rest =>
     obtain⟨rfl,rfl,rfl,hbd⟩:=hcut;have HBD:=Z hbd;clear hbd;obtain⟨z,hz⟩:=zo (Yj l i);have hzl:z<l.length:=by
      rw[<-hz];exact Nv.out i hil (by rw[<-MV hil,HM.out];exact yoq.out)
     have hzn:z<n:=by rw[<-HN.out];exact hzl
     have vag:(z:Int)<(n:Int):=by omega
     obtain⟨-,-,-,-,-,f5⟩:=(gi.out.below HBD.out).at_ z hzl;obtain⟨pz,hpz⟩:∃p,(YA l z).pl=p:=⟨_,rfl⟩;rw[hpz]at f5;have HZ:=Z hz;have HPZ:=Z hpz;have aY:=Z (show uK l (i+1)=if ob=true then (e2,a2)else ZN (e2,a2) 6 pz by
      show Gp l i (uK l i)=_;rw[bd.out];unfold Gp;dsimp only;rw[HM.out,if_neg (not_not_intro yoq.out),HBB.out,HOB.out,HNB.out,HKA.out,HTW.out,HZ.out,HPZ.out])
     clear hz hpz;go_wp2_with fail;refine(HEN.out i (by omega) wc (HH.out.below HBD.out)).mono ?_;rintro e4 w4 ⟨rfl,rfl⟩;rw[HZ.out]
     cases ob with
     |true =>
      have aY:=Z (aY.out.trans (if_pos rfl));go_wp2_with fail;go_roundw
      case rel=>exact⟨i+1,e2,a2,by go_num,rfl,rfl,by omega,aY.out,HBD.out⟩
      case measure=>simp[intOf];omega
     |false =>
      have aY:=Z (aY.out.trans (if_neg (by simp)));by_cases Gr:e2=0
      .have je:((e2:Int)==0)=true:=by simp[Gr]
       have jen:(e2==0)=true:=by simp[Gr]
       have HU:=Z (show ZN (e2,a2) 6 pz=(6,pz)from if_pos (.inl Gr));clear Gr;go_wp2_with fail;go_roundw
       case rel=>exact⟨i+1,_,_,by go_num,rfl,rfl,by omega,aY.out.trans HU.out,HBD.out⟩
       case measure=>simp[intOf];omega
      .have je:((e2:Int)==0)=false:=by simp;omega
       have jen:(e2==0)=false:=by simpa using Gr
       by_cases hp:pz<a2
       .have jp:decide ((pz:Int)<(a2:Int))=true:=by simp;omega
        have jpn:decide (pz<a2)=true:=by simpa using hp
        have jpi:(pz:Int)<(a2:Int):=by omega
        have HU:=Z (show ZN (e2,a2) 6 pz=(6,pz)from if_pos (.inr hp));clear Gr;go_wp2_with fail;go_roundw
        case rel=>exact⟨i+1,_,_,by go_num,rfl,rfl,by omega,aY.out.trans HU.out,HBD.out⟩
        case measure=>simp[intOf];omega
       .have jp:decide ((pz:Int)<(a2:Int))=false:=by simp;omega
        have jpn:decide (pz<a2)=false:=by simpa using hp
        have jpi:¬(pz:Int)<(a2:Int):=by omega
        have HU:=Z (show ZN (e2,a2) 6 pz=(e2,a2)from if_neg (λh=>by rcases h with h|h;exact Gr h;exact hp h));clear Gr;go_wp2_with fail;go_roundw
        case rel=>exact⟨i+1,_,_,by go_num,rfl,rfl,by omega,aY.out.trans HU.out,HBD.out⟩
        case measure=>simp[intOf];omega
  .have hni:i=n:=by omega
   subst hni;have HF:=Z (show gX l=(e,a)by unfold gX;rw[HN.out];exact bd.out);go_wp2;refine zU (v := .tuple #[.int .i64 (e:Nat),.int .i64 (a:Nat)]) ?_ rfl ?_
   .simp[yk,results19,go_sem]
   rw[HF.out];exact⟨rfl,HBL.out⟩
def G9(s:ByteArray):∀(n:Nat) (x:Sc),PN x->PN (qd s n x)/\(x.i<=s.size->∀(_:∀y,PN y->y.i<=s.size->y.err=0->y.i<s.size->(fC s y).i<=s.size),(qd s n x).i<=s.size)
 | 0,x,h=>⟨h,λhi _=>hi⟩
 |n+1,x,h=>by
  rw[qd];split
  .next hc =>
   have h1:=ok_one s x h hc.1 hc.2;have b:=G9 s n (fC s x) h1.1;exact⟨b.1,λhi a=>b.2 (a x h hi hc.1 hc.2) a⟩
  .exact⟨h,λhi _=>hi⟩
def Tl(s:ByteArray):(xP s).out=(qd s (s.size+1) jf).out:=by
 unfold xP;dsimp only;split
 .exact(XD _ _ _).1
 .rfl
def Pu(s:ByteArray):∀m∈(xP s).out,m.kind<256:=by
 rw[Tl];have h:=(G9 s (s.size+1) jf ⟨zG _,zG _,λm hm=>JV⟩).1;exactλm hm=>(h.m m hm).1
def jd(s:ByteArray):Nat×Nat:=if (xP s).err=0 then gX (xP s).out else ((xP s).err,(xP s).place)
def fW(s:ByteArray)(a:Nat):Nat:=(xn (s.data.toList.take a)).1.length
def bB(s:ByteArray):List Mk×Nat×Nat :=
 if 1000<s.size then ([],1,0)
 else if (xn s.data.toList).2<s.size then ([],2,(xn s.data.toList).1.length)
 else if (jd s).1≠0 then ([],(jd s).1,fW s (jd s).2)
 else ((xP s).out,0,0)
structure zv6(s:ByteArray):Prop where
 wf:(xP s).err=0->∀i (h:i<(xP s).out.length),(xP s).out[i].kind=40->Yj (xP s).out i<(xP s).out.length
 pl:(jd s).1≠0->(jd s).2<=s.size
 len:(xP s).err=0->(xP s).out.length<=1000000
def Bi(s:ByteArray)(w:z7)(e:gG)(w':z7):Prop :=
 ∃v,e = .returned (.tuple #[v,((bB s).2.1:Nat),((bB s).2.2:Nat)])/\ql w' v (bB s).1/\zJ w w'
def Gz(w:z7):ql w (.slice none 0 0) []:=⟨⟨none,0,rfl⟩,λh=>xp⟩
def iB(s:ByteArray)(w:z7)(hs:s.size<=1000000000)(O:1000<s.size\/(xn s.data.toList).2<s.size\/zv6 s):zE prog 12 #[.string s] w (Bi s w):=by
 have HOK:=Z O;clear O;by_cases hl:1000<s.size
 .have j:=Z (show bB s=([],1,0)from zl hl);have j1:(1000:Int)<(s.size:Int):=by omega
  go_enter func12,ntmps12;go_wp2;refine zU (v := .tuple #[.slice none 0 0,.int .i64 1,.int .i64 0]) ?_ rfl ?_
  .exact IJ
  unfold Bi;rw[j.o];exact⟨_,rfl,Gz _,z8 _ _⟩
 have j1:¬(1000:Int)<(s.size:Int):=J;have S:=Z hl;have HP:=Z (QU s w hs);obtain⟨⟨ps,Q⟩,A⟩:∃x,xn s.data.toList=x:=⟨_,rfl⟩;have HP:=Z (show zE prog 17 #[.string s] w λe w'=>∃v,e = .returned (.tuple #[v,Q])/\w'.ownsRow (w:Nat) 9 1 v ps.length (ps.map zv)/\yX w w w' from HP.o.mono (by
  rintro e w' ⟨v,rfl,h1,h2⟩;rw[A]at h1|-;exact⟨v,rfl,h1,h2⟩))
 have p:=Z A;clear A hl;go_enter func12,ntmps12;go_wp2_with fail;refine HP.o.mono ?_;rintro e w1 ⟨u,rfl,hu,G⟩;obtain⟨R,z⟩:∃n,ps.length=n:=⟨_,rfl⟩;rw[z]at hu;have HNP:=Z z;obtain⟨ua,uc,rfl⟩:=zD hu;have k:=Z G;clear hu G z;by_cases hn:Q<s.size
 .have j:=Z (show bB s=([],2,R)by unfold bB;rw[zL S.o,p.o,zl hn,HNP.o]);have j2:(Q:Int)<(s.size:Int):=by omega
  have j2d:decide (Q<s.size)=true:=by simpa using hn
  go_wp2;refine zU (v := .tuple #[.slice none 0 0,.int .i64 2,R]) ?_ rfl ?_
  .exact IJ
  unfold Bi;rw[j.o];exact⟨_,rfl,Gz _,k.o⟩
 have j2:¬(Q:Int)<(s.size:Int):=J;have P:zv6 s:=by
  rcases HOK.o with h|h|h
  .exact absurd h S.o
  .rw[p.o]at h;exact absurd h hn
  .exact h
 have q:=Z P;have E:=Z (show bB s=if (jd s).1≠0 then ([],(jd s).1,fW s (jd s).2)else ((xP s).out,0,0)by unfold bB;rw[zL S.o,p.o,zL hn]);have HM:=Z (iF s w1 (by have:=S.o;omega));obtain⟨M,T⟩:=zo (xP s);have b:=Z T;have D:=Z (show jd s=if M.err=0 then gX M.out else (M.err,M.place)by rw[<-T];rfl);obtain⟨F,r⟩:∃n,M.err=n:=⟨_,rfl⟩;obtain⟨mp,y⟩:∃n,M.place=n:=⟨_,rfl⟩;have g:=Z r;have HMP:=Z y;have HM:=Z (show zE prog 18 #[.string s] w1 λe w'=>∃v2,e = .returned (.tuple #[v2,F,mp])/\ql w' v2 M.out/\yX w1 w1 w' from HM.o.mono (by
  rintro e w' ⟨v,rfl,h1,h2⟩;rw[T]at h1|-;rw[r,y];exact⟨v,rfl,ql.bY h1,h2⟩))
 clear hn P T r y;go_wp2_with fail;refine HM.o.mono ?_;rintro e w2 ⟨v2,rfl,t,H⟩;have l:=Z t;have d:=Z (k.o.trans (H.mono k.o.size));obtain⟨ma,mc,rfl⟩:=t.sl;obtain⟨ml,i⟩:∃n,M.out.length=n:=⟨_,rfl⟩;rw[i]at l;have HML:=Z i;rw[i];obtain⟨⟨e1,a1⟩,hf⟩:∃x,jd s=x:=⟨_,rfl⟩;have B:=Z hf;clear t H i hf;go_upto_if 31 with fail
 go_cut [8,9] (λev av wc=>ev = .int .i64 e1/\av = .int .i64 a1/\zJ w2 wc)
 case first =>
  by_cases he:F=0
  .have j3:((F:Int)==0)=true:=(by simp[he]);have HX:=Z (show gX M.out=(e1,a1)by rw[<-B.o,D.o,g.o,zl he]);have C:=Z (Ti (.slice ma ml mc) M.out w2 l.o (b.o▸q.o.len (by rw[b.o,g.o];exact he)) (b.o▸Pu s) (b.o▸q.o.wf (by rw[b.o,g.o];exact he)));rw[HX.o]at C;clear he;go_wp2_with fail;refine C.o.mono ?_;rintro e w3 ⟨rfl,I⟩;have U:=Z I;clear I;go_wp2_with fail;go_meet
   case rel=>exact⟨rfl,rfl,U.o⟩
  .have j3:((F:Int)==0)=false:=(by simp;omega);have hx:=(show(F,mp)=(e1,a1)by rw[<-B.o,D.o,g.o,HMP.o,zL he]);cases hx;clear he;go_wp2_with fail;go_meet
   case rel=>exact⟨rfl,rfl,z8 _ _⟩
 case rest =>
  obtain⟨rfl,rfl,L⟩:=hcut;have f:=Z L;clear L;by_cases he:e1=0
  .have j4:((e1:Int)==0)=true:=(by simp[he]);have j4b:((e1:Int) !=0)=false:=(by rw[bne,j4];rfl);have j:=Z (show bB s=(M.out,0,0)by rw[E.o,B.o,zL (not_not_intro he),b.o]);clear he;go_wp2;refine zU (v := .tuple #[.slice ma ml mc,.int .i64 0,.int .i64 0]) ?_ rfl ?_
   .exact IJ
   unfold Bi;rw[j.o];exact⟨_,rfl,l.o.below f.o,d.o.trans (f.o.mono d.o.size)⟩
  .have j4:((e1:Int)==0)=false:=(by simp;omega);have j4b:((e1:Int) !=0)=true:=(by rw[bne,j4];rfl);have j:=Z (show bB s=([],e1,fW s a1)by rw[E.o,B.o,zl he]);have CT:a1<=s.size:=by
    have:=q.o.pl;rw[B.o]at this;exact this he
   have vc0:(a1:Int)<=(s.size:Int):=J;have W:=Z (kT s a1);have m:=Z (QU ⟨(s.data.toList.take a1).toArray⟩ wc (by show(s.data.toList.take a1).length<=1000000000;rw[xr];omega));have m:=Z (show zE prog 17 #[.string (s.extract 0 a1)] wc λe w'=>∃v x,e = .returned (.tuple #[v,.int .i64 (x:Nat)])/\(∃a c,v = .slice a (fW s a1) c)/\yX wc wc w' by
    rw[W.o];refine m.o.mono ?_;rintro e w' ⟨v,rfl,h1,h2⟩;exact⟨v,_,rfl,zD h1,h2⟩)
   clear he;go_wp2_with fail;refine m.o.mono ?_;rintro e w4 ⟨v4,x4,rfl,⟨va,vc,rfl⟩,K⟩;have V:=Z K;clear K;obtain⟨cn,N⟩:∃c,fW s a1=c:=⟨_,rfl⟩;rw[N]at j|-;clear N;go_wp2;refine zU (v := .tuple #[.slice none 0 0,e1,cn]) ?_ rfl ?_
   .exact IJ
   unfold Bi;rw[j.o];exact⟨_,rfl,Gz _,(d.o.trans (f.o.mono d.o.size)).trans (V.o.mono (zZ d.o.size f.o.size))⟩
variable{r:Int}{j n:Nat}
structure Tn(r:Int):Prop where
 pos:0<=r
 one:r<128->enc r=[yW r.toNat]
 big:128<=r->enc r≠[]/\∀c∈enc r,128<=c.toNat
def yf(rs:List Int)(i:Nat):Nat:=((rs.take i).flatMap enc).length
structure jc(s:ByteArray)(rs:List Int):Prop where
 ok:∀r∈rs,Tn r
 eq:s.data.toList=rs.flatMap enc
def Tn.ne(h:Tn r):enc r≠[]:=by
 by_cases hr:r<128
 .rw[h.one hr];simp
 .exact(h.big J).1
def Tn.len(h:Tn r):0<(enc r).length:=xI.2 h.ne
def Tn.cases(h:Tn r):(∃k:Nat,k<128/\r=k/\enc r=[yW k])\/(128<=r/\∃c t,enc r=c::t/\128<=c.toNat):=by
 by_cases hr:r<128
 .have:=h.pos;refine .inl ⟨r.toNat,J,J,h.one hr⟩
 .obtain⟨h1,h2⟩:=h.big J;cases he:enc r with
  |nil=>exact absurd he h1
  |cons c t=>exact .inr ⟨J,c,t,rfl,h2 c (by rw[he];exact xB)⟩
def zv7(rs:List Int)(i:Nat):(rs.flatMap enc).drop (yf rs i)=(rs.drop i).flatMap enc:=by
 unfold yf;conv=>lhs;arg 2;rw[<-List.take_append_drop i rs]
 rw[xh,Ht]
def Vn{rs:List Int}{i:Nat}(h:rs.length<=i):yf rs i=(rs.flatMap enc).length:=by
 unfold yf;rw[xJ h]
def Zp{rs:List Int}(h:j<rs.length):rs.drop j=zC rs j::rs.drop (j+1):=by
 rw[yH h];exact Wo
def QM{rs:List Int}{i:Nat}(h:rs.length<=i):zC rs i = -1:=oI
def yq8{rs:List Int}(h:j<rs.length):zC rs j∈rs:=by
 have e:zC rs j=rs[j]:=Wo;rw[e];exact xd h
def Gy{rs:List Int}{i:Nat}(h:i<rs.length):yf rs (i+1)=yf rs i+(enc (zC rs i)).length:=by
 unfold yf;rw[zr h,xh,zI];have e:zC rs i=rs[i]:=Wo;rw[e];simp
section
variable {s:ByteArray} {rs:List Int} (E:jc s rs)
include E
def jc.drop(i:Nat):s.data.toList.drop (yf rs i)=(rs.drop i).flatMap enc:=by rw[E.eq,zv7]
def jc.To{i:Nat}(h:i<rs.length):Tn (zC rs i):=E.ok _ (yq8 h)
def jc.lt{i:Nat}(c:i<j)(hi:i<rs.length):yf rs i<yf rs j:=by
 induction j with
 |zero=>omega
 |succ j b =>
  by_cases a:j<rs.length
  .rw[Gy a];have:=(E.To a).len;by_cases h2:i=j
   .subst h2;omega
   .have:=b J;omega
  .have e1:=Vn (rs:=rs) (i:=j+1) J;have e2:=Vn (rs:=rs) (i:=j) J;by_cases h2:i=j
   .omega
   .have:=b J;omega
def jc.size:s.size=yf rs rs.length:=by
 rw[Vn (X _),<-E.eq];simp
def jc.le(i:Nat):yf rs i<=s.size:=by
 rw[E.size];by_cases h:i<rs.length
 .exact xx (E.lt h h)
 .rw[Vn J,Vn (X _)];exact X _
def jc.lts{i:Nat}(h:i<rs.length):yf rs i<s.size:=by rw[E.size];exact E.lt h h
def jc.iff{i:Nat}(hi:i<=rs.length)(a:j<=rs.length):yf rs i<yf rs j ↔ i<j:=by
 constructor
 .intro h;apply zi;intro hc;by_cases h2:i=j
  .subst h2;omega
  .have:=E.lt (i:=j) (j:=i) J J;omega
 .intro h;exact E.lt h J
def jc.At{i:Nat}:∀r∈rs.drop i,Tn r:=λr hr=>E.ok r (ZD hr)
def jc.byte(i k:Nat)(b:k<128):xN s (yf rs i)=some (yW k) ↔ zC rs i=(k:Int):=by
 have a:xN s (yf rs i)=(s.data.toList.drop (yf rs i)).head? := by
  unfold xN;rw[Z2]
 rw[a,E.drop];by_cases hi:i<rs.length
 .rw[Zp hi];rcases (E.To hi).cases with⟨n,hn,e,e2⟩|⟨hb,c,t,e2,hc⟩
  .rw[zn,e2,e];simp only[yw,ZR,vw];constructor
   .intro h;have:=congrArg UI h;rw[vO,vO,uC J,uC J]at this;omega
   .intro h;have:n=k:=(by omega);rw[this]
  .rw[zn,e2];simp only[yw,ZR,vw];constructor
   .intro h;have:=congrArg UI h;rw[vO,uC J]at this;omega
   .intro h;omega
 .rw[QM J,yq J];simp only[Xn,Hh];constructor
  .intro h;cases h
  .intro h;omega
end
structure Alike(P:UInt8->Bool)(F:Int->Bool):Prop where
 small:∀k:Fin 128,P (yW k.1)=F (k.1:Int)
 Tp:∀c:UInt8,128<=c.toNat->P c=false
 Tr:∀r:Int,128<=r->F r=false
def Ah{c:UInt8}(hn:n<128)(h:128<=c.toNat):(c==yW n)=false:=by
 rw[beq_eq_false_iff_ne];intro e;rw[e,vO,uC J]at h;omega
def Bl:Alike TL bX where
 small:=zj
 Tp c h:=by
  unfold TL;have h1:=Ah (n:=32) J h;have h2:=Ah (n:=9) J h;have a:=Ah (n:=10) J h;have b:=Ah (n:=13) J h;have e1:(c==32)=false:=h1;have e2:(c==9)=false:=h2;have e3:(c==10)=false:=a;have e4:(c==13)=false:=b;rw[e1,e2,e3,e4];rfl
 Tr r h:=by
  unfold bX;have h1:r≠32:=J;have h2:r≠9:=J;have a:r≠10:=J;have b:r≠13:=J;simp[h1,h2,a,b]
def Gx:Alike YB jV where
 small:=zj
 Tp c h:=by
  unfold YB;have h1:¬c.toNat<=122:=J;have h2:¬c.toNat<=90:=J;have a:¬c.toNat=95:=J;simp[h1,h2,a]
 Tr r h:=by
  unfold jV;have h1:¬r<=122:=J;have h2:¬r<=90:=J;have a:¬r=95:=J;simp[h1,h2,a]
def Z1:Alike Xp qg where
 small:=zj
 Tp c h:=by
  unfold Xp;have h1:¬c.toNat<=57:=J;simp[h1]
 Tr r h:=by
  unfold qg;have h1:¬r<=57:=J;simp[h1]
section
variable {s:ByteArray} {rs:List Int} (E:jc s rs)
include E
def Small(rs:List Int)(i n:Nat):Prop:=∀j,j<n->0<=zC rs (i+j)/\zC rs (i+j)<128
omit E in
def Small.lt{rs:List Int}{i:Nat}(h:Small rs i n):i+n<=rs.length\/n=0:=by
 by_cases hn:n=0
 .exact .inr hn
 .refine .inl ?_;apply zi;intro hc;have:=(h (n - 1) J).1;rw[QM J]at this;omega
def jc.Zr{i:Nat}:∀n,Small rs i n->yf rs (i+n)=yf rs i+n
 | 0,_=>rfl
 |n+1,h=>by
  have h1:=jc.Zr n (λj b=>h j J);have a:i+n<rs.length:=by
   rcases h.lt with k|k<;>omega
  have h2:=h n J;rw[show i+(n+1)=i+n+1 from rfl,Gy a,(E.To a).one h2.2,h1];simp only[zm,ur];omega
def jc.piece{i:Nat}(h:Small rs i n):(s.data.toList.drop (yf rs i)).take n=uy rs i n:=by
 have h1:=E.Zr n h;have h2:(rs.drop i).flatMap enc=((rs.drop i).take n).flatMap enc++(rs.drop (i+n)).flatMap enc:=by
  rw[<-xh,<-Vt,List.take_append_drop]
 have a:(((rs.drop i).take n).flatMap enc).length=n:=by
  have a1:(rs.take (i+n)).flatMap enc=(rs.take i).flatMap enc++((rs.drop i).take n).flatMap enc:=by
   rw[<-xh,Kn]
  have a2:=congrArg qj a1;rw[zI]at a2;unfold yf at h1;omega
 unfold uy;rw[E.drop,h2,List.take_append_of_le_length J,xJ J]
def jc.skip(i:Nat):bU (s.data.toList.drop (yf rs i))=((rs.drop i).takeWhile bX).length/\Small rs i ((rs.drop i).takeWhile bX).length:=by
 rw[E.drop];have f:∀r∈rs.drop i,Tn r:=E.At;have hn:∀j,zC rs (i+j)=(rs.drop i).getD j (-1):=λj=>by
  unfold zC;rw[zM,zM,MM]
 unfold Small;simp only[hn];generalize rs.drop i=t at f;clear hn;induction t with
 |nil=>exact⟨rfl,λj hj=>by simp at hj⟩
 |cons r t h =>
  have d:=h (λx hx=>f x (yo _ hx));rcases (f r xB).cases with⟨n,hn,e,e2⟩|⟨hb,c,u,e2,hc⟩
  .have e3:=Bl.small ⟨n,hn⟩;rw[zn,e2];by_cases a:TL (yW n)=true
   .have b:bX r=true:=(by rw[e,<-e3];exact a);unfold bU;rw[yw,Un a,Un b];refine⟨by simpa[bU]using d.1,λj hj=>?_⟩;cases j with
    |zero=>simp;omega
    |succ j =>
     have:=d.2 j D9;simpa using this
   .have b:¬bX r=true:=(by rw[e,<-e3];exact a);unfold bU;rw[yw,kR a,kR b];exact⟨rfl,λj hj=>by simp at hj⟩
  .have b:¬bX r=true:=(by rw[Bl.Tr r hb];simp);have g:¬TL c=true:=(by rw[Bl.Tp c hc];simp);unfold bU;rw[zn,e2,yw,kR g,kR b];exact⟨rfl,λj hj=>by simp at hj⟩
def jc.zv8(i:Nat):yf rs i+bU (s.data.toList.drop (yf rs i))=yf rs (yK rs i):=by
 obtain⟨h1,h2⟩:=E.skip i;rw[h1];unfold yK;rw[E.Zr _ h2]
def jc.zn9(i:Nat):∀f n,rs.length<i+n+f->Zj n ((rs.drop (i+n)).flatMap enc)=fM jY rs i f n/\n<=fM jY rs i f n/\∀j,n<=j->j<fM jY rs i f n->0<=zC rs (i+j)/\zC rs (i+j)<128
 | 0,n,h=>rf
 |f+1,n,h=>by
  rw[fM];by_cases hi:i+n<rs.length
  .rw[Zp hi];rcases (E.To hi).cases with⟨k,a,e,e2⟩|⟨hb,c,u,e2,hc⟩
   .rw[zn,e2,yw,Zj,kr];have a1:=Gx.small ⟨k,a⟩;have a2:=Z1.small ⟨k,a⟩;simp only at a1 a2;by_cases hc:jY (zC rs (i+n)) n=true
    .rw[zl hc,zl (by
      rw[e]at hc;unfold jY at hc;rw[<-a1,<-a2]at hc;simp only[zQ,gj,qP]at hc;exact⟨hc.1,hc.2.imp id (λx=>⟨J,x.2⟩)⟩)]
     have ih:=jc.zn9 i f (n+1) J;exact sq
    .rw[zL hc,zL (by
      intro q;apply hc;rw[e];unfold jY;rw[<-a1,<-a2];simp only[zQ,gj,qP];exact⟨q.1,q.2.imp id (λx=>⟨J,x.2⟩)⟩)]
     exact⟨rfl,X _,λj h1 h2=>J⟩
   .have b1:jY (zC rs (i+n)) n=false:=by
     unfold jY;rw[Gx.Tr _ hb,Z1.Tr _ hb];simp
    rw[zn,e2,yw,Zj,zL (by
     rw[Gx.Tp _ hc,Z1.Tp _ hc];simp),b1]
    exact Ix
  .rw[yq J,QM J];have b1:jY (-1) n=false:=by
    unfold jY;rw[show jV (-1)=false from rfl,show qg (-1)=false from rfl];simp
   rw[b1];exact Ix
def jc.nm(i:Nat):iZ (s.data.toList.drop (yf rs i))=vg rs i/\Small rs i (vg rs i):=by
 rw[E.drop];have:=E.zn9 i (rs.length+1) 0 J;exact sT
def jc.head(i k:Nat)(b:k<128)(c:0<k):((rs.drop i).flatMap enc).headD 0=yW k ↔ zC rs i=(k:Int):=by
 rw[<-E.byte i k b];unfold xN;rw[<-Z2,E.drop];cases (rs.drop i).flatMap enc with
 |nil =>
  simp only[List.headD_nil,Hh];constructor
  .intro h;have:=congrArg UI h;rw[vO,uC J]at this;simp at this;omega
  .intro h;cases h
 |cons a t=>simp
def jc.znz(i:Nat)(c0:UInt8)(b:c0=48 ↔ zC rs i=48):∀f n,rs.length<i+n+f->(2<=n->zC rs i≠48)->Vm c0 n ((rs.drop (i+n)).flatMap enc)=fM (ky (zC rs i)) rs i f n/\n<=fM (ky (zC rs i)) rs i f n /\
   ∀j,n<=j->j<fM (ky (zC rs i)) rs i f n->0<=zC rs (i+j)/\zC rs (i+j)<128
 | 0,n,h,_=>rf
 |f+1,n,h,g=>by
  rw[fM];by_cases hi:i+n<rs.length
  .rw[Zp hi];rcases (E.To hi).cases with⟨k,l,e,e2⟩|⟨hb,c,u,e2,hc⟩
   .rw[zn,e2,yw,Vm,kr];have a2:=Z1.small ⟨k,l⟩;simp only at a2;by_cases hc:ky (zC rs i) (zC rs (i+n)) n=true
    .have a:=hc;rw[e]at a;unfold ky at a;rw[<-a2]at a;simp only[zQ,gj,qP,bne_iff_ne]at a;rw[zl hc,zl (by
      refine⟨a.1.1,a.1.2,λq=>?_⟩;rcases a.2 with q2|q2
      .omega
      .exact q2 (b.1 q.2))]
     have ih:=jc.znz i c0 b f (n+1) J (λh2=>by
      rcases a.2 with q2|q2
      .omega
      .exact q2)
     exact sq
    .rw[zL hc,zL (by
      intro q;apply hc;rw[e];unfold ky;rw[<-a2];simp only[zQ,gj,qP,bne_iff_ne];refine⟨⟨q.1,q.2.1⟩,?_⟩;by_cases hn:n=0
      .exact .inl hn
      .refine .inr λd=>?_
       by_cases h1:n=1
       .exact q.2.2 ⟨h1,b.2 d⟩
       .exact g J d)]
     exact⟨rfl,X _,λj h1 h2=>J⟩
   .have b1:ky (zC rs i) (zC rs (i+n)) n=false:=by
     unfold ky;rw[Z1.Tr _ hb];simp
    rw[zn,e2,yw,Vm,zL (by
     rw[Z1.Tp _ hc];simp),b1]
    exact Ix
  .rw[yq J,QM (i:=i+n) J];have b1:ky (zC rs i) (-1) n=false:=by
    unfold ky;rw[show qg (-1)=false from rfl];simp
   rw[b1];exact Ix
def jc.wh(i:Nat):Ly (s.data.toList.drop (yf rs i))=vL rs i/\Small rs i (vL rs i):=by
 rw[E.drop];have:=E.znz i _ (E.head i 48 J J) (rs.length+1) 0 J (λh=>J);exact sT
def jc.word(W:List Nat)(c:∀k∈W,k<128):∀i,(s.data.toList.drop (yf rs i)).take W.length=W.map yW ↔ (rs.drop i).take W.length=W.map (λk:Nat=>(k:Int)):=by
 induction W with
 |nil=>intro i;simp
 |cons k W e =>
  intro i;have d:=c k xB;have b:=e (λx hx=>c x (yo _ hx)) (i+1);have hb:=E.byte i k d;unfold xN at hb;rw[<-Z2]at hb;by_cases hi:i<rs.length
  .rw[Zp hi];by_cases he:zC rs i=(k:Int)
   .have e2:enc (zC rs i)=[yW k]:=by
     have:=(E.To hi).one J;rw[he]at this|-;exact this
    rw[E.drop,Zp hi,zn,e2,he];rw[E.drop]at b;simp only[yw,kr,zm,qO,ve,List.cons.injEq,true_and];exact b
   .have h1:=λq=>he (hb.1 q)
    constructor
    .intro q;exfalso;apply h1;rw[zm,ve]at q;cases hd:List.drop (yf rs i) s.data.toList with
     |nil=>rw[hd]at q;simp at q
     |cons a t =>
      rw[hd,qO]at q;have:=(lO q).1;rw[this];rfl
    .intro q;rw[zm,ve,qO]at q;exact absurd (lO q).1 he
  .rw[E.drop,yq J];simp
end
def bC:Nat->Wd
 | 0=>CW
 | 1=>CA
 |_=>Ca
variable{m:Mk}{y:Sc}
def iC{s:ByteArray}{x:Sc}{c:UInt8}(h:xN s x.i=some c):xE s x c={ x with i:=x.i+1 }:=zl h
def zv9{s:ByteArray}{x:Sc}{c:UInt8}(h:xN s x.i≠some c):xE s x c=yt x 3 x.i:=zL h
def Tt{s:ByteArray}{x:Sc}{num:Bool}(h:Mj s x.i num=true):xQ s x num=um s { x with i:=x.i+1 }:=zl h
def Th{s:ByteArray}{x:Sc}{num:Bool}(h:¬Mj s x.i num=true):xQ s x num=if num=true/\jy s x.i ∉ fg then yt (uM s x) 3 x.i else uM s x:=zL h
def Tw{s:ByteArray}{x:Sc}{num:Bool}(h:Mj s x.i num=true):qy s x num=61::kl s (x.i+1):=zl h
def Wz{s:ByteArray}{x:Sc}{num:Bool}(h:¬Mj s x.i num=true):qy s x num=jy s x.i:=zL h
def xo(rs:List Int)(i:Nat)(O:List Mk)(st:List Bool):Sc:=⟨yf rs i,O,st,0,0⟩
def Nu(rs:List Int)(i:Nat)(O:List Mk)(st:List Bool):(xo rs i O st).i=yf rs i:=rfl
def Goes(s:ByteArray)(x y:Sc):Prop:=∃n,∀k,qd s (n+k) x=qd s k y
def Goes.refl{s:ByteArray}(x:Sc):Goes s x x:=⟨0,λk=>by rw[V9]⟩
def Goes.trans{s:ByteArray}{x z:Sc}(h:Goes s x y)(g:Goes s y z):Goes s x z:=by
 obtain⟨n,hn⟩:=h;obtain⟨m,hm⟩:=g;exact⟨n+m,λk=>by rw[jo,hn,hm]⟩
def Goes.step{s:ByteArray}{x:Sc}(h:x.err=0)(hi:x.i<s.size):Goes s x (fC s x):=⟨1,λk=>by rw[Nat.add_comm,dn ⟨h,hi⟩]⟩
structure dO(e a:Nat)(x:Sc):Prop where
 err:x.err=e
 ne:e≠0
 pl:x.place=a
def dp(s:ByteArray)(rs:List Int)(x:Sc)(e a:Nat):Prop :=
 a<=rs.length/\∃y,Goes s x y/\(dO e (yf rs a) y\/(y.err=0/\s.size<=y.i/\y.uo≠[]/\e=3/\a=rs.length))
def dp.back{s:ByteArray}{rs:List Int}{x:Sc}{e a:Nat}(h:Goes s x y)(g:dp s rs y e a):dp s rs x e a:=by
 obtain⟨b,z,h1,h2⟩:=g;exact⟨b,z,h.trans h1,h2⟩
def dO.Vo{s:ByteArray}{rs:List Int}{x:Sc}{e a:Nat}(h:dO e (yf rs a) x)(ha:a<=rs.length):dp s rs x e a:=⟨ha,x,.refl _,.inl h⟩
section
variable {e a:Nat} {x:Sc}
def dO.fault(h:dO e a x)(e' a':Nat):dO e a (yt x e' a'):=by
 unfold yt;rw[zL (by rw[h.err];exact h.ne)];exact h
def dO.i(h:dO e a x)(i:Nat):dO e a { x with i:=i }:=⟨h.err,h.ne,h.pl⟩
def dO.out(h:dO e a x)(O:List Mk):dO e a { x with out:=O }:=⟨h.err,h.ne,h.pl⟩
def dO.jm(h:dO e a x)(s:ByteArray):dO e a (yv s x):=⟨h.err,h.ne,h.pl⟩
def dO.Hj(h:dO e a x)(s:ByteArray)(c:UInt8):dO e a (xE s x c):=by
 unfold xE;split
 .exact h.i _
 .exact h.fault _ _
def dO.name(h:dO e a x)(s:ByteArray):dO e a (uM s x):=by
 unfold uM;split
 .exact(h.fault _ _).i _
 .exact h.i _
def dO.whole(h:dO e a x)(s:ByteArray):dO e a (um s x):=by
 unfold um;split
 .exact(h.fault _ _).i _
 .exact h.i _
def dO.branch(h:dO e a x)(s:ByteArray)(num:Bool):dO e a (xw s x num):=by
 unfold xw;rw[zl (by rw[h.err];exact h.ne)];exact h
def dO.br(h:dO e a x)(s:ByteArray)(nm how:Wd)(p:Nat)(num:Bool):dO e a (lC s nm how p num x):=by
 unfold lC;dsimp only;refine dO.branch (dO.out ?_ _) _ _;split
 .exact(((h.i _).jm s).whole s).jm s
 .exact h
end
section
variable {s:ByteArray} {rs:List Int} (E:jc s rs)
include E
def jc.jm(i:Nat)(O:List Mk)(st:List Bool):yv s (xo rs i O st)=xo rs (yK rs i) O st:=by
 unfold yv xo;rw[Sc.mk.injEq];exact⟨E.zv8 i,rfl,rfl,rfl,rfl⟩
def jc.fK{i:Nat}(h:i<=rs.length):yK rs i<=rs.length:=by
 rcases (E.skip i).2.lt with k|k
 .exact k
 .unfold yK;omega
def jc.Hj(i k:Nat)(a:k<128)(O:List Mk)(st:List Bool):(zC rs i=(k:Int)/\i+1<=rs.length/\xE s (xo rs i O st) (yW k)=xo rs (i+1) O st)\/(zC rs i≠(k:Int)/\dO 3 (yf rs i) (xE s (xo rs i O st) (yW k))):=by
 have hb:=E.byte i k a;by_cases h:zC rs i=(k:Int)
 .rw[iC (x:=xo rs i O st) (hb.2 h)];have hs:Small rs i 1:=λj b=>by
   have:j=0:=J;subst this;rw[fD,h];omega
  refine .inl ⟨h,by rcases hs.lt with q|q<;>omega,?_⟩;unfold xo;rw[E.Zr 1 hs]
 .rw[zv9 (x:=xo rs i O st) (λq=>h (hb.1 q))];exact .inr ⟨h,rfl,zj,rfl⟩
omit E in
def bR{i:Nat}(h:zC rs i=(k:Int)):i<rs.length:=by
 apply zi;intro hc;rw[QM J]at h;omega
def jc.Cr{i:Nat}(b:k<128)(h:zC rs i=(k:Int)):yf rs (i+1)=yf rs i+1:=by
 have hs:Small rs i 1:=λj a=>by
  have:j=0:=J;subst this;rw[fD,h];omega
 exact E.Zr 1 hs
def jc.nmT(i:Nat):jy s (yf rs i)=uy rs i (vg rs i):=by
 unfold jy;rw[(E.nm i).1,E.piece (E.nm i).2]
def jc.whT(i:Nat):kl s (yf rs i)=uy rs i (vL rs i):=by
 unfold kl;rw[(E.wh i).1,E.piece (E.wh i).2]
def jc.name{i:Nat}(hi:i<=rs.length)(O:List Mk)(st:List Bool) :
  (vg rs i=0/\jC rs i = .error (3,i)/\dO 3 (yf rs i) (uM s (xo rs i O st))) \/
  (vg rs i≠0/\jC rs i = .ok (uy rs i (vg rs i),i+vg rs i)/\i+vg rs i<=rs.length/\uM s (xo rs i O st)=xo rs (i+vg rs i) O st):=by
 obtain⟨h1,h2⟩:=E.nm i;unfold jC uM;by_cases h:vg rs i=0
 .rw[zl h,zl (by show iZ (s.data.toList.drop (yf rs i))=0;rw[h1,h])];exact .inl ⟨h,rfl,rfl,zj,rfl⟩
 .rw[zL h,zL (by show ¬iZ (s.data.toList.drop (yf rs i))=0;rw[h1];exact h)];refine .inr ⟨h,rfl,by rcases h2.lt with q|q<;>omega,?_⟩;unfold xo;rw[Sc.mk.injEq];refine⟨?_,rfl,rfl,rfl,rfl⟩;rw[E.Zr _ h2];show yf rs i+iZ (s.data.toList.drop (yf rs i))=_;rw[h1]
def jc.whole{i:Nat}(hi:i<=rs.length)(O:List Mk)(st:List Bool) :
  (kF rs i = .error (3,i)/\dO 3 (yf rs i) (um s (xo rs i O st))) \/
  (0<vL rs i/\kF rs i = .ok (uy rs i (vL rs i),i+vL rs i)/\i+vL rs i<=rs.length/\um s (xo rs i O st)=xo rs (i+vL rs i) O st):=by
 obtain⟨h1,h2⟩:=E.wh i;unfold kF um;by_cases h:vL rs i=0
 .rw[zl h,zl (by show Ly (s.data.toList.drop (yf rs i))=0;rw[h1,h])];exact .inl ⟨rfl,rfl,zj,rfl⟩
 .rw[zL h,zL (by show ¬Ly (s.data.toList.drop (yf rs i))=0;rw[h1];exact h)];refine .inr ⟨J,rfl,by rcases h2.lt with q|q<;>omega,?_⟩;unfold xo;rw[Sc.mk.injEq];refine⟨?_,rfl,rfl,rfl,rfl⟩;rw[E.Zr _ h2];show yf rs i+Ly (s.data.toList.drop (yf rs i))=_;rw[h1]
def jc.key(num:Bool){i:Nat}(hi:i<=rs.length)(O:List Mk)(st:List Bool) :
  (∃e a,UC rs num i = .error (e,a)/\a<=rs.length/\dO e (yf rs a) (xQ s (xo rs i O st) num)) \/
  (∃k j,UC rs num i = .ok (k,j)/\i<j/\j<=rs.length/\qy s (xo rs i O st) num=k/\xQ s (xo rs i O st) num=xo rs j O st):=by
 have hb:=E.byte i 61 zj;have he:Mj s (yf rs i) num=true ↔ num=true/\zC rs i=61:=by
  unfold Mj;rw[zQ,qP];exact and_congr_right λ_=>hb
 unfold UC;by_cases h:num=true/\zC rs i=61
 .rw[zl h,Tt (x:=xo rs i O st) (he.2 h),Tw (x:=xo rs i O st) (he.2 h)];have c:=bR (k:=61) h.2;have h1:({ xo rs i O st with i:=yf rs i+1 }:Sc)=xo rs (i+1) O st:=by
   unfold xo;rw[E.Cr (k:=61) zj h.2]
  have h2:yf rs i+1=yf rs (i+1):=(E.Cr (k:=61) zj h.2).symm;rcases E.whole (i:=i+1) J O st with⟨e1,e2⟩|⟨b,e1,e2,e3⟩
  .refine .inl ⟨3,i+1,by rw[e1];rfl,J,?_⟩;show dO _ _ (um s { xo rs i O st with i:=yf rs i+1 });rw[h1];exact e2
  .refine .inr ⟨_,_,by rw[e1];rfl,J,e2,?_,?_⟩
   .show 61::kl s (yf rs i+1)=_;rw[h2,E.whT]
   .show um s { xo rs i O st with i:=yf rs i+1 }=_;rw[h1];exact e3
 .rw[zL h,Th (x:=xo rs i O st) (λq=>h (he.1 q)),Wz (x:=xo rs i O st) (λq=>h (he.1 q)),Nu];have h1:jy s (yf rs i)=uy rs i (vg rs i):=E.nmT i;rw[h1];rcases E.name hi O st with⟨b,e1,e2⟩|⟨b,e1,e2,e3⟩
  .refine .inl ⟨3,i,by rw[e1];rfl,hi,?_⟩;split
   .exact e2.fault _ _
   .exact e2
  .rw[e1,then_ok,e3];by_cases hc:num=true/\uy rs i (vg rs i) ∉ fg
   .rw[zl hc,zl hc];exact .inl ⟨3,i,rfl,hi,rfl,zj,rfl⟩
   .rw[zL hc,zL hc];exact .inr ⟨_,_,rfl,J,e2,rfl,rfl⟩
end
def zu(rs:List Int):Fo->List Mk
 |.nil=>[]
 |.text t r=>⟨116,t,[],[],[],0⟩::zu rs r
 |.hash r=>⟨35,[],[],[],[],0⟩::zu rs r
 |.put n a r=>⟨112,[],n,[],[],yf rs a⟩::zu rs r
 |.num n a r=>⟨110,[],n,UE,[],yf rs a⟩::zu rs r
 |.br n a f o c bs r=>⟨40,[],n,bC f,o,yf rs a⟩::(zu rs bs++⟨41,[],[],[],[],yf rs c⟩::zu rs r)
 |.uB k a m r=>⟨91,k,[],[],[],yf rs a⟩::(zu rs m++⟨93,[],[],[],[],0⟩::zu rs r)
def Yw(rs:List Int):∀f g:Fo,zu rs (f.app g)=zu rs f++zu rs g
 |.nil,g=>rfl
 |.text t r,g=>Ju
 |.hash r,g=>Ju
 |.put n a r,g=>Ju
 |.num n a r,g=>Ju
 |.br n a f o c b r,g=>Ju
 |.uB k a m r,g=>Ju
def bQ(O:List Mk):Prop:=∀m,O.getLast? = some m->m.kind≠116
def bQ.snoc(O:List Mk)(h:m.kind≠116):bQ (O++[m]):=λx hx=>by
 rw[Uo]at hx;cases hx;exact h
def YS(O:List Mk)(t:Wd):List Mk :=
 if t=[]then O else match O.getLast? with
 |none=>O++[⟨116,t,[],[],[],0⟩]
 |some m=>if m.kind=116 then O.dropLast++[{ m with text:=m.text++t }]else O++[⟨116,t,[],[],[],0⟩]
def Vp(x:Sc)(t:Wd):kx x t={ x with out:=YS x.out t }:=by
 unfold kx YS;by_cases h:t=[]
 .rw[zl h,zl h]
 .rw[zL h,zL h];cases x.out.getLast? with
  |none=>rfl
  |some m =>
   dsimp only;split<;>rfl
def Wy{O:List Mk}(h:bQ O){t:Wd}(b:t≠[]):YS O t=O++[⟨116,t,[],[],[],0⟩]:=by
 unfold YS;rw[zL b];cases a:O.getLast? with
 |none=>rfl
 |some m=>exact zL (h m a)
def Gv(O:List Mk)(u t:Wd)(a:t≠[]):YS (O++[⟨116,u,[],[],[],0⟩]) t=O++[⟨116,u++t,[],[],[],0⟩]:=by
 unfold YS;rw[zL a,Uo];dsimp only;rw[zl rfl,ag]
def Pq(O:List Mk)(a b:Wd):YS (YS O a) b=YS O (a++b):=by
 by_cases ha:a=[]
 .subst ha;rfl
 by_cases hb:b=[]
 .subst hb;rw[vu];rfl
 have c:a++b≠[]:=by simp[ha]
 have h1:YS O a=(match O.getLast? with
  |none=>O++[⟨116,a,[],[],[],0⟩]
  |some m=>if m.kind=116 then O.dropLast++[{ m with text:=m.text++a }]else O++[⟨116,a,[],[],[],0⟩]):=zL ha
 have h2:YS O (a++b)=(match O.getLast? with
  |none=>O++[⟨116,a++b,[],[],[],0⟩]
  |some m=>if m.kind=116 then O.dropLast++[{ m with text:=m.text++(a++b) }]else O++[⟨116,a++b,[],[],[],0⟩]):=zL c
 rw[h1,h2];cases O.getLast? with
 |none=>exact Gv _ _ _ hb
 |some m =>
  dsimp only;by_cases hm:m.kind=116
  .rw[zl hm,zl hm];unfold YS;rw[zL hb,Uo];dsimp only;rw[zl hm,ag,vv]
  .rw[zL hm,zL hm];exact Gv _ _ _ hb
def qA(rs:List Int)(t:Wd)(b:t≠[]):∀(f:Fo) (A:List Mk),(f = .nil->bQ A)->YS (A++zu rs f) t=A++zu rs (f.xV t)
 |.nil,A,h=>by
  rw[zu,vu,Wy (h rfl) b];rfl
 |.text u .nil,A,h=>Gv A u t b
 |.text u (.text v r),A,h=>by
  have:=qA rs t b (.text v r) (A++[⟨116,u,[],[],[],0⟩]) (λe=>gU);exact Vb
 |.text u (.hash r),A,h=>by
  have:=qA rs t b (.hash r) (A++[⟨116,u,[],[],[],0⟩]) (λe=>gU);exact Vb
 |.text u (.put n a r),A,h=>by
  have:=qA rs t b (.put n a r) (A++[⟨116,u,[],[],[],0⟩]) (λe=>gU);exact Vb
 |.text u (.num n a r),A,h=>by
  have:=qA rs t b (.num n a r) (A++[⟨116,u,[],[],[],0⟩]) (λe=>gU);exact Vb
 |.text u (.br n a f o c d r),A,h=>by
  have:=qA rs t b (.br n a f o c d r) (A++[⟨116,u,[],[],[],0⟩]) (λe=>gU);exact Vb
 |.text u (.uB k a m r),A,h=>by
  have:=qA rs t b (.uB k a m r) (A++[⟨116,u,[],[],[],0⟩]) (λe=>gU);exact Vb
 |.hash r,A,h=>by
  have:=qA rs t b r (A++[⟨35,[],[],[],[],0⟩]) (λ_=>bQ.snoc A (by show 35≠116;decide));exact Vb
 |.put n a r,A,h=>by
  have:=qA rs t b r (A++[⟨112,[],n,[],[],yf rs a⟩]) (λ_=>bQ.snoc A (by show 112≠116;decide));exact Vb
 |.num n a r,A,h=>by
  have:=qA rs t b r (A++[⟨110,[],n,UE,[],yf rs a⟩]) (λ_=>bQ.snoc A (by show 110≠116;decide));exact Vb
 |.br n a f o c d r,A,h=>by
  have:=qA rs t b r ((A++⟨40,[],n,bC f,o,yf rs a⟩::zu rs d)++[⟨41,[],[],[],[],yf rs c⟩]) (λ_=>bQ.snoc _ (by show 41≠116;decide));exact Vb
 |.uB k a m r,A,h=>by
  have:=qA rs t b r ((A++⟨91,k,[],[],[],yf rs a⟩::zu rs m)++[⟨93,[],[],[],[],0⟩]) (λ_=>bQ.snoc _ (by show 93≠116;decide));exact Vb
def zvz(s:ByteArray):∀(u rest:Wd) (x:Sc),x.err=0->s.data.toList.drop x.i=u++rest->(∀c∈u,128<=c.toNat)->Goes s x { x with i:=x.i+u.length,out:=YS x.out u }
 |[],rest,x,_,_,_=>Goes.refl x
 |c::u,rest,x,f,hd,hb=>by
  have e:x.i<s.size:=by
   apply zi;intro hc;rw[yq zV]at hd;simp at hd
  have b:xN s x.i=some c:=by
   unfold xN;rw[<-Z2,hd];rfl
  have hc:128<=c.toNat:=hb c xB;have g:c≠39:=λq=>IZ
  have h:c≠123:=λq=>IZ
  have j:c≠125:=λq=>IZ
  have k:c≠35:=λq=>IZ
  have h1:fC s x={ x with i:=x.i+1,out:=YS x.out [c] }:=by
   unfold fC;rw[b];dsimp only;unfold XE;rw[zL g,zL h,zL j,zL (λq=>k q.1),Vp]
  have h2:=zvz s u rest { x with i:=x.i+1,out:=YS x.out [c] } f (by
   show s.data.toList.drop (x.i+1)=_;rw[<-Vt,hd];exact xK) (λd hd=>hb d (yo _ hd))
  have a:=(h1▸Goes.step f e:Goes s x { x with i:=x.i+1,out:=YS x.out [c] }).trans h2;dsimp only at a;rw[Pq]at a;rw[zm,show x.i+(u.length+1)=x.i+1+u.length by omega];exact a
def Gu:∀t:List Int,(yV t).2<=t.length
 |[]=>X _
 |c::t=>by
  rw[yV.eq_def];dsimp only;by_cases h:c=39
  .rw[zl h];cases t with
   |nil=>exact X _
   |cons d u =>
    dsimp only;have:=Gu u;split
    .simp;omega
    .simp
  .rw[zL h];have:=Gu t;simp;omega
def Hg:∀(g t:List Int),(∀r∈g,r≠39)->yV (g++t)=(g++(yV t).1,g.length+(yV t).2)
 |[],t,_=>zY
 |r::g,t,h=>by
  have a:=Hg g t (λx hx=>h x (yo _ hx));have hr:r≠39:=h r xB;rw[yw,yV.eq_def];dsimp only;rw[zL hr,a];simp only[yw,zm];rw[show g.length+(yV t).2+1=g.length+1+(yV t).2 by omega]
def Bm(h:Tn r)(hr:r=39):enc r=[39]:=by
 rw[h.one J,hr];rfl
def zny(h:Tn r)(hr:r≠39):∀c∈enc r,c≠39:=by
 intro c hc q;by_cases hs:r<128
 .rw[h.one hs]at hc;have:=h.pos;rw[uG]at hc;have h2:=congrArg UI (hc.symm.trans q);rw[vO,uC J]at h2;have h3:(39:UInt8).toNat=39:=rfl;omega
 .have:=(h.big J).2 c hc;rw[q]at this;revert this
  decide
def Gs:∀(n:Nat) (t:List Int) (k:Sc),(∀r∈t,Tn r)->(t.flatMap enc).length<n ->
  gJ n (t.flatMap enc) k={ k with i:=k.i+((t.take (yV t).2).flatMap enc).length,out:=YS k.out ((yV t).1.flatMap enc) }
 | 0,t,k,_,h=>absurd h (uf _)
 |n+1,t,k,j,hn=>by
  obtain⟨g,u,rfl,B,D⟩:∃g u,t=g++u/\(∀r∈g,r≠39)/\(u=[]\/∃v,u=39::v):=by
   refine⟨t.takeWhile (λr=>r !=39),t.dropWhile (λr=>r !=39),List.takeWhile_append_dropWhile.symm,λr hr=>?_,?_⟩
   .have:=List.all_takeWhile (l:=t) (p:=λr:Int=>r !=39);rw[Yl]at this;simpa using this r hr
   .cases hd:t.dropWhile (λr=>r !=39) with
    |nil=>exact .inl rfl
    |cons a v =>
     refine .inr ⟨v,?_⟩;have:=List.head?_dropWhile_not (λr:Int=>r !=39) t;rw[hd]at this;simp at this;rw[this]
  have x:∀c∈g.flatMap enc,c≠39:=λc hc=>by
   obtain⟨r,hr,hc⟩:=List.mem_flatMap.1 hc;exact zny (j r (List.mem_append_left _ hr)) (B r hr) c hc
  have b:(g.flatMap enc++u.flatMap enc).idxOf 39=(g.flatMap enc).length+(u.flatMap enc).idxOf 39:=by
   rw[List.idxOf_append,zL (λq=>x 39 q rfl),Nat.add_comm]
  rw[Hg g u B];rw[xh]at hn|-;unfold gJ;dsimp only;rcases D with rfl|⟨v,rfl⟩
  .have C:(yV [])=([],0):=rfl;rw[Xn,vu,show List.idxOf (39:UInt8) []=0 from rfl,fD]at b;rw[C,Xn,vu,b];dsimp only;rw[zL (yO _),kp,fD,vu,kp,Vp]
  .have e:=Bm (j 39 zY) rfl;have e1:((39:Int)::v).flatMap enc=39::v.flatMap enc:=(by rw[zn,e];rfl);rw[e1]at b hn|-;have e2:((39:UInt8)::v.flatMap enc).idxOf 39=0:=zY;rw[e2,fD]at b;rw[b];have e3:(g.flatMap enc++39::v.flatMap enc).take (g.flatMap enc).length=g.flatMap enc:=Hw;have e4:(g.flatMap enc++39::v.flatMap enc).drop ((g.flatMap enc).length+1)=v.flatMap enc:=by
    rw[<-Vt,Ht];rfl
   rw[zl zY,e3,e4];cases v with
   |nil =>
    have m:yV [39]=([],1):=rfl;rw[m];simp only[Xn,Hh,vu];have o:(g++[39]).take (g.length+1)=g++[39]:=xJ zY;rw[zL zY,Vp,o,xh,zn,e];simp[jo]
   |cons d w =>
    have hd:=j d zY;have f:((d::w).flatMap enc).head? = some 39 ↔ d=39:=by
     constructor
     .intro q;apply zi;intro z;rw[zn]at q;cases he:enc d with
      |nil=>exact hd.ne he
      |cons c y =>
       rw[he]at q;simp at q;exact zny hd z c (by rw[he];exact xB) q
     .intro q;rw[zn,Bm hd q];rfl
    by_cases s:d=39
    .rw[zl (f.2 s)];subst s;have m:yV (39::39::w)=(39::(yV w).1,(yV w).2+2):=by
      rw[yV.eq_def];dsimp only;rw[zl rfl,zl rfl]
     have A:((39:Int)::w).flatMap enc=39::w.flatMap enc:=(by rw[zn,e];rfl);rw[m,A,List.tail_cons];rw[A]at hn;simp only[zI,zm]at hn;rw[Gs n w _ (λr hr=>j r (by simp[hr])) J];have o:(g++39::39::w).take (g.length+((yV w).2+2))=g++39::39::w.take (yV w).2:=by
      rw[zk6,xJ J];congr 1;rw[show g.length+((yV w).2+2) - g.length=(yV w).2+2 by omega];rfl
     rw[o];simp only[Vp,Pq,xh,zn,e,zI,zm,ur,vv,yw,kr];rw[Sc.mk.injEq];refine⟨J,?_,rfl,rfl,rfl⟩;simp[vv]
    .rw[zL (λq=>s (f.1 q))];have m:yV (39::d::w)=([],1):=by
      rw[yV.eq_def];dsimp only;rw[zl rfl,zL s]
     have o:(g++39::d::w).take (g.length+1)=g++[39]:=by
      rw[zk6,xJ J];congr 1;rw[show g.length+1 - g.length=1 by omega];rfl
     rw[m,o];simp[Vp,xh,zn,e,jo]
section
variable {s:ByteArray} {rs:List Int} (E:jc s rs)
include E
def zc7{num:Bool}{i:Nat}(h:zC rs i≠39):uU rs num i=(enc (zC rs i),i+1):=zl h
omit E in
def zc8{num:Bool}{i:Nat}(h:zC rs i=39)(h2:zC rs (i+1)=39):uU rs num i=(enc 39,i+2):=by
 unfold uU;rw[zL (λq=>q h),zl h2]
omit E in
def zc9{num:Bool}{i:Nat}(h:zC rs i=39)(h2:zC rs (i+1)≠39)(a:kG (zC rs (i+1)) num=false):uU rs num i=(enc 39,i+1):=by
 unfold uU;rw[zL (λq=>q h),zL h2,zl a]
omit E in
def zcz{num:Bool}{i:Nat}(h:zC rs i=39)(h2:zC rs (i+1)≠39)(a:¬kG (zC rs (i+1)) num=false):uU rs num i=((yV (rs.drop (i+1))).1.flatMap enc,i+1+(yV (rs.drop (i+1))).2):=by
 unfold uU;rw[zL (λq=>q h),zL h2,zL a]
def jc.text{i:Nat}(num:Bool)(O:List Mk)(st:List Bool)(p:st.getLast?.getD false=num)(hi:i<rs.length)(h2:zC rs i≠125)(H:zC rs i≠123)(I:¬(zC rs i=35/\num=true)) :
  Goes s (xo rs i O st) (xo rs (uU rs num i).2 (YS O (uU rs num i).1) st)/\(uU rs num i).1≠[]/\i<(uU rs num i).2/\(uU rs num i).2<=rs.length:=by
 have n:=E.lts hi;have j:(xo rs i O st).i<s.size:=n;have o:QE (xo rs i O st)=num:=p;have g:=Goes.step (s:=s) (x:=xo rs i O st) rfl n;refine⟨?_,?_,VO rs num i,?_⟩
 .by_cases a:zC rs i=39
  .have hb:xN s (xo rs i O st).i=some 39:=(E.byte i 39 zj).2 a;have D:fC s (xo rs i O st)=Mf s (xo rs i O st) num:=by
    unfold fC;rw[hb];dsimp only;unfold XE;rw[zl rfl,o]
   rw[D]at g;refine g.trans ?_;have v:yf rs i+1=yf rs (i+1):=(E.Cr (k:=39) zj a).symm;have hr:s.data.toList.drop ((xo rs i O st).i+1)=(rs.drop (i+1)).flatMap enc:=(by rw[Nu,v,E.drop]);have hd:∀k,k<128->(((rs.drop (i+1)).flatMap enc).head? = some (yW k) ↔ zC rs (i+1)=(k:Int)):=λk r=>by
    have:=E.byte (i+1) k r;unfold xN at this;rw[<-Z2,E.drop]at this;exact this
   unfold Mf;dsimp only;rw[hr];have f:ZG ((rs.drop (i+1)).flatMap enc) num=true ↔ zC rs (i+1)≠39/\kG (zC rs (i+1)) num=false:=by
    have d1:=hd 39 zj;have d2:=hd 123 zj;have d3:=hd 125 zj;have d4:=hd 35 zj;have F:kG (zC rs (i+1)) num=false ↔ zC rs (i+1)≠123/\zC rs (i+1)≠125/\¬(zC rs (i+1)=35/\num=true):=by
     unfold kG;cases num<;>simp
    rw[F];cases G:(rs.drop (i+1)).flatMap enc with
    |nil =>
     rw[G]at d1 d2 d3 d4;exact⟨λ_=>⟨λq=>(by cases d1.2 q),λq=>(by cases d2.2 q),λq=>(by cases d3.2 q),λq=>(by cases d4.2 q.1)⟩,λ_=>rfl⟩
    |cons c t =>
     rw[G]at d1 d2 d3 d4;simp only[ZR,vw]at d1 d2 d3 d4;unfold ZG;simp only[zQ,gj,bne_iff_ne,ne_eq,ypz,Bool.not_eq_eq_eq_not,Bool.not_true];have w:c=39 ↔ zC rs (i+1)=39:=d1;have y:c=123 ↔ zC rs (i+1)=123:=d2;have z:c=125 ↔ zC rs (i+1)=125:=d3;have A:c=35 ↔ zC rs (i+1)=35:=d4;rw[w,y,z,A];cases num<;>simp
   by_cases hA:zC rs (i+1)=39
   .have K:yf rs i+2=yf rs (i+2):=by
     have q:yf rs (i+2)=yf rs (i+1)+1:=E.Cr (i:=i+1) (k:=39) zj hA;rw[q,<-v]
    have b:=Bm (E.To (bR (k:=39) hA)) hA;rw[hA]at b;rw[zc8 a hA,zL (λq=>(f.1 q).1 hA),zl (show((rs.drop (i+1)).flatMap enc).head? = some 39 from(hd 39 zj).2 hA),Vp,b];unfold xo;rw[K];exact .refl _
   .have b:=Bm (E.To hi) a;rw[a]at b;by_cases hB:kG (zC rs (i+1)) num=false
    .rw[zc9 a hA hB,zl (f.2 ⟨hA,hB⟩),Vp,b];unfold xo;rw[v];exact .refl _
    .rw[zcz a hA hB,zL (λq=>hB (f.1 q).2),zL (show ¬((rs.drop (i+1)).flatMap enc).head? = some 39 from λq=>hA ((hd 39 zj).1 q)),Gs _ _ _ (E.At) (xf _)];unfold xo;dsimp only;rw[v];have L:yf rs (i+1)+(((rs.drop (i+1)).take (yV (rs.drop (i+1))).2).flatMap enc).length=yf rs (i+1+(yV (rs.drop (i+1))).2):=by
      have e:rs.take (i+1+(yV (rs.drop (i+1))).2)=rs.take (i+1)++(rs.drop (i+1)).take (yV (rs.drop (i+1))).2:=(by rw[Kn]);unfold yf;rw[e,xh,zI]
     rw[L];exact .refl _
  .rw[zc7 a];rcases (E.To hi).cases with⟨k,r,e,e2⟩|⟨hb,c,u,e2,hc⟩
   .have C:xN s (xo rs i O st).i=some (yW k):=(E.byte i k r).2 e;have l:∀m:Nat,m<128->(yW k=yW m ↔ k=m):=λm hm=>by
     constructor
     .intro q;have:=congrArg UI q;rw[vO,vO,uC J,uC J]at this;exact this
     .intro q;rw[q]
    have D:fC s (xo rs i O st)=xo rs (i+1) (YS O (enc (zC rs i))) st:=by
     unfold fC;rw[C];dsimp only;unfold XE;rw[zL (λq=>a (by have:=(l 39 zj).1 q;omega)),zL (λq=>H (by have:=(l 123 zj).1 q;omega)),zL (λq=>h2 (by have:=(l 125 zj).1 q;omega)),
      zL (λq=>I ⟨by have:=(l 35 zj).1 q.1;omega,by rw[<-o];exact q.2⟩),Vp,e2]
     unfold xo;rw[E.Cr r e]
    rw[<-D];exact g
   .have B:∀d∈enc (zC rs i),128<=d.toNat:=((E.To hi).big hb).2;have:=zvz s (enc (zC rs i)) ((rs.drop (i+1)).flatMap enc) (xo rs i O st) rfl (by rw[Nu,E.drop,Zp hi,zn]) B;unfold xo at this|-;rw[Gy hi];exact this
 .unfold uU;split
  .exact(E.To hi).ne
  next a =>
  have a:zC rs i=39:=Mp.1 a;have b:=Bm (E.To hi) a;rw[a]at b;split
  .rw[b];simp
  split
  .rw[b];simp
  next hA hB =>
  have j:i+1<rs.length:=by
   apply zi;intro hc;rw[QM J]at hB;cases num<;>exact hB rfl
  show(yV (rs.drop (i+1))).1.flatMap enc≠[];rw[Zp j,yV.eq_def];dsimp only;rw[zL hA];simp only[zn];intro q;exact(E.To j).ne (ir.1 q).1
 .unfold uU;split
  .exact hi
  split
  .next h=>have:=bR (k:=39) h;show i+2<=_;omega
  split
  .exact hi
  .have:=Gu (rs.drop (i+1));simp only[xz]at this;show i+1+_<=_;omega
end
variable{st:List Bool}{sub:Option jK}{Yk x:Sc}
def Bn(s:ByteArray)(num:Bool)(Yk:Sc):Sc :=
 if xN s Yk.i=some 125 then { Yk with out:=Yk.out++[⟨41,[],[],[],[],Yk.i⟩],i:=Yk.i+1 }else xw s Yk num
def Wx{s:ByteArray}{num:Bool}(h:xN s Yk.i=some 125):Bn s num Yk={ Yk with out:=Yk.out++[⟨41,[],[],[],[],Yk.i⟩],i:=Yk.i+1 }:=zl h
def Wv{s:ByteArray}{num:Bool}(h:¬xN s Yk.i=some 125):Bn s num Yk=xw s Yk num:=zL h
def Wu{s:ByteArray}{U:Sc}{num:Bool}(a:x.err=0)(c:xE s (yv s (xQ s x num)) 123=Yk)(b:(if 6<Yk.uo.length+2 then yt Yk 4 (yv s (xQ s x num)).i else Yk)=U) :
  xw s x num={ U with uo:=U.uo++[num],out:=U.out++[⟨91,qy s x num,[],[],[],x.i⟩] }:=by
 subst c;subst b;unfold xw;rw[zL (λq=>q a)]
def dO.uo{e a:Nat}(h:dO e a x)(O:List Mk)(st:List Bool):dO e a { x with uo:=st,out:=O }:=⟨h.err,h.ne,h.pl⟩
def Pk(s:ByteArray)(x:Sc):fQ s x=Bn s (QE x) (yv s { x with uo:=x.uo.dropLast }):=rfl
def zvy(s:ByteArray)(rs:List Int)(m:jK)(d:Nat):Prop :=
 ∀(num:Bool) (i:Nat) (O:List Mk) (st:List Bool),st.length=d->st.getLast?.getD false=num->bQ O->i<=rs.length ->
  match m num i with
  |.error (e,a)=>dp s rs (xo rs i O st) e a
  |.ok (f,j)=>Goes s (xo rs i O st) (xo rs j (O++zu rs f) st)/\i<=j/\j<=rs.length/\(zC rs j = -1\/zC rs j=125)
structure Wq(s:ByteArray)(rs:List Int)(sub:Option jK)(d:Nat):Prop where
 no:sub=none->6<d+2
 yes:∀m,sub=some m->¬6<d+2/\zvy s rs m (d+1)
section
variable {s:ByteArray} {rs:List Int} (E:jc s rs)
include E
def jc.neg{i:Nat}(hi:i<=rs.length)(h:zC rs i = -1):i=rs.length:=by
 apply zi;intro hc;have:=(E.To (i:=i) J).pos;omega
def jc.uB(hS:Wq s rs sub st.length)(num:Bool){i:Nat}(hi:i<=rs.length)(O:List Mk) :
  match Xu rs sub num i with
  |.error (e,a)=>dp s rs (xw s (xo rs i O st) num) e a
  |.ok (f,j)=>f.len=1/\Goes s (xw s (xo rs i O st) num) (Bn s num (xo rs j (O++zu rs f) st))/\i<j/\j<=rs.length:=by
 obtain⟨Yk,g⟩:=zo (xE s (yv s (xQ s (xo rs i O st) num)) 123);obtain⟨U,d⟩:=zo ((if 6<Yk.uo.length+2 then yt Yk 4 (yv s (xQ s (xo rs i O st) num)).i else Yk));have hB:xw s (xo rs i O st) num=_:=Wu rfl g d;have c:∀e a,dO e a Yk->dO e a (xw s (xo rs i O st) num):=λe a h=>by
  rw[hB];refine dO.uo ?_ _ _;rw[<-d];split
  .exact h.fault _ _
  .exact h
 unfold Xu;rcases E.key num hi O st with⟨e,a,h1,h2,p⟩|⟨k,j,h1,h2,p,A,B⟩
 .rw[h1,qq];refine dO.Vo (c _ _ ?_) h2;rw[<-g];exact(p.jm s).Hj s _
 .rw[h1,then_ok];rw[B,E.jm]at g d;have n:=E.fK p;have D:=yl rs j;rcases E.Hj (yK rs j) 123 zj O st with⟨v,F,w⟩|⟨v,w⟩
  .have t:Yk=xo rs (yK rs j+1) O st:=(by rw[<-g];exact w);subst t;rw[show vR rs 123 (yK rs j) = .ok ((),yK rs j+1)from zl v,then_ok];cases sub with
   |none =>
    refine dO.Vo (a:=yK rs j) ?_ n;rw[hB];refine dO.uo ?_ _ _;rw[<-d,zl (show 6<(xo rs (yK rs j+1) O st).uo.length+2 from hS.no rfl)];exact⟨rfl,zj,rfl⟩
   |some m =>
    obtain⟨y1,y2⟩:=hS.yes m rfl;rw[zL (show ¬6<(xo rs (yK rs j+1) O st).uo.length+2 from y1)]at d;rw[<-d,A]at hB;have r:xw s (xo rs i O st) num=xo rs (yK rs j+1) (O++[⟨91,k,[],[],[],yf rs i⟩]) (st++[num]):=hB;rw[r];have hm:=y2 num (yK rs j+1) (O++[⟨91,k,[],[],[],yf rs i⟩]) (st++[num]) zY zY (bQ.snoc O (by show 91≠116;decide)) F;show(match (m num (yK rs j+1)).then (λf q=>(vR rs 125 q).then λ_ z=>(.ok (Fo.uB k i f .nil,yK rs z):qL Fo)) with
     |.error (e,a)=>_
     |.ok (f,j)=>_)
    cases l:m num (yK rs j+1) with
    |error e =>
     rw[l]at hm;exact hm
    |ok x =>
     obtain⟨f,q⟩:=x;rw[l]at hm;obtain⟨g1,g2,y,b⟩:=hm;rw[then_ok];rcases b with b|b
     .have o:=E.neg y b;rw[show vR rs 125 q = .error (3,q)from zL (by rw[b];decide),qq];refine⟨y,_,g1,.inr ⟨rfl,?_,by simp[xo],rfl,o⟩⟩;show s.size<=yf rs q;rw[E.size,o];exact VX
     .have o:=bR (k:=125) b;rw[show vR rs 125 q = .ok ((),q+1)from zl b,then_ok];refine⟨rfl,?_,by have:=yl rs (q+1);omega,E.fK J⟩;refine g1.trans ((Goes.step rfl (E.lts o)).trans ?_);have u:xN s (xo rs q (O++[⟨91,k,[],[],[],yf rs i⟩]++zu rs f) (st++[num])).i=some 125:=(E.byte q 125 zj).2 b;have C:fC s (xo rs q (O++[⟨91,k,[],[],[],yf rs i⟩]++zu rs f) (st++[num]))=Bn s num (xo rs (yK rs (q+1)) (O++zu rs (.uB k i f .nil)) st):=by
       unfold fC;rw[u];dsimp only;unfold XE;rw[zL zj,zL zj,zl rfl,zL (by simp[xo]),Pk];have e1:QE { xo rs q (O++[⟨91,k,[],[],[],yf rs i⟩]++zu rs f) (st++[num])with i:=(xo rs q (O++[⟨91,k,[],[],[],yf rs i⟩]++zu rs f) (st++[num])).i+1,out:=(xo rs q (O++[⟨91,k,[],[],[],yf rs i⟩]++zu rs f) (st++[num])).out++[⟨93,[],[],[],[],0⟩] }=num:=by
        unfold QE xo;simp
       rw[e1];congr 1;have e2:=E.jm (q+1) (O++zu rs (.uB k i f .nil)) st;rw[<-e2];congr 1;unfold xo;dsimp only;rw[Sc.mk.injEq];refine⟨(E.Cr (k:=125) zj b).symm,?_,zY,rfl,rfl⟩;simp[zu]
      rw[C];exact .refl _
  .rw[show vR rs 123 (yK rs j) = .error (3,yK rs j)from zL v,qq];refine dO.Vo (c _ _ ?_) n;rw[<-g];exact w
def jc.TF(hS:Wq s rs sub st.length)(num:Bool)(O:List Mk):∀(n:Nat) (acc:Fo) (i:Nat) (c:Sc),i<=rs.length->rs.length<i+n ->
  ((acc = .nil/\c=xw s (xo rs i O st) num)\/(acc.len≠0/\c=Bn s num (xo rs i (O++zu rs acc) st))) ->
  match jX rs sub num n acc i with
  |.error (e,a)=>dp s rs c e a
  |.ok (m,q)=>zC rs q=125/\Goes s c (xo rs (q+1) (O++zu rs m++[⟨41,[],[],[],[],yf rs q⟩]) st)/\i<=q/\q+1<=rs.length
 | 0,acc,i,c,hi,hn,_=>J
 |n+1,acc,i,c,hi,hn,o=>by
  rw[jX];by_cases hc:zC rs i=125/\acc.len≠0
  .rw[zl hc];have h:=bR (k:=125) hc.1;rcases o with⟨rfl,_⟩|⟨_,rfl⟩
   .exact absurd rfl hc.2
   .refine⟨hc.1,?_,X _,h⟩;rw[Wx (Yk:=xo rs i (O++zu rs acc) st) ((E.byte i 125 zj).2 hc.1)];unfold xo;dsimp only;rw[E.Cr (k:=125) zj hc.1];exact .refl _
  .rw[zL hc];have l:c=xw s (xo rs i (O++zu rs acc) st) num:=by
    rcases o with⟨rfl,rfl⟩|⟨r,rfl⟩
    .rw[zu,vu]
    .exact Wv (Yk:=xo rs i (O++zu rs acc) st) (λq=>hc ⟨(E.byte i 125 zj).1 q,r⟩)
   subst l;have g:=E.uB hS num hi (O++zu rs acc);cases h:Xu rs sub num i with
   |error e =>
    rw[h]at g;rw[qq];exact g
   |ok x =>
    obtain⟨f,j⟩:=x;rw[h]at g;obtain⟨g0,g1,g2,p⟩:=g;rw[then_ok];have b:=jc.TF hS num O n (acc.app f) j (Bn s num (xo rs j (O++zu rs (acc.app f)) st)) p J (.inr ⟨by rw[Fo.jZ];omega,rfl⟩);rw[Yw,<-vv]at b;cases d:jX rs sub num n (acc.app f) j with
    |error e =>
     rw[d]at b;exact dp.back g1 b
    |ok x =>
     obtain⟨m,q⟩:=x;rw[d]at b;exact⟨b.1,g1.trans b.2.1,by have:=b.2.2.1;omega,b.2.2.2⟩
end
def Pj(w:Wd):(qf jH w=0/\w=UE)\/(w≠UE/\∃f,Xa w=some f/\f<3/\bC f=w/\0<qf jH w/\(decide (qf jH w<3))=decide (f≠0))\/(w≠UE/\Xa w=none/\qf jH w<0):=by
 by_cases a:w=UE
 .subst a;exact .inl ⟨zj,rfl⟩
 refine .inr ?_;by_cases h1:w=CW
 .subst h1;exact .inl ⟨a,0,zj,zj,rfl,zj,zj⟩
 by_cases h2:w=CA
 .subst h2;exact .inl ⟨a,1,zj,zj,rfl,zj,zj⟩
 by_cases b:w=Ca
 .subst b;exact .inl ⟨a,2,zj,zj,rfl,zj,zj⟩
 refine .inr ⟨a,?_,?_⟩
 .unfold Xa;rw[zL h1,zL h2,zL b]
 .unfold qf;have hn:w ∉ jH:=by
   intro q;have:w=UE\/w=CA\/w=Ca\/w=CW:=(by simpa[jH,UE,CA,Ca,CW]using q);rcases this with q|q|q|q<;>contradiction
  rw[zL (λq=>hn (UJ.1 q))];decide
section
variable {s:ByteArray} {rs:List Int} (E:jc s rs)
include E
def jc.xvq(i:Nat):dm s (yf rs i)=KG rs i:=by
 unfold dm KG;have:=E.word [111,102,102,115,101,116,58] zj i;rw[decide_eq_decide];exact this
omit E in
def zcy{i:Nat}(h:KG rs i=true):Small rs i 7:=by
 unfold KG at h;rw[qP]at h;intro j a;have h2:zC rs (i+j)=Bf.getD j (-1):=by
  unfold zC;rw[zM,<-MM,<-h,zM,List.getElem?_take,zl a]
 rw[h2];have:∀j:Fin 7,0<=Bf.getD j.1 (-1)/\Bf.getD j.1 (-1)<128:=zj;exact this ⟨j,a⟩
def jc.brs(hS:Wq s rs sub st.length){form a:Nat}(nm:Wd)(ha:form<3){i:Nat}(hi:i<=rs.length)(O:List Mk) :
  match (FY rs form i).then λo l=>(jX rs sub (decide (form≠0)) (rs.length+1) .nil l).then λd q=>(vR rs 125 q).then λ_ z=>(.ok (Fo.br nm a form o q d .nil,z):qL Fo) with
  |.error (e,p)=>dp s rs (lC s nm (bC form) (yf rs a) (decide (form≠0)) (xo rs i O st)) e p
  |.ok (f,j)=>Goes s (lC s nm (bC form) (yf rs a) (decide (form≠0)) (xo rs i O st)) (xo rs j (O++zu rs f) st)/\i<j/\j<=rs.length:=by
 have tl:∀(o:Wd) (l:Nat),l<=rs.length->i<=l ->
   match (jX rs sub (decide (form≠0)) (rs.length+1) .nil l).then λd q=>(vR rs 125 q).then λ_ z=>(.ok (Fo.br nm a form o q d .nil,z):qL Fo) with
   |.error (e,p)=>dp s rs (xw s (xo rs l (O++[⟨40,[],nm,bC form,o,yf rs a⟩]) st) (decide (form≠0))) e p
   |.ok (f,j)=>Goes s (xw s (xo rs l (O++[⟨40,[],nm,bC form,o,yf rs a⟩]) st) (decide (form≠0))) (xo rs j (O++zu rs f) st)/\i<j/\j<=rs.length:=by
  intro o l v u;have k:=E.TF hS (decide (form≠0)) (O++[⟨40,[],nm,bC form,o,yf rs a⟩]) (rs.length+1) .nil l _ v J (.inl ⟨rfl,rfl⟩);cases g:jX rs sub (decide (form≠0)) (rs.length+1) .nil l with
  |error e =>
   rw[g]at k;exact k
  |ok x =>
   obtain⟨d,q⟩:=x;rw[g]at k;obtain⟨g1,g2,A,t⟩:=k;rw[then_ok,show vR rs 125 q = .ok ((),q+1)from zl g1,then_ok];refine⟨?_,J,t⟩;have e:O++[⟨40,[],nm,bC form,o,yf rs a⟩]++zu rs d++[⟨41,[],[],[],[],yf rs q⟩]=O++zu rs (.br nm a form o q d .nil):=(by simp[zu]);rw[<-e];exact g2
 unfold FY;by_cases hc:form≠0/\KG rs i=true
 .have b:(decide (form≠0) && dm s (xo rs i O st).i)=true:=pk;have r:=zcy hc.2;have m:i+7<=rs.length:=by rcases r.lt with q|q<;>omega
  have n:({ xo rs i O st with i:=(xo rs i O st).i+7 }:Sc)=xo rs (i+7) O st:=by
   unfold xo;rw[E.Zr 7 r]
  have h:=E.fK m;have w:=yl rs (i+7);have c:lC s nm (bC form) (yf rs a) (decide (form≠0)) (xo rs i O st) =
    xw s { yv s (um s (xo rs (yK rs (i+7)) O st))with out:=(yv s (um s (xo rs (yK rs (i+7)) O st))).out++[⟨40,[],nm,bC form,kl s (yf rs (yK rs (i+7))),yf rs a⟩] } (decide (form≠0)):=by
   unfold lC;rw[zl b,zl b,n,E.jm,Nu]
  rw[zl hc,c];rcases E.whole h O st with⟨e1,e2⟩|⟨y,e1,e2,e3⟩
  .rw[e1,qq,qq];exact dO.Vo (((e2.jm s).out _).branch s _) h
  .rw[e1,then_ok,then_ok,e3,E.jm,E.whT];exact tl _ _ (E.fK e2) (by have:=yl rs (yK rs (i+7)+vL rs (yK rs (i+7)));omega)
 .have b:¬(decide (form≠0) && dm s (xo rs i O st).i)=true:=pk;have c:lC s nm (bC form) (yf rs a) (decide (form≠0)) (xo rs i O st) =
    xw s (xo rs i (O++[⟨40,[],nm,bC form,[48],yf rs a⟩]) st) (decide (form≠0)):=by
   unfold lC;rw[zL b,zL b];rfl
  rw[zL hc,c,then_ok];exact tl _ _ hi (X _)
def jc.arg(hS:Wq s rs sub st.length){i:Nat}(d:zC rs i=123)(O:List Mk) :
  match Yv rs sub i with
  |.error (e,a)=>dp s rs (dG s (xo rs i O st)) e a
  |.ok (f,j)=>Goes s (dG s (xo rs i O st)) (xo rs j (O++zu rs f) st)/\i<j/\j<=rs.length:=by
 have hi:=bR (k:=123) d;have h1:({ xo rs i O st with i:=(xo rs i O st).i+1 }:Sc)=xo rs (i+1) O st:=by
  unfold xo;rw[E.Cr (k:=123) zj d]
 have K:=yl rs (i+1);have b1:=E.fK (i:=i+1) J;unfold Yv dG;rw[show vR rs 123 i = .ok ((),i+1)from zl d,then_ok,h1,E.jm];dsimp only;rw[show(xo rs (yK rs (i+1)) O st).i=yf rs (yK rs (i+1))from rfl,E.nmT];rcases E.name b1 O st with⟨u,e1,e2⟩|⟨u,e1,e2,e3⟩
 .rw[e1,qq];have hb:=e2.jm s;rw[zl (by rw[hb.err];exact hb.ne)];exact hb.Vo b1
 rw[e1,then_ok,e3,E.jm];obtain⟨B,hB⟩:=zo (yK rs (yK rs (i+1)+vg rs (yK rs (i+1))));have A:=yl rs (yK rs (i+1)+vg rs (yK rs (i+1)));have b2:=E.fK e2;rw[hB]at A b2;obtain⟨nm,r⟩:=zo (uy rs (yK rs (i+1)) (vg rs (yK rs (i+1))));rw[hB,r,zL (show ¬(xo rs B O st).err≠0 from λq=>q rfl)];by_cases c:zC rs B=44
 .rw[zL (λq=>q c),zL (show ¬xN s (xo rs B O st).i≠some 44 from λq=>q ((E.byte B 44 zj).2 c))];have x:=bR (k:=44) c;have h2:({ xo rs B O st with i:=(xo rs B O st).i+1 }:Sc)=xo rs (B+1) O st:=by
   unfold xo;rw[E.Cr (k:=44) zj c]
  rw[h2,E.jm];have F:=yl rs (B+1);have b3:=E.fK (i:=B+1) J;obtain⟨C,y⟩:=zo (yK rs (B+1));rw[y]at F b3|-;unfold P4;dsimp only;rw[show(xo rs C O st).i=yf rs C from rfl,E.nmT];obtain⟨w,hw⟩:=zo (uy rs C (vg rs C));rcases E.name b3 O st with⟨e4,o,p⟩|⟨e4,o,p,v⟩
  .rw[o,qq];have t:w=[]:=(by rw[<-hw,e4];unfold uy;simp);rw[hw,t,zl zj];exact(p.fault _ _).Vo b3
  rw[o,then_ok,v,hw,E.jm];have G:=yl rs (C+vg rs C);have n:=E.fK p;obtain⟨D,z⟩:=zo (yK rs (C+vg rs C));rw[z]at G n|-;rcases Pj w with⟨p1,p2⟩|⟨p0,form,p1,p2,H,M,I⟩|⟨p0,p1,p2⟩
  .rw[zl p2,p1,zL zj,zl rfl];rcases E.Hj D 125 zj O st with⟨g,l,h⟩|⟨g,h⟩
   .rw[show vR rs 125 D = .ok ((),D+1)from zl g,then_ok];have b:xE s (xo rs D O st) 125=xo rs (D+1) O st:=h;rw[b,p2];exact⟨.refl _,J,l⟩
   .rw[show vR rs 125 D = .error (3,D)from zL g,qq];have b:dO 3 (yf rs D) (xE s (xo rs D O st) 125):=h;exact(b.out _).Vo n
  .rw[zL p0,p1,zL J,zL J,I,<-H];dsimp only;rcases E.Hj D 44 zj O st with⟨g,l,h⟩|⟨g,h⟩
   .rw[show vR rs 44 D = .ok ((),D+1)from zl g,then_ok];have b:xE s (xo rs D O st) 44=xo rs (D+1) O st:=h;rw[b,E.jm];have L:=yl rs (D+1);have m:=E.brs hS (a:=i) nm p2 (E.fK l) O;split at m
    .exact m
    .exact⟨m.1,J,m.2.2⟩
   .rw[show vR rs 44 D = .error (3,D)from zL g,qq];have b:dO 3 (yf rs D) (xE s (xo rs D O st) 44):=h;exact((b.jm s).br s _ _ _ _).Vo n
  .rw[zL p0,p1,zl p2];exact dO.Vo (a:=C) ⟨rfl,zj,rfl⟩ b3
 .rw[zl c,zl (show xN s (xo rs B O st).i≠some 44 from λq=>c ((E.byte B 44 zj).1 q))];rcases E.Hj B 125 zj O st with⟨g,l,h⟩|⟨g,h⟩
  .rw[show vR rs 125 B = .ok ((),B+1)from zl g,then_ok];have b:xE s (xo rs B O st) 125=xo rs (B+1) O st:=h;rw[b];exact⟨.refl _,J,l⟩
  .rw[show vR rs 125 B = .error (3,B)from zL g,qq];have b:dO 3 (yf rs B) (xE s (xo rs B O st) 125):=h;exact(b.out _).Vo b2
def jc.msg(hS:Wq s rs sub st.length){num:Bool}(c:st.getLast?.getD false=num)(O:List Mk)(u:bQ O):∀(n:Nat) (acc:Fo) (i:Nat),i<=rs.length->rs.length<i+n ->
  match qC rs sub num n acc i with
  |.error (e,a)=>dp s rs (xo rs i (O++zu rs acc) st) e a
  |.ok (f,j)=>Goes s (xo rs i (O++zu rs acc) st) (xo rs j (O++zu rs f) st)/\i<=j/\j<=rs.length/\(zC rs j = -1\/zC rs j=125)
 | 0,acc,i,hi,hn=>J
 |n+1,acc,i,hi,hn=>by
  rw[qC];by_cases l:zC rs i = -1\/zC rs i=125
  .rw[zl l];exact⟨.refl _,X _,hi,l⟩
  rw[zL l];have g:i<rs.length:=by
   apply zi;intro hc;exact l (.inl (QM J))
  have m:=E.lts g;have go:∀(b:Fo) (j:Nat),Goes s (xo rs i (O++zu rs acc) st) (xo rs j (O++zu rs b) st)->i<j->j<=rs.length ->
    match qC rs sub num n b j with
    |.error (e,a)=>dp s rs (xo rs i (O++zu rs acc) st) e a
    |.ok (f,j)=>Goes s (xo rs i (O++zu rs acc) st) (xo rs j (O++zu rs f) st)/\i<=j/\j<=rs.length/\(zC rs j = -1\/zC rs j=125):=by
   intro b j v w y;have h:=jc.msg hS c O u n b j y J;cases o:qC rs sub num n b j with
   |error e =>
    rw[o]at h;exact dp.back v h
   |ok x =>
    rw[o]at h;exact⟨v.trans h.1,by have:=h.2.1;omega,h.2.2⟩
  have r:QE (xo rs i (O++zu rs acc) st)=num:=c;by_cases h1:zC rs i=123
  .rw[zl h1];have d:xN s (xo rs i (O++zu rs acc) st).i=some 123:=(E.byte i 123 zj).2 h1;have t:fC s (xo rs i (O++zu rs acc) st)=dG s (xo rs i (O++zu rs acc) st):=by
    unfold fC;rw[d];dsimp only;unfold XE;rw[zL zj,zl rfl]
   have p:Goes s (xo rs i (O++zu rs acc) st) (dG s (xo rs i (O++zu rs acc) st)):=t▸Goes.step rfl m;have ha:=E.arg hS h1 (O++zu rs acc);cases o:Yv rs sub i with
   |error e =>
    rw[o]at ha;rw[qq];exact dp.back p ha
   |ok x =>
    obtain⟨f,j⟩:=x;rw[o]at ha;rw[then_ok];refine go (acc.app f) j ?_ ha.2.1 ha.2.2;rw[Yw,<-vv];exact p.trans ha.1
  rw[zL h1];by_cases h2:zC rs i=35/\num=true
  .rw[zl h2];have d:xN s (xo rs i (O++zu rs acc) st).i=some 35:=(E.byte i 35 zj).2 h2.1;refine go (acc.app (.hash .nil)) (i+1) ?_ (xf _) g;have t:fC s (xo rs i (O++zu rs acc) st)=xo rs (i+1) (O++zu rs (acc.app (.hash .nil))) st:=by
    unfold fC;rw[d];dsimp only;unfold XE;rw[zL zj,zL zj,zL zj,zl ⟨rfl,r.trans h2.2⟩,Yw];unfold xo;rw[Sc.mk.injEq];exact⟨(E.Cr (k:=35) zj h2.1).symm,by simp[zu],rfl,rfl,rfl⟩
   rw[<-t];exact Goes.step rfl m
  rw[zL h2];obtain⟨t1,t2,t3,t4⟩:=E.text num (O++zu rs acc) st c g (λq=>l (.inr q)) h1 h2;refine go (acc.xV (uU rs num i).1) (uU rs num i).2 ?_ t3 t4;rw[<-qA rs _ t2 acc O (λ_=>u)];exact t1
def jc.msgs:∀(n d:Nat),n+d=5->zvy s rs (Yu rs n) d
 | 0,d,hd=>λnum i O st h1 h2 h3 h4=>by
  have hS:Wq s rs none st.length:=⟨λ_=>J,λm q=>by cases q⟩;exact sX
 |n+1,d,hd=>λnum i O st h1 h2 h3 h4=>by
  have a:=jc.msgs n (d+1) J;have hS:Wq s rs (some (Yu rs n)) st.length:=⟨λq=>(by cases q),λm q=>by
   cases q;exact⟨J,by rw[h1];exact a⟩⟩
  exact sX
def jc.parse:match bV rs with
  |.error (e,a)=>dp s rs jf e a
  |.ok (f,j)=>Goes s jf ⟨s.size,zu rs f,[],0,0⟩:=by
 have h:=E.msgs 5 0 rfl false 0 [] [] rfl rfl (λm q=>X0) (zG _);have n:xo rs 0 [] []=jf:=rfl;rw[n]at h;unfold bV;cases l:Yu rs 5 false 0 with
 |error e =>
  rw[l]at h;exact h
 |ok x =>
  obtain⟨f,j⟩:=x;rw[l]at h;obtain⟨g1,_,g,b⟩:=h;rw[then_ok];rcases b with b|b
  .rw[zl b];have o:=E.neg g b;subst o;have e:xo rs rs.length ([]++zu rs f) []=⟨s.size,zu rs f,[],0,0⟩:=by
    unfold xo;rw[<-E.size,kr]
   rw[e]at g1;exact g1
  .rw[zL (by rw[b];decide)];have d:=bR (k:=125) b;refine dp.back (g1.trans (Goes.step rfl (E.lts d))) ?_;have c:xN s (xo rs j ([]++zu rs f) []).i=some 125:=(E.byte j 125 zj).2 b;refine dO.Vo (a:=j) ?_ g;unfold fC;rw[c];dsimp only;unfold XE;rw[zL zj,zL zj,zl rfl,zl (show(xo rs j ([]++zu rs f) []).uo=[]from rfl)];exact⟨rfl,zj,rfl⟩
end
variable{s:ByteArray}{f:Fo}{rs:List Int}
def gL:Fo->List (Wd×Nat)
 |.uB k a _ r=>(k,a)::gL r
 |_=>[]
def Ui(rs:List Int)(x:Wd×Nat):Mk:=⟨91,x.1,[],[],[],yf rs x.2⟩
def Gt(rs:List Int):Fo->Nat->List Nat
 |.uB _ _ m r,p=>p::Gt rs r (p+1+(zu rs m).length+1)
 |_,_=>[]
def Fo.bK(N:Nat):Fo->Prop
 |.nil=>True
 |.text _ r=>r.bK N
 |.hash r=>r.bK N
 |.put n a r=>n≠[]/\a<N/\r.bK N
 |.num n a r=>n≠[]/\a<N/\r.bK N
 |.br n a _ _ c bs r=>n≠[]/\a<N/\c<N/\bs.ug=true/\bs.bK N/\r.bK N
 |.uB _ a m r=>a<N/\m.bK N/\r.bK N
def MK(rs:List Int)(st x:Nat×Nat):Nat×Nat:=ZN st x.1 (yf rs x.2)
def Aw:List Wd->List (Wd×Nat)->List (Nat×Nat)
 |_,[]=>[]
 |seen,x::t=>(if x.1∈seen then [(7,x.2)]else [])++Aw (x.1::seen) t
def Pg(x:Wd×Nat):∀(t:List (Wd×Nat)) (seen:List Wd),Aw seen (t++[x])=Aw seen t++(if x.1∈seen\/x.1∈t.map (·.1)then [(7,x.2)]else [])
 |[],seen=>by simp[Aw]
 |y::t,seen=>by
  rw[yw,Aw,Pg x t,Aw,vv];congr 2;simp only[yp,ve];have:(x.1=y.1\/x.1∈seen)\/x.1∈t.map (·.1) ↔ x.1∈seen\/x.1=y.1\/x.1∈t.map (·.1):=n7;simp only[this]
def zvx(b:Nat):∀(f:Fo) (seen:List Wd) (acc:List (Nat×Nat)),f.ug=true->FM b seen acc f=acc++Aw seen (gL f)++(if ZM∈seen\/ZM∈(gL f).map (·.1)then []else [(6,b)])
 |.nil,seen,acc,_=>by
  simp only[FM,gL,Aw,vu,YW,qW,or_false];split<;>simp
 |.uB k a m r,seen,acc,h=>by
  rw[FM,zvx b r _ _ h];simp only[gL,Aw,ve,yp];have:(ZM=k\/ZM∈seen)\/ZM∈(gL r).map (·.1) ↔ ZM∈seen\/ZM=k\/ZM∈(gL r).map (·.1):=n7;simp only[this];by_cases c:k∈seen
  .simp[c]
  .simp[c]
 |.text _ _,_,_,h=>xp
 |.hash _,_,_,h=>xp
 |.put _ _ _,_,_,h=>xp
 |.num _ _ _,_,_,h=>xp
 |.br _ _ _ _ _ _ _,_,_,h=>xp
def gH(rs:List Int)(T:List Mk):∀(f:Fo) (d:Int) (i:Nat),1<=d->endGo (zu rs f++T) d i=endGo T d (i+(zu rs f).length)
 |.nil,d,i,h=>rfl
 |.text t r,d,i,h=>WO
 |.hash r,d,i,h=>WO
 |.put n a r,d,i,h=>WO
 |.num n a r,d,i,h=>WO
 |.br n a f o c b r,d,i,h=>by
  have ih:=gH rs (⟨41,[],[],[],[],yf rs c⟩::(zu rs r++T)) b (d+1) (i+1) J;have ih2:=gH rs T r d (i+1+(zu rs b).length+1) h;exact pW
 |.uB k a m r,d,i,h=>by
  have ih:=gH rs (⟨93,[],[],[],[],0⟩::(zu rs r++T)) m (d+1) (i+1) J;have ih2:=gH rs T r d (i+1+(zu rs m).length+1) h;exact pW
def MJ(rs:List Int)(P T:List Mk)(m z:Mk)(f:Fo)(hm:opens m=true)(b:opens z=false)(a:Ao z=true):Yj (P++m::(zu rs f++z::T)) P.length=P.length+1+(zu rs f).length:=by
 unfold Yj;rw[Ht,endGo,zL (by unfold YO;rw[zl hm];decide)];rw[show YO m 0=1 by unfold YO;rw[zl hm];rfl,gH rs _ f 1 _ (Int.le_refl _),endGo,zl (by unfold YO;rw[zL (by rw[b];decide),zl a];rfl)]
def Pf(rs:List Int)(T:List Mk):∀(b:Fo) (P:List Mk) (n:Nat),b.ug=true->(gL b).length<n ->
  KW (P++(zu rs b++T)) (P.length+(zu rs b).length) n P.length=Gt rs b P.length/\(Gt rs b P.length).map (YA (P++(zu rs b++T)))=(gL b).map (Ui rs)
 |.nil,P,n,_,hn=>by
  cases n with
  |zero=>exact absurd hn (uf _)
  |succ n =>
   rw[KW,zL Dy];exact⟨rfl,rfl⟩
 |.uB k a m r,P,n,h,hn=>by
  cases n with
  |zero=>exact absurd hn (uf _)
  |succ n =>
   have he:P++(zu rs (.uB k a m r)++T)=P++(Ui rs (k,a)::(zu rs m++⟨93,[],[],[],[],0⟩::(zu rs r++T))):=(by simp[zu,Ui]);have e:P++(zu rs (.uB k a m r)++T)=(P++Ui rs (k,a)::(zu rs m++[⟨93,[],[],[],[],0⟩]))++(zu rs r++T):=(by simp[zu,Ui]);have f:(P++Ui rs (k,a)::(zu rs m++[⟨93,[],[],[],[],0⟩])).length=P.length+1+(zu rs m).length+1:=zV;have c:P.length+(zu rs (.uB k a m r)).length=P.length+1+(zu rs m).length+1+(zu rs r).length:=Q5;have d:Yj (P++(zu rs (.uB k a m r)++T)) P.length=P.length+1+(zu rs m).length:=by
    rw[he];exact MJ rs P _ _ _ m rfl rfl rfl
   have g:=Pf rs T r (P++Ui rs (k,a)::(zu rs m++[⟨93,[],[],[],[],0⟩])) n h (by simp[gL]at hn;omega);rw[f,<-e]at g;rw[KW,zl (by rw[c];omega),d,c,g.1,Gt,gL,ve,ve,g.2];refine⟨rfl,?_⟩;congr 1;rw[he];exact We
 |.text _ _,_,_,h,_=>xp
 |.hash _,_,_,h,_=>xp
 |.put _ _ _,_,_,h,_=>xp
 |.num _ _ _,_,_,h,_=>xp
 |.br _ _ _ _ _ _ _,_,_,h,_=>xp
def Pd(rs:List Int):∀f:Fo,(gL f).length<=(zu rs f).length
 |.uB k a m r=>by
  have:=Pd rs r;simp only[gL,zu,zm,zI];omega
 |.nil=>X _
 |.text _ _=>zG _
 |.hash _=>zG _
 |.put _ _ _=>zG _
 |.num _ _ _=>zG _
 |.br _ _ _ _ _ _ _=>zG _
def ay(rs:List Int)(L:List Mk)(ps:List Nat)(xs:List (Wd×Nat))(h:ps.map (YA L)=xs.map (Ui rs)):∀(n:Nat) (st:Nat×Nat),n<=ps.length->Cp L ps n st=(Aw [] (xs.take n)).foldl (MK rs) st
 | 0,st,_=>rfl
 |n+1,st,hn=>by
  have d:ps.length=xs.length:=by simpa using congrArg qj h
  have hx:n<xs.length:=J;have a:∀j (hj:j<ps.length) (b:j<xs.length),YA L ps[j]=Ui rs xs[j]:=λj hj b=>by
   have h1:(ps.map (YA L))[j]' D9=(xs.map (Ui rs))[j]'(by simpa using b):=(by simp only[h]);simpa using h1
  rw[Cp,ay rs L ps xs h n st J,zr hx,Pg,kS];unfold twA;have e1:ps.getD n 0=ps[n]:=by rw[zM,zw J];rfl
  rw[e1,a n J hx];have e2:(ps.take n).any (Zo L ps[n])=true ↔ xs[n].1∈[]\/xs[n].1∈(xs.take n).map (·.1):=by
   simp only[qW,false_or];rw[Mn,yk5];constructor
   .rintro⟨p,hp,hs⟩;obtain⟨j,hj,rfl⟩:=List.getElem_of_mem hp;simp only[xr]at hj;refine⟨xs[j]' J,XO.2 ⟨j,J,rfl⟩,?_⟩;unfold Zo at hs;rw[qP,ypu,a j J J,a n J hx]at hs;exact hs
   .rintro⟨x,c,hs⟩;obtain⟨j,hj,rfl⟩:=XO.1 c;refine⟨ps[j]' J,XO.2 ⟨j,J,rfl⟩,?_⟩;unfold Zo;rw[qP,a j J J,a n J hx];exact hs
  by_cases hc:(ps.take n).any (Zo L ps[n])=true
  .rw[zl hc,zl (e2.1 hc)];rfl
  .rw[zL hc,zL (λq=>hc (e2.2 q))];rfl
def KOk(K:Wd->Option Nat)(P:List Mk):Prop:=∀n,K n=(P.find? λx=>decide (uQ x≠0) && decide (x.name=n)).map λx=>if uQ x=110 then 1 else 2
def KOk.more{K:Wd->Option Nat}{P:List Mk}(h:KOk K P)(hm:uQ m=0):KOk K (P++[m]):=λn=>by
 rw[h n,jM];cases P.find? λx=>decide (uQ x≠0) && decide (x.name=n) with
 |some x=>rfl
 |none=>simp[hm]
def Hf{L P:List Mk}{K:Wd->Option Nat}{acc:List (Nat×Nat)}{st:Nat×Nat}{a:Nat}(hK:KOk K P)(t:L.take P.length=P)(o:k=(if uQ m=110 then 1 else 2))(hs:uQ m=110\/uQ m=116)(p:m.pl=yf rs a) :
  ∃s l,uL (K,acc) m.name a k=(s,acc++l)/\KOk s (P++[m])/\(∀x∈l,x=(5,a))/\YP L P.length m st=l.foldl (MK rs) st:=by
 have i:uQ m≠0:=by rcases hs with h|h<;>rw[h]<;>decide
 have f:k≠0:=by rw[o];split<;>decide
 have b:=hK m.name;have g:(KA m)=λx=>decide (uQ x≠0) && decide (x.name=m.name):=rfl
 unfold YP;rw[zL i,t,g];have e:∀n,n≠m.name->K n=((P++[m]).find? λx=>decide (uQ x≠0) && decide (x.name=n)).map λx=>if uQ x=110 then 1 else 2:=λn hn=>by
  rw[hK n,jM];cases P.find? λx=>decide (uQ x≠0) && decide (x.name=n) with
  |some x=>rfl
  |none=>simp[Ne.symm hn]
 cases hf:P.find? λx=>decide (uQ x≠0) && decide (x.name=m.name) with
 |none =>
  rw[hf]at b;have b:K m.name=none:=b;refine⟨λy=>if m.name=y then some k else K y,[],?_,λn=>?_,λx hx=>by simp at hx,rfl⟩
  .unfold uL;rw[zL (by show ¬(k≠0/\(K m.name).isSome=true/\(K m.name).getD 0≠k);rw[b];rintro⟨-,h,-⟩;cases h),zl f,vu]
  .dsimp only;by_cases hn:m.name=n
   .subst hn;rw[zl rfl,jM,hf];have:(decide (uQ m≠0) && decide (m.name=m.name))=true:=(by simp[i]);rw[Option.none_or,List.find?_cons,this,o];rfl
   .rw[zL hn];exact e n (λq=>hn q.symm)
 |some x =>
  rw[hf]at b;have b:K m.name=some (if uQ x=110 then 1 else 2):=b;have hx:=List.find?_some hf;simp only[zQ,qP]at hx;have r:uQ x=110\/uQ x=116:=by
   have j:=hx.1;unfold uQ at j|-;split
   .exact .inl rfl
   next h1 =>
   rw[zL h1]at j;split
   .exact .inr rfl
   next h2=>rw[zL h2]at j;exact absurd rfl j
  have d:uQ x≠uQ m ↔ (if uQ x=110 then 1 else 2)≠k:=by
   rw[o];rcases r with h1|h1<;>rcases hs with h2|h2<;>rw[h1,h2]<;>decide
  dsimp only;have c:KOk K (P++[m]):=λn=>by
   by_cases hn:n=m.name
   .subst hn;rw[b,jM,hf];rfl
   .exact e n hn
  by_cases hd:uQ x≠uQ m
  .rw[zl hd];refine⟨K,[(5,a)],?_,c,λy hy=>by simpa using hy,?_⟩
   .unfold uL;rw[zl (show k≠0/\(K m.name).isSome=true/\(K m.name).getD 0≠k from⟨f,by rw[b];rfl,by rw[b];exact d.1 hd⟩)]
   .rw[p];rfl
  .rw[zL hd];refine⟨λy=>if m.name=y then some k else K y,[],?_,λn=>?_,λy hy=>by simp at hy,rfl⟩
   .unfold uL;rw[zL (show ¬(k≠0/\(K m.name).isSome=true/\(K m.name).getD 0≠k)from λq=>hd (d.2 (by rw[b]at q;exact q.2.2))),zl f,vu]
   .dsimp only;by_cases hn:m.name=n
    .rw[zl hn,<-hn,<-c m.name,b];have:¬(if uQ x=110 then 1 else 2)≠k:=λq=>hd (d.2 q)
     rw[Mp.1 this]
    .rw[zL hn];exact c n
def kH{L P Q:List Mk}(a:L=P++m::Q)(hs:uQ m=0)(b:m.kind≠40):uK L (P.length+1)=uK L P.length:=by
 have hm:YA L P.length=m:=by
  rw[a];exact We
 rw[uK];unfold Gp;dsimp only;rw[hm,zl b];unfold YP;rw[zl hs]
def qo(rs:List Int)(N:Nat):∀(f:Fo) (L P Q:List Mk) (K:Wd->Option Nat) (acc:List (Nat×Nat)),L=P++(zu rs f++Q)->KOk K P->f.bK N ->
  ∃d l,vG YD f (K,acc) = .go true (d,acc++l)/\KOk d (P++zu rs f)/\(∀x∈l,x.1≠0/\x.2<N)/\uK L (P.length+(zu rs f).length)=l.foldl (MK rs) (uK L P.length)
 |.nil,L,P,Q,K,acc,hL,hK,hf=>⟨K,[],by simp[vG],by simpa[zu]using hK,λx hx=>by simp at hx,rfl⟩
 |.text t r,L,P,Q,K,acc,hL,hK,hf=>by
  obtain⟨d,l,h1,h2,A,h4⟩:=qo rs N r L (P++[⟨116,t,[],[],[],0⟩]) Q K acc JD (hK.more rfl) hf;refine⟨d,l,h1,Lj,A,?_⟩;have e:=kH (L:=L) (P:=P) (Q:=zu rs r++Q) (m:=⟨116,t,[],[],[],0⟩) (by simp[hL,zu]) rfl (by show 116≠40;decide);exact mB
 |.hash r,L,P,Q,K,acc,hL,hK,hf=>by
  obtain⟨d,l,h1,h2,A,h4⟩:=qo rs N r L (P++[⟨35,[],[],[],[],0⟩]) Q K acc JD (hK.more rfl) hf;refine⟨d,l,h1,Lj,A,?_⟩;have e:=kH (L:=L) (P:=P) (Q:=zu rs r++Q) (m:=⟨35,[],[],[],[],0⟩) (by simp[hL,zu]) rfl (by show 35≠40;decide);exact mB
 |.put n a r,L,P,Q,K,acc,hL,hK,hf=>by
  obtain⟨d,l,h1,h2,A,h4⟩:=qo rs N r L (P++[⟨112,[],n,[],[],yf rs a⟩]) Q K acc JD (hK.more rfl) hf.2.2;refine⟨d,l,?_,Lj,A,?_⟩
  .rw[vG];exact h1
  have e:=kH (L:=L) (P:=P) (Q:=zu rs r++Q) (m:=⟨112,[],n,[],[],yf rs a⟩) JD rfl (by show 112≠40;decide);exact mB
 |.num n a r,L,P,Q,K,acc,hL,hK,hf=>by
  have M:L.take P.length=P:=by rw[hL,Hw]
  have hm:YA L P.length=⟨110,[],n,UE,[],yf rs a⟩:=by
   rw[hL];exact We
  obtain⟨H,v,g1,g2,g3,g4⟩:=Hf (rs:=rs) (m:=⟨110,[],n,UE,[],yf rs a⟩) (acc:=acc) (st:=uK L P.length) (k:=1) (a:=a) hK M rfl (.inl rfl) rfl;obtain⟨d,l,h1,h2,A,h4⟩:=qo rs N r L (P++[⟨110,[],n,UE,[],yf rs a⟩]) Q H (acc++v) JD g2 hf.2.2;refine⟨d,v++l,?_,Lj,?_,?_⟩
  .rw[vG];show Out.then (Out.go true (uL (K,acc) n a 1)) _=_;have g1:uL (K,acc) n a 1=(H,acc++v):=g1;rw[g1,<-vv];exact h1
  .intro x hx;rcases xY.1 hx with hx|hx
   .rw[g3 x hx];exact⟨by show 5≠0;decide,hf.2.1⟩
   .exact A x hx
  .rw[zI,xH]at h4;rw[zu,zm,kS,<-g4,show P.length+((zu rs r).length+1)=P.length+1+(zu rs r).length by omega,h4,uK];unfold Gp;dsimp only;rw[hm,zl (by show 110≠40;decide)]
 |.br n a fo o c b r,L,P,Q,K,acc,hL,hK,hf=>by
  obtain⟨f1,f2,f3,f4,f5,f6⟩:=hf;obtain⟨m,s⟩:∃m:Mk,m=⟨40,[],n,bC fo,o,yf rs a⟩:=⟨_,rfl⟩;obtain⟨z,j⟩:∃z:Mk,z=⟨41,[],[],[],[],yf rs c⟩:=⟨_,rfl⟩;have C:L=P++m::(zu rs b++z::(zu rs r++Q)):=by rw[hL,s,j];simp[zu]
  have M:L.take P.length=P:=by rw[hL,Hw]
  have hm:YA L P.length=m:=by
   rw[C];exact We
  have G:(bC fo≠zv4) ↔ fo≠0:=by
   match fo with
   | 0=>exact⟨λq=>absurd rfl q,λq=>absurd rfl q⟩
   | 1=>exact⟨λ_=>zj,λ_=>zj⟩
   |k+2=>exact⟨λ_=>J,λ_=>by show Ca≠zv4;decide⟩
  have hso:uQ m=if fo=0 then 116 else 110:=by
   rw[s];unfold uQ;dsimp only;by_cases w:fo=0
   .rw[zL (λq=>q.elim (λq=>X0) λq=>G.1 q.2 w),zl rfl,zl w]
   .rw[zl (.inr ⟨rfl,G.2 w⟩),zL w]
  have hkf:(if fo=0 then 2 else 1)=(if uQ m=110 then 1 else 2):=by
   rw[hso];by_cases w:fo=0
   .rw[zl w,zl w];rfl
   .rw[zL w,zL w];rfl
  obtain⟨H,v,g1,g2,g3,g4⟩:=Hf (rs:=rs) (m:=m) (acc:=acc) (st:=uK L P.length) (k:=if fo=0 then 2 else 1) (a:=a) hK M hkf (by rw[hso];by_cases w:fo=0<;>simp[w]) (by rw[s]);have F:Yj L P.length=P.length+1+(zu rs b).length:=by
   rw[C];exact MJ rs P _ m z b (by rw[s];rfl) (by rw[j];rfl) (by rw[j];rfl)
  have i:=Pf rs (z::(zu rs r++Q)) b (P++[m]) (L.length+1) f4 (by have:=Pd rs b;rw[C];simp;omega);have B:P++[m]++(zu rs b++z::(zu rs r++Q))=L:=by rw[C];simp
  rw[B,zI,xH]at i;have T:uD L P.length=Gt rs b (P.length+1):=by
   unfold uD;rw[F];exact i.1
  have V:(Gt rs b (P.length+1)).length=(gL b).length:=by simpa using congrArg qj i.2
  have htw:∀st,Cp L (uD L P.length) (uD L P.length).length st=(Aw [] (gL b)).foldl (MK rs) st:=λst=>by
   rw[T,ay rs L _ _ i.2 _ st (X _),V,kp]
  have W:(uD L P.length).any (YR L)=true ↔ ZM∈(gL b).map (·.1):=by
   rw[T];have e:(Gt rs b (P.length+1)).any (YR L)=((Gt rs b (P.length+1)).map (YA L)).any (λx=>decide (x.text=yq4)):=(by rw[yf1];rfl);rw[e,i.2,yf1,Mn,yk5];constructor
   .rintro⟨x,hx,h⟩;exact⟨x,hx,of_decide_eq_true (p:=x.1=ZM) h⟩
   .rintro⟨x,hx,h⟩;exact⟨x,hx,decide_eq_true (p:=x.1=ZM) h⟩
  obtain⟨S,O⟩:=zo (Aw [] (gL b)++(if ZM∈([]:List Wd)\/ZM∈(gL b).map (·.1)then []else [(6,c)]));have xiz:(YA L (Yj L P.length)).pl=yf rs c:=by
   rw[F,<-B];unfold YA;rw[zM,zc DE,zc (by simp<;>omega)];simp only[zI,xH];rw[show P.length+1+(zu rs b).length - (P.length+1) - (zu rs b).length=0 by omega,j];rfl
  have R:uK L (P.length+1)=(v++S).foldl (MK rs) (uK L P.length):=by
   rw[uK];unfold Gp;dsimp only;rw[hm,zL (by rw[s];show ¬40≠40;decide),g4,htw,xiz,kS,<-O,kS];by_cases ho:(uD L P.length).any (YR L)=true
   .rw[zl ho,zl (.inr (W.1 ho))];rfl
   .rw[zL ho,zL (λq=>q.elim (λq=>X0) λq=>ho (W.2 q))];rfl
  obtain⟨d,l2,h1,h2,A,h4⟩:=qo rs N b L (P++[m]) (z::(zu rs r++Q)) H (acc++v++S) B.symm g2 f5;have I:KOk d (P++[m]++zu rs b++[z]):=h2.more (by rw[j];rfl);obtain⟨K3,l3,k1,k2,k3,k4⟩:=qo rs N r L (P++[m]++zu rs b++[z]) Q d (acc++v++S++l2) (by rw[<-B];simp) I f6;have D:=kH (L:=L) (P:=P++[m]++zu rs b) (Q:=zu rs r++Q) (m:=z) (by rw[<-B];simp) (by rw[j];rfl) (by rw[j];show 41≠40;decide);refine⟨K3,v++S++l2++l3,?_,?_,?_,?_⟩
  .rw[vG];have hc:YD (K,acc) (.br n a fo o c b .nil) = .go true (H,acc++v++S):=by
    have g1':uL (K,acc) n a (if fo=0 then 2 else 1)=(H,acc++v):=(by rw[s]at g1;exact g1);show Out.go true ((uL (K,acc) n a (if fo=0 then 2 else 1)).1,(uL (K,acc) n a (if fo=0 then 2 else 1)).2++FM c [] [] b)=_;rw[g1',zvx c b [] [] f4,<-O];simp
   rw[hc];show Out.then (vG YD b (H,acc++v++S)) _=_;rw[h1];show vG YD r (d,acc++v++S++l2)=_;rw[k1];simp
  .have e:P++[m]++zu rs b++[z]++zu rs r=P++zu rs (.br n a fo o c b r):=(by rw[s,j];simp[zu]);rw[<-e];exact k2
  .have xiy:∀(xs:List (Wd×Nat)) (seen:List Wd),(∀x∈xs,x.2<N)->∀x∈Aw seen xs,x.1≠0/\x.2<N:=by
    intro xs;induction xs with
    |nil=>intro seen _ x hx;cases hx
    |cons y t ih =>
     intro seen hy x hx;rw[Aw]at hx;rcases xY.1 hx with hx|hx
     .split at hx
      .rw[uG]at hx;subst hx;exact⟨by show 7≠0;decide,hy y xB⟩
      .cases hx
     .exact ih _ (λu hu=>hy u (yo _ hu)) x hx
   have U:∀g:Fo,g.bK N->∀x∈gL g,x.2<N:=by
    intro g;induction g with
    |uB k a m r ihm ihr =>
     intro hg x hx;rw[gL]at hx;rcases yp.1 hx with rfl|hx
     .exact hg.1
     .exact ihr hg.2.2 x hx
    |nil=>intro _ x hx;cases hx
    |text _ _ _=>intro _ x hx;cases hx
    |hash _ _=>intro _ x hx;cases hx
    |put _ _ _ _=>intro _ x hx;cases hx
    |num _ _ _ _=>intro _ x hx;cases hx
    |br _ _ _ _ _ _ _ _ _=>intro _ x hx;cases hx
   intro x hx;simp only[xY]at hx;rcases hx with((hx|hx)|hx)|hx
   .rw[g3 x hx];exact⟨by show 5≠0;decide,f2⟩
   .rw[<-O]at hx;rcases xY.1 hx with hx|hx
    .exact xiy _ _ (U b f5) x hx
    .split at hx
     .cases hx
     .rw[uG]at hx;subst hx;exact⟨by show 6≠0;decide,f3⟩
   .exact A x hx
   .exact k3 x hx
  .have hl:P.length+(zu rs (.br n a fo o c b r)).length=(P++[m]++zu rs b++[z]).length+(zu rs r).length:=(by simp[zu];omega);rw[hl,k4,kS,kS,<-R];congr 1;rw[zI,xH,D,zI,h4,zI,xH]
 |.uB k a E r,L,P,Q,K,acc,hL,hK,hf=>by
  obtain⟨f1,f2,f3⟩:=hf;have e1:=kH (L:=L) (P:=P) (Q:=zu rs E++⟨93,[],[],[],[],0⟩::(zu rs r++Q)) (m:=⟨91,k,[],[],[],yf rs a⟩) JD rfl (by show 91≠40;decide);obtain⟨d,l,h1,h2,A,h4⟩:=qo rs N E L (P++[⟨91,k,[],[],[],yf rs a⟩]) (⟨93,[],[],[],[],0⟩::(zu rs r++Q)) K acc (by simp[hL,zu]) (hK.more rfl) f2;have I:KOk d (P++[⟨91,k,[],[],[],yf rs a⟩]++zu rs E++[⟨93,[],[],[],[],0⟩]):=h2.more rfl;obtain⟨K3,l3,k1,k2,k3,k4⟩:=qo rs N r L (P++[⟨91,k,[],[],[],yf rs a⟩]++zu rs E++[⟨93,[],[],[],[],0⟩]) Q d (acc++l) (by simp[hL,zu]) I f3;have e2:=kH (L:=L) (P:=P++[⟨91,k,[],[],[],yf rs a⟩]++zu rs E) (Q:=zu rs r++Q) (m:=⟨93,[],[],[],[],0⟩) (by simp[hL,zu]) rfl (by show 93≠40;decide);refine⟨K3,l++l3,?_,?_,?_,?_⟩
  .rw[vG,h1];show vG YD r (d,acc++l)=_;rw[k1];simp
  .have e:P++[⟨91,k,[],[],[],yf rs a⟩]++zu rs E++[⟨93,[],[],[],[],0⟩]++zu rs r=P++zu rs (.uB k a E r):=(by simp[zu]);rw[<-e];exact k2
  .intro x hx;rcases xY.1 hx with hx|hx
   .exact A x hx
   .exact k3 x hx
  .have hl:P.length+(zu rs (.uB k a E r)).length=(P++[(⟨91,k,[],[],[],yf rs a⟩:Mk)]++zu rs E++[(⟨93,[],[],[],[],0⟩:Mk)]).length+(zu rs r).length:=(by simp[zu];omega);rw[hl,k4,kS];congr 1;rw[zI,xH,e2,zI,h4,zI,xH,e1]
def XH(E:jc s rs):∀(l:List (Nat×Nat)) (x:Nat×Nat),(∀y∈x::l,y.1≠0/\y.2<rs.length) ->
  l.foldl (MK rs) (x.1,yf rs x.2)=((XG x l).1,yf rs (XG x l).2)/\XG x l∈x::l
 |[],x,h=>⟨rfl,xB⟩
 |y::l,x,h=>by
  have hx:=h x xB;have hy:=h y zY;rw[QA];have c:MK rs (x.1,yf rs x.2) y=if y.2<x.2 then (y.1,yf rs y.2)else (x.1,yf rs x.2):=by
   unfold MK ZN;dsimp only;have:=E.iff (i:=y.2) (j:=x.2) J J;by_cases hc:y.2<x.2
   .rw[zl (.inr (this.2 hc)),zl hc]
   .rw[zL (λq=>q.elim hx.1 λq=>hc (this.1 q)),zL hc]
  have hm:XG x (y::l)=XG (if y.2<x.2 then y else x) l:=rfl;rw[c,hm];by_cases hc:y.2<x.2
  .rw[zl hc,zl hc];have b:=XH E l y (λz a=>h z (yo _ a));exact⟨b.1,yo _ b.2⟩
  .rw[zL hc,zL hc];have b:=XH E l x (λz a=>by
    rcases yp.1 a with rfl|a
    .exact hx
    .exact h z (by simp[a]))
   refine⟨b.1,?_⟩;rcases yp.1 b.2 with q|q
   .rw[q];exact xB
   .simp[q]
def Wk(E:jc s rs)(hf:f.bK rs.length) :
  (V7 f=none/\gX (zu rs f)=(0,0))\/∃e a,V7 f=some (e,a)/\e≠0/\a<rs.length/\gX (zu rs f)=(e,yf rs a):=by
 obtain⟨h,l,h1,h2,b,d⟩:=qo rs rs.length f (zu rs f) [] [] (λ_=>none) [] zY (λn=>by rfl) hf;have c:Zn f=l:=by
  unfold Zn;rw[h1];rfl
 have g:gX (zu rs f)=l.foldl (MK rs) (0,0):=by
  unfold gX;have:uK (zu rs f) ([]:List Mk).length=(0,0):=rfl;rw[this,ur,V9]at d;exact d
 unfold V7;rw[c,g];cases l with
 |nil=>exact .inl ⟨rfl,rfl⟩
 |cons x t =>
  obtain⟨g1,g2⟩:=XH E t x b;refine .inr ⟨(XG x t).1,(XG x t).2,rfl,(b _ g2).1,(b _ g2).2,?_⟩;rw[QA];exact g1
variable{hi:Nat}
structure Alt(m hi:Nat)(w w':z7):Prop where
 os:w'.os=w.os
 tape:w'.tape=w.tape
 output:w'.output=w.output
 size:(w:Nat)<=(w':Nat)
 block:∀k,k<(w:Nat)->(k<m\/hi<=k)->w'.heap[k]? = w.heap[k]?
def Alt.of{m:Nat}(h:zJ w w'):Alt m hi w w':=⟨h.os,h.tape,h.output,h.size,λk a _=>h.block k a⟩
def Alt.set{m b:Nat}(w:z7)(u:zx)(h1:m<=b)(h2:b<hi):Alt m hi w (w.setCell (b,j) u) :=
 ⟨rfl,rfl,rfl,ZA,λk _ a=>zh _ _ _ _ (by show k≠b;omega)⟩

variable{xs:List zx}{room:Nat}{e:uP}{W W':z7}
abbrev WSt:=List (Wd×Nat)
abbrev yq9(s:WSt):List zx:=s.map λx=>zv x.1
abbrev zcx(s:WSt):List zx:=s.map λx=>yF .i64 (x.2:Nat)
structure zvv(b:Nat)(n:Int)(w:z7)(hi:Nat)(s:WSt)(room:Nat)(W:z7):Prop where
 low:b+3<=hi
 hiW:hi<=(W:Nat)
 nc:zy W b 0 n
 names:∃v,zy W (b+1) 0 v/\W.ownsRow hi 9 1 v s.length (yq9 s)/\∃u,zy W (b+2) 0 u/\W.ownsRow hi 3 1 u s.length (zcx s)/\∀g,v.ownBlock=some g->u.ownBlock≠some g
 z1:W.frozen? (b+1,0)=false
 z2:W.frozen? (b+2,0)=false
 few:s.length+room<=1000000
 bel:yX b w W
def ax{m:Nat}{size:Nat}(h:W.ownsRow hi e size v n xs)(ha:Alt m hi W W'):W'.ownsRow hi e size v n xs:=by
 have a:=h.lt;obtain⟨h1,h2⟩:=h;refine⟨h1,?_⟩;rcases h2 with h2|⟨g,cap,cur,hv,b,c,rest⟩
 .exact .inl h2
 .exact .inr ⟨g,cap,cur,hv,b,(ha.block g (a g (by rw[hv];rfl)).2 (.inr b)).trans c,rest⟩
def zvv.same{b:Nat}{n:Int}{s:WSt}(h:zvv b n w hi s room W)(ha:Alt (b+3) hi W W'):zvv b n w hi s room W':=by
 obtain⟨h1,h2,f,⟨v,g,m,u,i,o,p⟩,q,c,d,e⟩:=h;have r:b<(W:Nat):=Y W _ f;have j:b+1<(W:Nat):=Y W _ g;have l:b+2<(W:Nat):=Y W _ i;exact⟨h1,zZ h2 ha.size,(yZ (a:=(b,0)) (ha.block b r (.inl J))).trans f,
  ⟨v,(yZ (a:=(b+1,0)) (ha.block (b+1) j (.inl J))).trans g,ax m ha,u,(yZ (a:=(b+2,0)) (ha.block (b+2) l (.inl J))).trans i,ax o ha,p⟩,
  (zb (a:=(b+1,0)) (ha.block (b+1) j (.inl J))).trans q,(zb (a:=(b+2,0)) (ha.block (b+2) l (.inl J))).trans c,d,
  e.trans ⟨ha.os,ha.tape,ha.output,ha.size,λk t=>ha.block k J (.inl J)⟩⟩

structure zvu(b:Nat)(p:ByteArray)(n:Int)(w:z7)(hi:Nat)(k:Nat)(room:Nat)(W:z7):Prop where
 low:b+3<=hi
 hiW:hi<=(W:Nat)
 c0:zy W b 0 (.string p)
 c1:zy W (b+1) 0 n
 c2:zy W (b+2) 0 k
 z2:W.frozen? (b+2,0)=false
 few:k+room<=1000000
 bel:yX b w W
def zvu.same{b:Nat}{p:ByteArray}{n:Int}(h:zvu b p n w hi k room W)(ha:Alt (b+3) hi W W'):zvu b p n w hi k room W':=by
 obtain⟨h1,h2,c,d,e,g,i,j⟩:=h;have l:b<(W:Nat):=Y W _ c;have m:b+1<(W:Nat):=Y W _ d;have f:b+2<(W:Nat):=Y W _ e;exact⟨h1,zZ h2 ha.size,(yZ (a:=(b,0)) (ha.block b l (.inl J))).trans c,(yZ (a:=(b+1,0)) (ha.block (b+1) m (.inl J))).trans d,
  (yZ (a:=(b+2,0)) (ha.block (b+2) f (.inl J))).trans e,(zb (a:=(b+2,0)) (ha.block (b+2) f (.inl J))).trans g,i,
  j.trans ⟨ha.os,ha.tape,ha.output,ha.size,λk o=>ha.block k J (.inl J)⟩⟩
variable{N:Nat}
def Fo.fJ:∀f g:Fo,f.bK N->g.bK N->(f.app g).bK N
 |.nil,g,_,h=>h
 |.text t r,g,h,h2=>Fo.fJ r g h h2
 |.hash r,g,h,h2=>Fo.fJ r g h h2
 |.put n a r,g,h,h2=>⟨h.1,h.2.1,Fo.fJ r g h.2.2 h2⟩
 |.num n a r,g,h,h2=>⟨h.1,h.2.1,Fo.fJ r g h.2.2 h2⟩
 |.br n a f o c b r,g,h,h2=>⟨h.1,h.2.1,h.2.2.1,h.2.2.2.1,h.2.2.2.2.1,Fo.fJ r g h.2.2.2.2.2 h2⟩
 |.uB k a m r,g,h,h2=>⟨h.1,h.2.1,Fo.fJ r g h.2.2 h2⟩
def Fo.vh(t:Wd):∀f:Fo,f.bK N->(f.xV t).bK N
 |.nil,_=>trivial
 |.text _ .nil,_=>trivial
 |.text _ (.text v r),h=>Fo.vh t (.text v r) h
 |.text _ (.hash r),h=>Fo.vh t (.hash r) h
 |.text _ (.put n a r),h=>Fo.vh t (.put n a r) h
 |.text _ (.num n a r),h=>Fo.vh t (.num n a r) h
 |.text _ (.br n a f o c b r),h=>Fo.vh t (.br n a f o c b r) h
 |.text _ (.uB k a m r),h=>Fo.vh t (.uB k a m r) h
 |.hash r,h=>Fo.vh t r h
 |.put n a r,h=>⟨h.1,h.2.1,Fo.vh t r h.2.2⟩
 |.num n a r,h=>⟨h.1,h.2.1,Fo.vh t r h.2.2⟩
 |.br n a f o c b r,h=>⟨h.1,h.2.1,h.2.2.1,h.2.2.2.1,h.2.2.2.2.1,Fo.vh t r h.2.2.2.2.2⟩
 |.uB k a m r,h=>⟨h.1,h.2.1,Fo.vh t r h.2.2⟩
def Ka(rs:List Int)(m:jK):Prop:=∀num i f j,m num i = .ok (f,j)->f.bK rs.length
section
variable {s:ByteArray} {rs:List Int} (E:jc s rs)
include E
def jc.Hd{i:Nat}{x:Wd}(h:jC rs i = .ok (x,j)):x≠[]/\i<rs.length:=by
 unfold jC at h;split at h
 .cases h
 next a =>
 cases h;have hs:=(E.nm i).2;have hi:i<rs.length:=by rcases hs.lt with q|q<;>omega
 refine⟨?_,hi⟩;unfold uy;rw[Zp hi];cases hn:vg rs i with
 |zero=>exact absurd hn a
 |succ n =>
  rw[qO,zn];intro q;exact(E.To hi).ne (ir.1 q).1
def jc.yqz{num:Bool}{i:Nat}{x:Wd}(h:UC rs num i = .ok (x,j)):i<rs.length:=by
 unfold UC at h;split at h
 .next hc=>exact bR (k:=61) hc.2
 .obtain⟨a,q,h1,h2⟩:=zS h;exact(E.Hd h1).2
def jc.Mx{msg:Option jK}{num:Bool}{i:Nat}(hm:∀m,msg=some m->Ka rs m)(h:Xu rs msg num i = .ok (f,j)):f.ug=true/\f.bK rs.length:=by
 unfold Xu at h;obtain⟨k,a,h1,h2⟩:=zS h;obtain⟨u,b,o,d⟩:=zS h2;cases msg with
 |none=>cases d
 |some m =>
  obtain⟨g,c,e,l⟩:=zS (show(m num b).then _=_ from d);obtain⟨u2,z,p,n⟩:=zS l;cases n;exact⟨rfl,E.yqz h1,hm m rfl _ _ _ _ e,trivial⟩
def jc.Ve{msg:Option jK}{num:Bool}(hm:∀m,msg=some m->Ka rs m):∀(n:Nat) (acc:Fo) (i j:Nat) (f:Fo),jX rs msg num n acc i = .ok (f,j)->acc.ug=true->acc.bK rs.length->f.ug=true/\f.bK rs.length
 | 0,acc,i,j,f,h,_,_=>xp
 |n+1,acc,i,j,f,h,ha,hb=>by
  rw[jX]at h;split at h
  .cases h;exact⟨ha,hb⟩
  .obtain⟨g,q,h1,h2⟩:=zS h;have a:=E.Mx hm h1;exact jc.Ve hm n _ _ _ _ h2 (Fo.Zx _ _ ha a.1) (Fo.fJ _ _ hb a.2)
def jc.Mv{msg:Option jK}{i:Nat}(hm:∀m,msg=some m->Ka rs m)(h:Yv rs msg i = .ok (f,j)):f.bK rs.length:=by
 unfold Yv at h;obtain⟨u,a,h1,h2⟩:=zS h;obtain⟨nm,b,v,g⟩:=zS h2;have hi:=FW (xg h1).1 zj;have hn:=(E.Hd v).1;clear h h1 h2 v;split at g
 .obtain⟨u,z,w,e⟩:=zS g;cases e;exact⟨hn,hi,trivial⟩
 .obtain⟨C,c,w,e⟩:=zS g;clear g w;split at e
  .obtain⟨u,z,x,t⟩:=zS e;cases t;exact⟨hn,hi,trivial⟩
  .split at e
   .cases e
   .obtain⟨u,d,x,t⟩:=zS e;obtain⟨o,l,B,k⟩:=zS t;obtain⟨A,q,n,p⟩:=zS k;obtain⟨u,z,r,s⟩:=zS p;have hb:=E.Ve hm _ _ _ _ _ n rfl trivial;have y:=FW (xg r).1 zj;cases s;exact⟨hn,hi,y,hb.1,hb.2,trivial⟩
def jc.fV{msg:Option jK}{num:Bool}(hm:∀m,msg=some m->Ka rs m):∀(n:Nat) (acc:Fo) (i j:Nat) (f:Fo),qC rs msg num n acc i = .ok (f,j)->acc.bK rs.length->f.bK rs.length
 | 0,acc,i,j,f,h,_=>xp
 |n+1,acc,i,j,f,h,ha=>by
  rw[qC]at h;split at h
  .cases h;exact ha
  split at h
  .obtain⟨g,q,h1,h2⟩:=zS h;exact jc.fV hm n _ _ _ _ h2 (Fo.fJ _ _ ha (E.Mv hm h1))
  split at h
  .exact jc.fV hm n _ _ _ _ h (Fo.fJ _ _ ha trivial)
  .exact jc.fV hm n _ _ _ _ h (Fo.vh _ _ ha)
def jc.Vi:∀n,Ka rs (Yu rs n)
 | 0,num,i,f,j,h=>by
  rw[Yu]at h;exact E.fV (λm e=>gU) _ _ _ _ _ h trivial
 |n+1,num,i,f,j,h=>by
  rw[Yu]at h;exact E.fV (λm e=>by cases e;exact jc.Vi n) _ _ _ _ _ h trivial
def jc.iE(h:bV rs = .ok (f,j)):f.bK rs.length:=by
 unfold bV at h;obtain⟨g,q,h1,h2⟩:=zS h;split at h2
 .cases h2;exact E.Vi 5 _ _ _ _ h1
 .cases h2
end
def fT:Fo->List (Wd×Nat)
 |.nil=>[]
 |.text _ r=>fT r
 |.hash r=>fT r
 |.put n a r=>(n,a)::fT r
 |.num n a r=>(n,a)::fT r
 |.br n a _ _ _ bs r=>(n,a)::(fT bs++fT r)
 |.uB _ _ m r=>fT m++fT r
def Il(rs:List Int):∀(f:Fo) (P Q:List Mk) (i:Nat),P.length<=i->i<P.length+(zu rs f).length->(YA (P++(zu rs f++Q)) i).kind=40->Yj (P++(zu rs f++Q)) i<P.length+(zu rs f).length
 |.nil,P,Q,i,h1,h2,_=>by simp[zu]at h2;omega
 |.text t r,P,Q,i,h1,h2,h3=>by
  have e:P++(zu rs (.text t r)++Q)=(P++[⟨116,t,[],[],[],0⟩])++(zu rs r++Q):=Dy
  have el:P.length+(zu rs (.text t r)).length=(P++[(⟨116,t,[],[],[],0⟩:Mk)]).length+(zu rs r).length:=Q5
  by_cases hi:i=P.length
  .subst hi;exfalso;revert h3
   unfold YA;rw[zM,zc (X _),ZO];show 116=40->False;decide
  .exact Ii
 |.hash r,P,Q,i,h1,h2,h3=>by
  have e:P++(zu rs (.hash r)++Q)=(P++[⟨35,[],[],[],[],0⟩])++(zu rs r++Q):=Dy
  have el:P.length+(zu rs (.hash r)).length=(P++[(⟨35,[],[],[],[],0⟩:Mk)]).length+(zu rs r).length:=Q5
  by_cases hi:i=P.length
  .subst hi;exfalso;revert h3
   unfold YA;rw[zM,zc (X _),ZO];show 35=40->False;decide
  .exact Ii
 |.put n a r,P,Q,i,h1,h2,h3=>by
  have e:P++(zu rs (.put n a r)++Q)=(P++[⟨112,[],n,[],[],yf rs a⟩])++(zu rs r++Q):=Dy
  have el:P.length+(zu rs (.put n a r)).length=(P++[(⟨112,[],n,[],[],yf rs a⟩:Mk)]).length+(zu rs r).length:=Q5
  by_cases hi:i=P.length
  .subst hi;exfalso;revert h3
   unfold YA;rw[zM,zc (X _),ZO];show 112=40->False;decide
  .exact Ii
 |.num n a r,P,Q,i,h1,h2,h3=>by
  have e:P++(zu rs (.num n a r)++Q)=(P++[⟨110,[],n,UE,[],yf rs a⟩])++(zu rs r++Q):=Dy
  have el:P.length+(zu rs (.num n a r)).length=(P++[(⟨110,[],n,UE,[],yf rs a⟩:Mk)]).length+(zu rs r).length:=Q5
  by_cases hi:i=P.length
  .subst hi;exfalso;revert h3
   unfold YA;rw[zM,zc (X _),ZO];show 110=40->False;decide
  .exact Ii
 |.br n a fo o c bs r,P,Q,i,h1,h2,h3=>by
  obtain⟨m,hm⟩:∃m:Mk,(⟨40,[],n,bC fo,o,yf rs a⟩:Mk)=m:=⟨_,rfl⟩;obtain⟨z,hz⟩:∃z:Mk,(⟨41,[],[],[],[],yf rs c⟩:Mk)=z:=⟨_,rfl⟩;have e1:P++(zu rs (.br n a fo o c bs r)++Q)=P++m::(zu rs bs++z::(zu rs r++Q)):=JZ
  have e2:P++(zu rs (.br n a fo o c bs r)++Q)=(P++[m])++(zu rs bs++(z::(zu rs r++Q))):=JZ
  have e3:P++(zu rs (.br n a fo o c bs r)++Q)=(P++m::(zu rs bs++[z]))++(zu rs r++Q):=JZ
  have el:P.length+(zu rs (.br n a fo o c bs r)).length=P.length+1+(zu rs bs).length+1+(zu rs r).length:=Q5
  rw[el]at h2|-
  by_cases hi:i=P.length
  .subst hi;rw[e1,MJ rs P _ m z bs (by rw[<-hm];rfl) (by rw[<-hz];rfl) (by rw[<-hz];rfl)];omega
  .by_cases hb:i<P.length+1+(zu rs bs).length
   .exact sZ
   .by_cases hc:i=P.length+1+(zu rs bs).length
    .exfalso;rw[e2]at h3;revert h3
     unfold YA;rw[zM,zc zV,zc zV];simp only[zI,xH];rw[show i - (P.length+1) - (zu rs bs).length=0 by omega,<-hz];show 41=40->False;decide
    .exact sY
 |.uB k a bs r,P,Q,i,h1,h2,h3=>by
  obtain⟨m,hm⟩:∃m:Mk,(⟨91,k,[],[],[],yf rs a⟩:Mk)=m:=⟨_,rfl⟩;obtain⟨z,hz⟩:∃z:Mk,(⟨93,[],[],[],[],0⟩:Mk)=z:=⟨_,rfl⟩;have e1:P++(zu rs (.uB k a bs r)++Q)=P++m::(zu rs bs++z::(zu rs r++Q)):=JZ
  have e2:P++(zu rs (.uB k a bs r)++Q)=(P++[m])++(zu rs bs++(z::(zu rs r++Q))):=JZ
  have e3:P++(zu rs (.uB k a bs r)++Q)=(P++m::(zu rs bs++[z]))++(zu rs r++Q):=JZ
  have el:P.length+(zu rs (.uB k a bs r)).length=P.length+1+(zu rs bs).length+1+(zu rs r).length:=Q5
  rw[el]at h2|-
  by_cases hi:i=P.length
  .exfalso;subst hi;rw[e1]at h3;revert h3
   unfold YA;rw[zM,zc (X _),ZO,<-hm];show 91=40->False;decide
  .by_cases hb:i<P.length+1+(zu rs bs).length
   .exact sZ
   .by_cases hc:i=P.length+1+(zu rs bs).length
    .exfalso;rw[e2]at h3;revert h3
     unfold YA;rw[zM,zc zV,zc zV];simp only[zI,xH];rw[show i - (P.length+1) - (zu rs bs).length=0 by omega,<-hz];show 93=40->False;decide
    .exact sY
def Wj(r:Int)(rs:List Int)(i:Nat):yf (r::rs) (i+1)=(enc r).length+yf rs i:=by
 unfold yf;rw[qO,zn,zI]
def zcv(l:List UInt8):Xs (dV l).1:=by
 have hb:=(l.getD 0 0).toNat_lt;have a:=(l.getD 1 0).toNat_lt;have b:=(l.getD 2 0).toNat_lt;have c:=(l.getD 3 0).toNat_lt;unfold Xs dV kM;repeat' split
 all_goals (simp only[];omega)
def yqy(n:Nat)(h:Xs n):Tn (n:Int)/\enc (n:Int)=Lib.encodeRune (n:Int):=by
 have hv:Utf8.valid (n:Int)=true:=by unfold Utf8.valid;unfold Xs at h;simp;omega
 have hn:n<=1114111:=h.1;have t:∀x:Int,∀k:Nat,x=(k:Int)->x.toNat.toUInt8=yW k:=λx k h=>by rw[h];rfl
 have tb:∀k:Nat,128<=k->k<256->128<=(yW k).toNat:=λk h1 h2=>by rw[vO,uC J];exact h1
 have he:enc (n:Int)=(if n<0x80 then [yW n]else if n<0x800 then [yW (0xC0+n / 64),yW (0x80+n % 64)]
   else if n<0x10000 then [yW (0xE0+n / 4096),yW (0x80+n / 64 % 64),yW (0x80+n % 64)]else [yW (0xF0+n / 262144),yW (0x80+n / 4096 % 64),yW (0x80+n / 64 % 64),yW (0x80+n % 64)]):=by
  unfold enc F9;simp only[hv,if_true,Int.toNat_natCast];repeat' split
  all_goals rfl
 refine⟨⟨J,λh1=>?_,λh1=>?_⟩,?_⟩
 .rw[he,zl J];rfl
 .rw[he,zL J];split
  .exact⟨zY,λc hc=>by
    simp only[yp,qW,or_false]at hc;rcases hc with rfl|rfl
    .exact Xg
    .exact Xg⟩
  split
  .exact⟨zY,λc hc=>by
    simp only[yp,qW,or_false]at hc;rcases hc with rfl|rfl|rfl
    .exact Xg
    .exact Xg
    .exact Xg⟩
  .exact⟨zY,λc hc=>by
    simp only[yp,qW,or_false]at hc;rcases hc with rfl|rfl|rfl|rfl
    .exact Xg
    .exact Xg
    .exact Xg
    .exact Xg⟩
 .rw[he];unfold Xs at h;unfold Lib.encodeRune;by_cases c1:n<128
  .rw[zl c1,Lib.encodeRuneZ_one J J];simp only[ve,YW];rw[t _ n rfl]
  rw[zL c1];by_cases c2:n<2048
  .rw[zl c2,Lib.encodeRuneZ_two J J];simp only[ve,YW];rw[t _ (192+n / 64) J,t _ (128+n % 64) J]
  rw[zL c2];by_cases c3:n<65536
  .rw[zl c3,Lib.encodeRuneZ_three J];simp only[ve,YW];rw[t _ (224+n / 4096) J,t _ (128+n / 64 % 64) J,t _ (128+n % 64) J]
  .rw[zL c3,Lib.encodeRuneZ_four J J];simp only[ve,YW];rw[t _ (240+n / 262144) J,t _ (128+n / 4096 % 64) J,t _ (128+n / 64 % 64) J,t _ (128+n % 64) J]
def Zs:∀(n:Nat) (l:List UInt8),l.length<=n->(∀r∈yS l,Tn r)/\(yS l).flatMap enc=l.take (xn l).2/\(yS l).length=(xn l).1.length /\
  ∀i,i<=(yS l).length->(xn (l.take (yf (yS l) i))).1.length=i
 | 0,l,h=>by
  have:l=[]:=zF J;subst this;exact pa
 |n+1,l,h=>by
  by_cases d:l=[]
  .subst d;exact pa
  by_cases c:yR l=0
  .have b:yS l=[]:=(by rw[yS,dif_pos (.inr c)]);refine⟨λr hr=>(by rw[b]at hr;cases hr),by rw[b,fk c];simp,by rw[b,fk c];rfl,λi hi=>?_⟩;rw[b]at hi;have:i=0:=(by simpa using hi);rw[this];exact oe
  .have j:=dA l;obtain⟨i1,k,m,i4⟩:=Zs n (l.drop (yR l)) zV;have hp:=yqy _ (zcv l);have hd:(dV l).2=yR l/\¬((dV l).1=65533/\(dV l).2=1):=by
    cases l with
    |nil=>exact absurd rfl d
    |cons a r =>
     rcases KY a r with⟨q,_⟩|⟨q1,q2,p⟩
     .exact absurd q c
     .exact⟨q1.symm,p⟩
   have e:enc ((dV l).1:Int)=l.take (yR l):=by
    rw[hp.2];have he:=Lib.encode_decode l d (by rw[Bq];exact hd.2);rw[Bq]at he;rw[he,hd.1]
   have f:(enc ((dV l).1:Int)).length=yR l:=(by rw[e,xr];omega);rw[dc d c,kJ d c];refine⟨λr hr=>?_,?_,by simp[m],λi hi=>?_⟩
   .rcases yp.1 hr with rfl|hr
    .exact hp.1
    .exact i1 r hr
   .rw[zn,k,e,Kn]
   .cases i with
    |zero =>
     exact oe
    |succ i =>
     rw[Wj,f];have o:=i4 i (by simpa using hi);have hs:yR (l.take (yR l+yf (yS (l.drop (yR l))) i))=yR l:=BK c (WD _ _);have g:l.take (yR l+yf (yS (l.drop (yR l))) i)≠[]:=by
      intro q;have:=congrArg qj q;rw[xr,ur]at this;have:=xI.2 d;omega
     rw[kJ g (by rw[hs];exact c),hs,List.drop_take,dD];simp[o]
def yof(s:ByteArray)(h:(xn s.data.toList).2=s.size):jc s (yS s.data.toList) where
 ok:=(Zs _ s.data.toList (X _)).1
 eq:=by
  rw[(Zs _ s.data.toList (X _)).2.1,h,xJ zY]
def iH(s:ByteArray){i:Nat}(hi:i<=(yS s.data.toList).length):(xn (s.data.toList.take (yf (yS s.data.toList) i))).1.length=i :=
 (Zs _ s.data.toList (X _)).2.2.2 i hi
variable{A:Nat}
def Wp(s:ByteArray)(m:Mk):List (Wd×Nat):=if m.name=[]then []else [(m.name,fW s m.pl)]
def D4(s:ByteArray)(l:List Mk):List (Wd×Nat):=l.flatMap (Wp s)
structure yqx(A:Nat)(wr:z7)(vo vp:zx)(acc:List (Wd×Nat)):Prop where
 o:wr.ownsRow A 9 1 vo acc.length (acc.map λx=>zv x.1)
 p:wr.ownsRow A 3 1 vp acc.length (acc.map λx=>yF .i64 (x.2:Nat))
 d:∀g,vo.ownBlock=some g->vp.ownBlock≠some g
def yqx.below{a b:zx}{acc:List (Wd×Nat)}(h:yqx A w a b acc)(hb:zJ w w'):yqx A w' a b acc:=⟨vx h.o hb,vx h.p hb,h.d⟩
end Go.Proofs.YtfcemhlpdcnckaaGreatDoor
