import Derived.Test.YtpggmjffejgakaaGreatDoorJG5
import Derived.Deep.CutRange
import Derived.Laws.IdiomRangeMap
import Derived.Maps.Own
import Derived.Maps.Views
import Derived.Recover
import Derived.WalkSmall
import Derived.Deep.LoopGhost
set_option linter.defProp false
set_option maxHeartbeats 64000000
open Go renaming Addr->yM,Calls->zC,Ending->xU,Leaves->UA,Oper->jk,PanicEntry->Eg,Program->VI,TypeId->xm,World->z8,bodyPostD->OU,bodyPost_ret->yK,callsD_of_wpS->EL,iterPos_of->jc,leaves_cons->qb,plainElem_int->bK,results->yN,run_convert_bytes_back->KK,run_underlying->kQ,settle->Eu,wp_region_noPanic->j5
open Go.Addr renaming mk->xjy
open And renaming intro->zg
open Array renaming ext_getElem?->wV,getElem?_eq_none->Zu,getElem?_modify->vp,getElem?_setIfInBounds->Ef,replicate->xl
open Go.RowKit renaming Below->yD
open Go.RowKit.Below renaming alloc->KY,refl->zv,setCell->ZD
open Bool renaming and_eq_true->zx,eq_false_iff->zr3,eq_iff_iff->xO,false_and->oq,false_eq_true->Vx,not_eq_true->VG,not_eq_true'->qu,or_eq_false_iff->zr1,or_eq_true->vR,true_and->gR
open ByteArray renaming empty->Y5,mk->vO
open Classical renaming byContradiction->yu
open Go.Code renaming region->Vz
open Go.DataW renaming map->yf8
open Except renaming ok->yzx
open Go.Exit renaming thenS->Fq
open Go.Instr renaming lookup->TZ,mapUpdate->TY,slice->Vu,typeAssert->zA
open Int renaming toNat_natCast->VH
open Go.IntKind renaming i64->vH,u32->yey,wrap_u32'->oX
open Go.Lib renaming decodeN->jI,encodeRune->yA,encodeRuneZ->TQ,hid->Z,idxFromS->iq,iterAt_heap->vq0,iterAt_other->xrf,iterAt_size->vq1,run_next_end_at->yez
open List.Pairwise renaming map->LK
open List renaming all_cons->vh,all_eq_true->zi,all_takeWhile->yfb,append_assoc->yk,append_eq_nil_iff->KE,append_nil->jJ,cons_append->xX,drop_drop->Xy,drop_eq_getElem_cons->yY,drop_eq_nil_of_le->bn,drop_left->oY,drop_of_length_le->yI,eq_nil_of_length_eq_zero->zN,flatMap_append->yn,flatMap_cons->zh,flatMap_nil->xu6,flatten_cons->zr4,getD_cons_succ->Fk,getD_cons_zero->Yb,getD_eq_getElem?_getD->ze,getElem?_append_left->za,getElem?_append_right->xq,getElem?_cons_succ->qa,getElem?_cons_zero->qA,getElem?_drop->TR,getElem?_eq_getElem->zk,getElem?_eq_none->qT,getElem?_eq_some_iff->zF,getElem?_map->og,getElem?_set->FR,getElem?_toArray->gV,getElem_append_left->zzu,getElem_mem->yf,isPrefixOf_iff_prefix->gL,length->xD,length_append->zy,length_cons->zY,length_drop->yh,length_map->vg,length_nil->yF,length_pos_iff->yv,length_replicate->kl,length_singleton->gU,length_tail->OS,length_take->uK,lookup_cons->QN,map_append->TT,map_cons->vE,map_nil->zpd,mem_append->zS,mem_append_right->zzg,mem_cons->yX,mem_cons_of_mem->uk,mem_cons_self->qI,mem_filter->ux,mem_iff_getElem->ql,mem_map->uQ,mem_of_find?_eq_some->OV,mem_of_getElem?->zW,mem_range->Y0,mem_singleton->zJ,nil_append->xK,nodup_append->yex,nodup_cons->Yz,nodup_nil->bl,prefix_append->Dv,prefix_refl->xk,range->xB,replicate->zX,setIfInBounds_toArray->QL,sum_cons->Oc,takeWhile_append_dropWhile->ZB,takeWhile_cons->wQ,takeWhile_cons_of_neg->dU,takeWhile_cons_of_pos->vZ,takeWhile_prefix->KX,take_append_drop->Xx,take_of_length_le->yr,take_succ_eq_append_getElem->yj
open List.cons renaming inj->Zf
open Go.Maps renaming atKey_put_other->dT,atKey_put_same->UW,int_keyed->vz0,keyOf_int_mk->yev,string_keyed->xE
open Nat renaming add_assoc->kh,add_mul->ki,eq_zero_or_pos->xu4,le_of_eq->TV,le_of_not_lt->yfd,le_refl->Y,le_trans->zj,lt_irrefl->kD,lt_of_lt_of_le->zD,lt_or_ge->uM,lt_succ_self->dQ,mod_eq_of_lt->OQ,not_lt_zero->KV,succ_pos->vz6,zero_add->uE,zero_le->zQ
open Go.NoPanic renaming normal->je
open Go.Op renaming equalIn->VF
open Go.Oper renaming wp->kd
open Option renaming bind_some->yzq,isSome_iff_exists->LJ,map_some->QM
open Option.some renaming inj->zL
open Go.Region renaming Mode->kG,noSelect->vX
open Go.Result renaming andThen->ym
open UInt8 renaming ofNat->uC,toNat_ofNat'->Ev
open UInt8.toNat renaming inj->Y6
open Go.Utf8 renaming encode->Y1,valid->Dz
open Go.WideMaps renaming keyOf_string_mk->xu
open Go.World renaming block_lt_of_cell?->X,cell?->Fu,cell?_alloc_lt->zc,cell?_of_block->yE,frozen?_setCell->zO,iter_heap->ye9,ownsMap_made->Hl,ownsRow_nil->xx,setCell->xg
open Go.Proofs.Tryz
namespace Go.Proofs.YtpggmjffejgakaaGreatDoor
open Go Go.RowKit
set_option maxRecDepth 10000
variable{s:MkS}{I d k mb n op q:Nat}{F':Nat->Prop}{kv tv vC vI:Value}{w w':z8}
def tgN(l:List uG):Nat:=(l.map λi=>i.tg.length+1).sum
def D7(code:List uG)(k:Nat)(i:uG):List (Option Nat):=(if cN i.op=true then [some (k+1)]else [])++i.tg.map (qo code code.length)
def zmv(l:List (Option Nat)):List Value:=l.map λo => .int .i64 (C8 o)
def jR.zmu{b:Nat}{f:Nat->Option Nat}(h:jR w b n f) :
  ∃(c:Int) (t:Bool),(TZ 82 (.map (some b)) (.int .i64 (-1)) true).run Tryz.prog w = .ok (.tuple #[c,.bool t]) w:=by
 obtain⟨D,h1,d⟩:=h;obtain⟨v,ps,a,hv⟩:=h1.look_ok (vz0 underlying3) underlying82 (z := .int .i64 0) Qa (bK underlying3 zR)
  (key := .int .i64 (-1)) (yev underlying3 zR)
 obtain⟨c,rfl,hc,_⟩:=plainElem_int_inv underlying3 hv;exact⟨c,_,a⟩
def sI(n:Nat)(w:z8)(hn:n<=2000000):∃w',(Instr.makeSlice 85 (.int .i64 0) (n:Int)).run Tryz.prog w = .ok (.slice (w,0) 0 n) w'/\w'.ownsRow 0 3 1 (.slice (w,0) 0 n) 0 []/\Fr yH yH w w':=by
 obtain⟨i,hi,d,h2,h3⟩:=qt.info;obtain⟨w',hr,c,a⟩:=run_make_own (P:=Tryz.prog) w 0 85 3 i _ 1 qt.under hi d h2 .i64 .i64 n GX dO (zQ _);exact⟨w',hr,c,a.os,a.tape,a.output,a.size,λk b _=>a.block k b zZ,λ_ q=>q.elim⟩
def inV(op:Nat):Bool:=decide (5<=op/\op<=9)
def D8(b:Bool)(d:Nat):Bool:=decide ((b=true/\d=0)\/6<d)
def ykb{d1:Nat}(h0:op=0->d=0)(h1:d1=if op=4 then d+1 else d):jY op d=if D8 (inV op) d1=true then none else some (if op=5 then d1 - 1 else d1):=by
 subst h1;unfold jY D8 inV;simp only[vJ];by_cases a:op=0
 .obtain rfl:=h0 a;subst a;simp
 by_cases b:op=4
 .subst b;simp
 by_cases c:5<=op/\op<=9
 .simp[a,b,c]
 .simp only[a,b,c,if_false,decide_false,Vx,false_and,false_or];rw[yz (show ¬op=5 by omega)]
def ug.fr{rs:List (Value×Value)}(h:ug q s vC vI rs mb w)(hf:Fr yH F' w w'):ug q s vC vI rs mb w' :=
 ⟨hf.cell h.q0 id,hf.cell h.q1 id,hf.cell h.q2 id,hf.own h.cC (λ_ _=>id),hf.own h.cI (λ_ _=>id),h.rows.fr hf (λ_ q=>q.elim),h.mp.fr hf id⟩
def zey.at_{x:uG}{a:Nat}(h:zey q k x I n a kv tv w)(hp:zu w I (k*5+1) x.pos)(hf:Fr yH F' w w'):IV w' I (k*5) x kv tv :=
 ⟨hf.cell h.op id,hf.cell hp id,hf.cell h.v id,hf.cell h.kc id,hf.cell h.tc id,uq.pJ (hf.own h.kr (λ_ _=>id)),uq.pJ (hf.own h.tr (λ_ _=>id))⟩
def ug.vi0{rs:List (Value×Value)}{x:uG}(h:ug q s vC vI rs mb w)(b:s.code[k]? = some x):∃I d kv tv,zey q k x I s.code.length d kv tv w/\zu w I (k*5+1) x.pos:=by
 have i:=(zF.1 b).1;obtain⟨I,d,kv,tv,f⟩:=h.ins b;obtain⟨l,j,c,-,g,a⟩:=xf h.cI J;have e:=f.q1.symm.trans h.q1;rw[c]at e;cases e;obtain⟨r,hr⟩:∃r,rs[k]? = some r:=⟨_,zk GY⟩;exact⟨I,d,kv,tv,f,by rw[a _ J,Kr _ _ h.rows.len k 1 x r b hr J];rfl⟩
def xmf{F:Wd}{a b:Nat}(h:Hq F a b=true):∀l:List Nat,l.length=a->l≠[]->F≠[]:=λl e n q=>by
 subst q;cases l with
 |nil=>exact n rfl
 |cons y l=>subst e;simp[Hq]at h
def Np{rs:List (Value×Value)}(h:ug q s vC vI rs mb w)(hX:∀i∈s.code,cH i)(hF:qj w)(hc:∀c∈s.cs,c.length<=1000)(hn:s.code.length<=65535)(ht:tgN s.code<=1000000) :
  zC Tryz.prog 60 #[(q,0)] w λe w'=>e = .returned (.bool (fg s.cs s.code))/\Fr yH yH w w':=by
 have q1:=h.q1;obtain⟨n,S⟩:=zr s.code.length;obtain⟨pa,pc,rfl⟩:∃pa pc,vI = .slice pa n pc:=by
  rcases h.cI.2 with⟨e,e2⟩|⟨g',ry,cur,e,-⟩
  .exact⟨none,0,by rw[e,<-S];have:=e2;simp_all⟩
  .exact⟨_,_,by rw[e,<-S]⟩
 have HH:=Z (zg h (zg hX (zg hF hc)));clear h hX hF hc;have Em:=@run_makeMap Tryz.prog;have hM0:=jR.made w;obtain⟨W,hu,hM,hg⟩:=hM0.put 0 zR 0 zR zR;have hu2:(TY 82 (.map (some (w:Nat))) (.int .i64 0) (.int .i64 0)).run Tryz.prog (w.alloc (.map #[] 0)) = .ok () W:=hu;clear hu;obtain⟨M,hMs⟩:=zr (w:Nat);have hfM:Fr yH (· = M) w W:=by
  have hb:yD w w (w.alloc (.map #[] 0)):=(zv _ _).alloc (Y _) _;exact⟨hg.os.trans hb.os,hg.tape.trans hb.tape,hg.output.trans hb.output,zj hb.size hg.size,λk hk _=>(hg.block k (zD hk hb.size) (λe=>by cases e;exact kD _ hk)).trans (hb.block k hk),λk q => .inr (by rw[q,hMs];exact Y _)⟩
 rw[hMs]at hM hu2;have HMS:=Z hMs;have HM:=Z (zg hM hfM);have q1':=hfM.cell q1 id;have HN:=Z S;have hV0:fg s.cs s.code=UD s.cs s.code 0 (s.code.drop 0) (λx=>if 0=x then some 0 else none):=rfl;have HV0:=Z hV0;have HT:=Z ht;rw[S]at hn;clear hM0 hM hfM hV0 hg S ht;go_enter func60,ntmps60;go_wp2_with fail;clear hu2 Em;go_loopw [24] (λkv wr=>∃(k cnt:Nat) (D:Nat->Option Nat),kv = .int .i64 k/\k<=n/\jR wr M cnt D/\cnt+tgN (s.code.drop k)<=1000001/\fg s.cs s.code=UD s.cs s.code k (s.code.drop k) D/\(∀y e,D y=some e->e<=6)/\Fr yH (· = M) w wr) (λkv _=>n - (intOf kv).toNat)
 case atStart=>exact⟨0,1,_,rfl,zQ _,HM.o.1,by have:=HT.o;simp;omega,HV0.o,λy e he=>by split at he<;>cases he;omega,HM.o.2⟩
 case round =>
  obtain⟨k,cnt,D,rfl,hk,hm,l,hv,hD,hf⟩:=hrel;have HF:=Z hf;have q1r:=hf.cell q1 id;by_cases uo:k<n
  .have hkn:(k:Int)<(n:Int):=(by omega);have lB:k<s.code.length:=V3;obtain⟨x,hx⟩:=zr (s.code[k]);have Ij:s.code[k]? = some x:=(by rw[<-hx];exact zk lB);have hd:s.code.drop k=x::s.code.drop (k+1):=(by rw[<-hx];exact yY lB);have HXM:=Z (HH.o.2.1 x (zW Ij));obtain⟨I,ic,kv,tv,hI,hIp⟩:=HH.o.1.vi0 Ij;rw[hd]at l hv;obtain⟨HCN,HV,HDD,HMM⟩:=hdd l hv hD hm;have hI1:=hI.q1;have hpa:pa=some ⟨I,0,none⟩:=(by have:=hI1.symm.trans q1;cases this;rfl);subst hpa;have TC:=hm.look k J;have HIM:=Z (zg hI hIp);obtain⟨o,u⟩:=zr (D k);rw[u]at TC;have HO:=Z u;clear hf hm l hv hD hx Ij hd hI hIp u hI1;cases o with
   |none =>
    have HB:=Z (show fg s.cs s.code=false by rw[HV.o,UD,HO.o]);exact zq2
   |some d =>
    have iV:=HDD.o k d HO.o;have E:=HXM.o;have r:=HIM.o.1.at_ HIM.o.2 HF.o;have HFT:=Z (sH (i:=x) (g:=I) (o:=k*5) (kv:=kv) (tv:=tv) (HH.o.1.fr HF.o) r E.op (xmf E.ex _ rfl) (λop h=>HF.o.cell (HH.o.2.2.1 op h) id) (λy h=>by have:=E.k y h;omega) (by have:=E.v;omega) HH.o.2.2.2 (by have:=E.len;omega));have i0:=r.c0;have HIA:=Z r;clear r;go_wp2_with fail;refine HFT.o.mono ?_;rintro e w5 ⟨rfl,OO⟩;have i05:=OO.cell i0 id;have wI:=Z OO;clear OO i0 q1r;cases hb:X7 s.cs x
    .have HB:=Z (show fg s.cs s.code=false by rw[HV.o,UD,HO.o];simp only[hb,oq]);clear hb;exact zy9
    .have z:=Z (show fg s.cs s.code=match jY x.op d with|none=>false|some d2=>match TN k s.code.length d2 (D7 s.code k x) D with|none=>false|some D2=>UD s.cs s.code (k+1) (s.code.drop (k+1)) D2 by rw[HV.o,UD,HO.o];simp only[hb,gR];rfl);clear hb;have h12:=E.op;obtain⟨op,u⟩:=zr x.op;rw[u]at i05 h12 z;have HOP:=Z u;clear u E;go_upto_block 2 with fail
     go_cut [6,8,9]from 25 to 150 (λdv iv ov wc=>∃d1 b,dv = .int .i64 (d1:Nat)/\iv = .bool b/\b=inV op/\(∃c,ov = .bool c/\c=cN op)/\(op=0->d=0)/\d1=(if op=4 then d+1 else d)/\w5=wc)
     case first =>
      by_cases hz:op=0
      .subst hz;by_cases hd0:d=0
       .subst hd0;go_wp2;go_meet
        exact⟨0,_,rfl,rfl,by simp[inV,cN]⟩
       .have hdp:0<d:=(by omega);have hdi:(0:Int)<(d:Int):=J;have HB:=Z (show fg s.cs s.code=false by rw[z.o];simp[jY,hdp]);exact zy9
      .have vi4:op=1\/op=2\/op=3\/op=4\/op=5\/op=6\/op=7\/op=8\/op=9\/op=10\/op=11:=(by omega);rcases vi4 with rfl|rfl|rfl|rfl|rfl|rfl|rfl|rfl|rfl|rfl|rfl;all_goals
        go_wp2;go_meet
       all_goals exact⟨_,_,rfl,rfl,by simp[inV,cN]⟩
     case rest =>
      obtain⟨d1,b,rfl,rfl,hbi,⟨c,rfl,hci⟩,hz,Ti,rfl⟩:=hcut;have Jl:=ykb hz Ti;have hd7:d1<=7:=(by split at Ti<;>omega);rw[Jl,<-hbi]at z;have HBI:=Z (zg hbi hci);clear hbi hci;clear hz Ti Jl;go_upto_region 28 with fail
      go_cut [77]from 25 to 150 (λbv wc=>bv = .bool (D8 b d1)/\w5=wc)
      case first =>
       clear z HBI;have h0:d1=0\/¬d1=0:=Decidable.em _;by_cases h6:6<d1
       .have h6i:(6:Int)<(d1:Int):=(by omega);have h0i:((d1:Int)==0)=false:=yJ;have HE:=Z (λb:Bool=>(show D8 b d1=true by simp[D8,h6]));exact Wz
       .have h6i:¬(6:Int)<(d1:Int):=(by omega);rcases h0 with h0|h0
        .have h0i:((d1:Int)==0)=true:=(by simp;omega);have HE:=Z (λb:Bool=>(show D8 b d1=b by simp[D8,h6,h0]));clear h0;exact Wz
        .have h0i:((d1:Int)==0)=false:=(by simp;omega);have HE:=Z (λb:Bool=>(show D8 b d1=false by simp[D8,h6,h0]));clear h0;exact Wz
      case rest =>
       obtain⟨rfl,rfl⟩:=hcut;by_cases a:D8 b d1=true
       .have HB:=Z (show fg s.cs s.code=false by rw[z.o,yV a]);rw[a];exact zy9
       .rw[VG]at a;rw[a];rw[a,yz zR]at z;obtain⟨d2,EO⟩:=zr ((if op=5 then d1 - 1 else d1));rw[EO]at z;have hd5:op=5->1<=d1:=by
         intro h5;have h:=HBI.o.1;rw[h5]at h;rcases xu4 d1 with q|q
         .rw[q,h]at a;simp[D8,inV]at a
         .exact q
        have xmd:d1<=6:=by
         rcases uM 6 d1 with q|q
         .simp[D8,q]at a
         .exact q
        have xmb:d2<=6:=(by rw[<-EO];split<;>omega);have HD2:=Z EO;have HBD:=Z (zg hd5 (zg xmb xmd));clear EO a hd7 xmd hd5 xmb;go_upto_if 82 with fail
        go_cut [6]from 25 to 150 (λdv wc=>dv = .int .i64 d2/\w5=wc)
        case first =>
         by_cases h5:op=5
         .have h5i:((op:Int)==5)=true:=(by simp;omega);have hw:vH.wrap ((d1:Int) - 1)=((d2:Nat):Int):=by
           have:=HD2.o;rw[yV h5]at this;have:=HBD.o.1 h5;have:=HBD.o.2.2;exact Yy
          clear h5;go_wp2;go_meet
          exact⟨rfl,rfl⟩
         .have h5i:((op:Int)==5)=false:=(by simp;omega);have he:d1=d2:=(by have:=HD2.o;rw[yz h5]at this;exact this);subst he;clear h5;go_wp2;go_meet
          exact⟨rfl,rfl⟩
        case rest =>
         obtain⟨rfl,rfl⟩:=hcut;have Vc:=Z (HF.o.over wI.o (λ_ q=>q.elim));have HM5:=Z (HMM.o.fr wI.o id);have r:=HIM.o.1.at_ HIM.o.2 Vc.o;obtain⟨ta,tc,rfl⟩:=r.t.slice;have c4:=r.c4;have HT5:=Z r.t;have l:=HCN.o;obtain⟨m,hm⟩:=zr x.tg.length;have Um:m+1<=1000001:=(by simp only[tgN,vE,Oc,hm]at l;omega);rw[hm]at c4;have G:=Z hm;obtain⟨w6,Ke,Jn,gW⟩:=sI (m+1) w5 J;rw[show((m+1:Nat):Int)=(m:Int)+1 from rfl]at Ke;obtain⟨H,hH⟩:=zr ((if c=true then [some (k+1)]else ([]:List (Option Nat))));have O:=Z hH;have HO6:=Z Jn;have HF6:=Z gW;clear r l hm Jn gW hH i05;go_upto_if 92 with fail
         go_cut [10]from 25 to 150 (λtw wc=>wc.ownsRow 0 3 1 tw H.length (zmv H)/\Fr yH (zH tw) w5 wc)
         case first =>
          cases c
          .go_wp2;go_meet
           rw[<-O.o];exact⟨HO6.o,HF6.o.tg (λg hg => .inr AM)⟩
          .go_wp2_with (at_builtin;refine KM qt [_] 1 HO6.o J ?_);intro v7 w7 U Q;have HO7:=Z U;have HF7:=Z (HF6.o.tr Q (λg hg => .inr AM));clear U Q;go_wp2;go_meet
           rw[<-O.o];exact⟨HO7.o,HF7.o⟩
         case rest =>
          obtain⟨hOw,hFw⟩:=hcut;have c4w:=hFw.cell c4 id;have HOW:=Z hOw;have HFw:=Z hFw;clear hOw hFw Ke;go_wp2_with fail;go_loopw [10,103] (λtw jv wr2=>∃j,jv = .int .i64 (j:Nat)/\j<=m/\wr2.ownsRow 0 3 1 tw (H.length+j) (zmv (H++(x.tg.take j).map (qo s.code s.code.length)))/\Fr yH (zH tw) w5 wr2) (λ_ jv _=>m - (intOf jv).toNat)
          case atStart=>exact⟨0,rfl,zQ _,by simpa using HOW.o,HFw.o⟩
          case round =>
           obtain⟨j,rfl,hj,u,A⟩:=hrel;have VE:=Z A;by_cases hjm:j<m
           .have OK:(j:Int)<(m:Int):=(by omega);have lY:j<x.tg.length:=(by rw[G.o];exact hjm);obtain⟨a2,Gk,AW,Vj,Xq,F⟩:=HT5.o.ex;obtain⟨p,hp⟩:=zr (x.tg[j]);obtain⟨bb,rfl,hb⟩:=(by cases AW;exact F j lY:∃b,ta=some b/\w5.cell? (b.add j)=some (.int .i64 x.tg[j]));rw[hp]at hb;have Ei:=A.cell hb id;have V:x.tg.take (j+1)=x.tg.take j++[p]:=(by rw[yj lY,hp]);have Rp:p<=4000000000:=(by have:=HXM.o.t p (by rw[<-hp];exact yf lY);omega);have hPA:=(HH.o.1.fr (Vc.o.over A (λ_ q=>q.elim)));have HAT:=Z (Gm q mb s.code.length p _ wr hPA.q2 hPA.mp Rp);have HO:=Z u;have HTK:=Z V;have hH1:H.length<=1:=(by rw[<-O.o];split<;>simp);have hLB:=Z (show H.length+j+1<=2147483648 by omega);clear AW Vj Xq F hp hb A V Rp hPA u hH1;go_wp2_with fail;refine HAT.o.mono ?_;rintro e w9 ⟨rfl,rfl⟩;go_wp2_with (at_builtin;refine KM qt [_] 1 HO.o hLB.o ?_);intro v7 w7 U Q;have HO7:=Z U;have HF7:=Z (VE.o.trans Q);clear U Q;go_wp2;go_roundw
            case rel=>exact⟨j+1,uN,J,by have h:=HO7.o;rw[HTK.o,TT,<-yk,List.map_take];unfold zmv at h|-;rw[TT];exact h,HF7.o⟩
            case measure=>simp only[intOf];omega
           .have OK:¬(j:Int)<(m:Int):=(by omega);have xn0:j=m:=J;obtain⟨L,hL⟩:=zr (H.length+m);obtain⟨T,hT⟩:=zr (H++x.tg.map (qo s.code s.code.length));have hTL:T.length=L:=(by rw[<-hT,zy,vg,G.o,hL]);have hto:D7 s.code k x=T:=(by rw[<-hT,<-O.o];unfold D7;rw[HOP.o,<-HBI.o.2]);have hL1:L<=m+1:=(by rw[<-hL,<-O.o];split<;>simp<;>omega);rw[xn0,hL,yr (TV G.o),hT]at u;obtain⟨t0,t1,rfl⟩:=zn u;have viy:M<(w5:Nat):=HM5.o.lt;have hrM:∀g,zH (.slice t0 L t1) g->g≠M:=λg hg e=>by
             rcases A.fp g hg with q|q
             .exact q
             .omega
            have hm8:=HM5.o.fr A id;have l:=HCN.o;simp only[tgN,vE,Oc,G.o]at l;obtain⟨HV8,HT8,HB8,HRM,Pb⟩:=Jl (show fg s.cs s.code=match TN k n d2 T D with|none=>false|some D2=>UD s.cs s.code (k+1) (s.code.drop (k+1)) D2 by rw[z.o,hto,HN.o]) (zg hTL (zg hto u)) (Vc.o.over A (λ_ q=>q.elim)) hrM hL1;clear xn0 hL hT hTL hto hL1 viy hrM A u c4w c4;go_wp2_with fail;go_loopw [116] (λjv wr3=>∃(i c3:Nat) (D3:Nat->Option Nat),jv = .int .i64 (i:Nat)/\i<=L/\jR wr3 M c3 D3/\c3+(L - i)+((s.code.drop (k+1)).map λi=>i.tg.length+1).sum<=1000001/\fg s.cs s.code=(match TN k n d2 (T.drop i) D3 with|none=>false|some D2=>UD s.cs s.code (k+1) (s.code.drop (k+1)) D2)/\(∀y e,D3 y=some e->e<=6)/\Fr (· = M) (· = M) wr wr3) (λjv _=>L - (intOf jv).toNat)
            case atStart=>exact⟨0,cnt,D,rfl,zQ _,hm8,by have:=Pb.o;omega,HV8.o,HDD.o,Fr.refl _ _⟩
            case round =>
             clear hm8 l OK hj hjm;obtain⟨i,c3,D3,rfl,hi,f,F,N,hD3,P⟩:=hrel;have ON:=HB8.o.trans P;have q13:=ON.cell q1 id;have I3:=Z ON;have oR:=Z P;have hD6:=HBD.o.2.1;have hL6:L<=1000001:=(by have:=Pb.o;omega);by_cases hil:i<L
             .have hii:(i:Int)<(L:Int):=(by omega);have hiT:i<T.length:=(by rw[HT8.o.1];exact hil);obtain⟨o,u⟩:=zr (T[i]);have hdr:T.drop i=o::T.drop (i+1):=(by rw[<-u];exact yY hiT);obtain⟨g',ry,e1,e2,e3,e4⟩:=xf HT8.o.2.2 J;cases e1;have hc:=e4 i J;have hjc:(zmv T)[i]? = some (.int .i64 (C8 o)):=(by unfold zmv;rw[og,zk hiT,u];rfl);rw[hjc]at hc;have hgM:=HRM.o g' rfl;have hcr:=P.cell hc hgM;rw[hdr]at N;have C:=Z N;have Fs:=Z (zg f (zg F hD3));have hot:∀t,o=some t->t<=n:=by
               intro t e;have R:some t∈D7 s.code k x:=(by rw[HT8.o.2.1,<-e,<-u];exact yf hiT);unfold D7 at R;rw[zS]at R;rcases R with q|q
               .split at q
                .simp at q;omega
                .cases q
               .obtain⟨y,_,q⟩:=uQ.1 q;have:=NN _ _ _ _ q;have:=HN.o;omega
              clear hdr e2 e3 e4 hc hjc hgM P ON N F hD3 u hiT;cases o with
              |none =>
               obtain⟨cv,ct,TC⟩:=f.zmu;have HB:=Z (show fg s.cs s.code=false by rw[C.o,TN]);have hle:(-1:Int)<=(k:Int):=J;clear f hot;unfold C8 at hcr;exact iB
              |some t =>
               have htn:=hot t rfl;have TC:=f.look t J;unfold C8 at hcr;dsimp only at hcr;clear hot;obtain⟨o3,pN⟩:=zr (D3 t);rw[pN]at TC;have HO3:=Z pN;clear pN;by_cases V:t<=k
               .have viv:(t:Int)<=(k:Int):=(by omega);have HB:=Z (show fg s.cs s.code=false by rw[C.o,TN,yV (.inl V)]);clear f;exact iB
               .have viv:¬(t:Int)<=(k:Int):=(by omega);by_cases B:t=n
                .have HB:=Z (show fg s.cs s.code=false by rw[C.o,TN,yV (.inr (.inl B))]);have viu:((t:Int)==(n:Int))=true:=(by simp;omega);clear f B;exact iB
                .have viu:((t:Int)==(n:Int))=false:=(by simp;omega);by_cases hbd:∃e,o3=some e/\e≠d2
                 .obtain⟨e,rfl,hed⟩:=hbd;have viq:((e:Int)==(d2:Int))=false:=(by simp;omega);have HB:=Z (show fg s.cs s.code=false by rw[C.o,TN,yV (.inr (.inr (by rw[HO3.o];simpa using hed)))]);clear f B hed;exact iB
                 .have xn1:(D3 t).any (· ≠ d2)=false:=by
                   rw[HO3.o];cases o3 with
                   |none=>rfl
                   |some e=>simp;exact yu λq=>hbd ⟨e,rfl,q⟩
                  have HB:=Z (show fg s.cs s.code=(match TN k n d2 (T.drop (i+1)) (λx=>if t=x then some d2 else D3 x) with|none=>false|some D2=>UD s.cs s.code (k+1) (s.code.drop (k+1)) D2)by rw[C.o,TN,yz (by rintro(q|q|q);exact V q;exact B q;rw[xn1]at q;cases q)]);obtain⟨w9,hp9,hm9,K⟩:=f.put t J d2 J (by have:=Fs.o.2.1;omega);have HF9:=Z (show Fr (· = M) (· = M) wr w9 from⟨K.os,K.tape,K.output,K.size,λk hk hn=>K.block k hk (λe=>hn (zL e)),λ_ q => .inl q⟩);have HM9:=Z hm9;have vik:=Z hbd;clear f B xn1 hm9 K hbd;cases o3 with
                  |none =>
                   exact zgk
                  |some e =>
                   have hed:e=d2:=yu λq=>vik.o ⟨e,rfl,q⟩
                   have viq:((e:Int)==(d2:Int))=true:=yJ;clear hed;exact zgk
             .have hii:¬(i:Int)<(L:Int):=(by omega);have hiL:i=L:=J;rw[hiL,<-HT8.o.1,List.drop_length]at N;have C:=Z (show fg s.cs s.code=UD s.cs s.code (k+1) (s.code.drop (k+1)) D3 from N);have Fs:=Z (zg f (zg F hD3));clear N f F hD3 hiL P ON;go_wp2;go_roundw
              case rel=>exact⟨k+1,c3,D3,uN,J,Fs.o.1,by have:=Fs.o.2.1;simp only[tgN];omega,C.o,Fs.o.2.2,I3.o⟩
              case measure=>simp only[intOf];omega
  .have hkn:¬(k:Int)<(n:Int):=(by omega);have HB:=Z (show fg s.cs s.code=true by rw[hv,bn (by rw[HN.o];omega),UD]);clear hv hm l hD hf;exact zq2
def zmq(k n o:Nat):∀(T:List (Option Nat)) (D:Nat->Option Nat),(∀t∈T,∃j,t=some j/\k<j/\j≠n/\(D j=none\/D j=some o))->∃f,TN k n o T D=some f/\∀y,f y=if some y∈T then some o else D y
 |[],D,_=>⟨D,rfl,λy=>zZ⟩
 |t::T,D,h=>by
  obtain⟨j,rfl,h1,h2,d⟩:=h t (.head _);obtain⟨f,e,l⟩:=zmq k n o T (λx=>if j=x then some o else D x) (λt' g=>by
   obtain⟨i,rfl,a,b,c⟩:=h t' (.tail _ g);refine⟨i,rfl,a,b,?_⟩;by_cases e:j=i
   .exact .inr (by simp[e])
   .simp only[e,if_false];exact c)
  refine⟨f,?_,λy=>?_⟩
  .rw[TN,yz,e];rintro(q|q|q)
   .omega
   .exact h2 q
   .rcases d with d|d
    .rw[d]at q;simp at q
    .rw[d]at q;simp at q
  .rw[l];by_cases hy:some y∈T
   .simp[hy]
   .by_cases e:j=y
    .simp[e]
    .rw[yz hy,yz e,yz];intro q;rcases yX.1 q with q|q
     .cases q;exact e rfl
     .exact hy q
structure ycy(cs:List Wd)(code:List uG)(h:Nat->Nat):Prop where
 h0:h 0=0
 fit:∀i∈code,X7 cs i=true
 step:∀k x,code[k]? = some x->∃o,jY x.op (h k)=some o/\∀t∈D7 code k x,∃j,t=some j/\k<j/\j<code.length/\h j=o
 led:∀k,0<k->k<code.length->∃j x,j<k/\code[j]? = some x/\some k∈D7 code j x
def SJ{cs:List Wd}{code:List uG}{h:Nat->Nat}(H:ycy cs code h):∀(r:List uG) (k:Nat) (D:Nat->Option Nat),code.drop k=r->(∀y e,D y=some e->e=h y)->(∀y,(y=0\/∃j x,j<k/\code[j]? = some x/\some y∈D7 code j x)->D y=some (h y))->UD cs code k r D=true
 |[],_,_,_,_,_=>rfl
 |i::r,k,D,hd,h1,h2=>by
  have f:k<code.length:=by
   rcases uM k code.length with q|q
   .exact q
   .rw[bn q]at hd;cases hd
  have hc:=yY f;rw[hd]at hc;obtain⟨n,p⟩:=Zf hc;have hi:code[k]? = some i:=by rw[zk f,<-n]
  have d:D k=some (h k):=h2 k (by
   rcases xu4 k with q|q
   .exact .inl q
   .exact .inr (H.led k q f))
  obtain⟨o,u,g⟩:=H.step k i hi;obtain⟨l,e,m⟩:=zmq k code.length o (D7 code k i) D (λt q=>by
   obtain⟨j,rfl,a,b,c⟩:=g t q;refine⟨j,rfl,a,J,?_⟩;cases s:D j with
   |none=>exact .inl rfl
   |some e=>exact .inr (by rw[h1 j e s,c]))
  rw[UD,d];simp only[H.fit i (zW hi),u,gR];rw[show TN k code.length o ((if cN i.op=true then [some (k+1)]else [])++i.tg.map (qo code code.length)) D=some l from e];simp only;refine SJ H r (k+1) l p.symm (λy e' he=>?_) (λy hy=>?_)
  .rw[m]at he;split at he
   .rename_i q;obtain⟨j,q1,_,_,c⟩:=g _ q;cases q1;cases he;exact c.symm
   .exact h1 y e' he
  .rw[m];split
   .rename_i q;obtain⟨j,q1,_,_,c⟩:=g _ q;cases q1;rw[c]
   .rename_i q;refine h2 y ?_;rcases hy with hy|⟨j,x,a,b,c⟩
    .exact .inl hy
    .rcases uM j k with z|z
     .exact .inr ⟨j,x,z,b,c⟩
     .have:j=k:=(by omega);subst this;rw[hi]at b;cases b;exact absurd c q
def xzb{cs:List Wd}{code:List uG}{h:Nat->Nat}(H:ycy cs code h):fg cs code=true :=
 SJ H _ 0 _ rfl (λy e he=>by
  split at he
  .rename_i q;cases he;rw[<-q,H.h0]
  .cases he) (λy hy=>by
  rcases hy with rfl|⟨j,x,a,_⟩
  .simp[H.h0]
  .omega)
variable{tg:List Nat}{i j k' p:Nat}
def AtP(s:MkS)(k p:Nat):Prop:=(k=s.code.length/\p=s.pos)\/∃x,s.code[k]? = some x/\x.pos=p
def Led(s:MkS)(P:Nat×Nat->Prop)(k':Nat):Prop:=∃k x,k<k'/\s.code[k]? = some x/\((cN x.op=true/\k'=k+1)\/∃j t,x.tg[j]? = some t/\¬P (k,j)/\AtP s k' t)
def Xz(s:MkS)(P:Nat×Nat->Prop):Prop:=s.code=[]\/Led s P s.code.length
structure Kk(s:MkS)(H:Nat->Nat)(P:Nat×Nat->Prop):Prop where
 step:∀k x,s.code[k]? = some x->∃o,jY x.op (H k)=some o/\(cN x.op=true->H (k+1)=o)/\∀j t,x.tg[j]? = some t->P (k,j)\/∃k',k<k'/\k'<=s.code.length/\AtP s k' t/\H k'=o
 led:∀k',0<k'->k'<s.code.length->Led s P k'
section
variable {s s':MkS} {H H':Nat->Nat} {P Q:Nat×Nat->Prop}
def AtP.eq(h:AtP s k p)(h1:s'.code=s.code)(h2:s'.pos=s.pos):AtP s' k p:=by unfold AtP at *;rw[h1,h2];exact h
def Kk.eq(h:Kk s H P)(h1:s'.code=s.code)(h2:s'.pos=s.pos):Kk s' H P:=by
 refine⟨λk x hx=>?_,λk' a b=>?_⟩
 .rw[h1]at hx|-;obtain⟨o,a,b,c⟩:=h.step k x hx;exact⟨o,a,b,λj t g=>(c j t g).imp id (λ⟨k',q1,q2,f,i⟩=>⟨k',q1,q2,f.eq h1 h2,i⟩)⟩
 .rw[h1]at b;obtain⟨k,x,c,d,e⟩:=h.led k' a b;exact⟨k,x,c,by rw[h1];exact d,e.imp id (λ⟨j,t,q1,q2,f⟩=>⟨j,t,q1,q2,f.eq h1 h2⟩)⟩
def Xz.eq(h:Xz s P)(h1:s'.code=s.code)(h2:s'.pos=s.pos):Xz s' P:=by
 rcases h with h|⟨k,x,c,d,e⟩
 .exact .inl (h1.trans h)
 .exact .inr ⟨k,x,by rw[h1];exact c,by rw[h1];exact d,e.imp (λq=>by rw[h1];exact q) (λ⟨j,t,q1,q2,a⟩=>⟨j,t,q1,q2,by rw[h1];exact a.eq h1 h2⟩)⟩
def Kk.ext(h:Kk s H P)(d:∀k,k<=s.code.length->H' k=H k):Kk s H' P:=by
 refine⟨λk x hx=>?_,h.led⟩;have i:=(zF.1 hx).1;obtain⟨o,a,b,c⟩:=h.step k x hx;exact⟨o,by rw[d k J];exact a,λq=>by rw[d _ J];exact b q,λj t e=>(c j t e).imp id (λ⟨k',q1,q2,f,g⟩=>⟨k',q1,q2,f,by rw[d k' q2];exact g⟩)⟩
def Kk.UE(h:Kk s H P)(f:∀k x j,s.code[k]? = some x->j<x.tg.length->(P (k,j) ↔ Q (k,j))):Kk s H Q:=by
 have g:∀{l:List Nat} {j t:Nat},l[j]? = some t->j<l.length:=λh=>(zF.1 h).1
 refine⟨λk x hx=>?_,λk' a b=>?_⟩
 .obtain⟨o,a,b,c⟩:=h.step k x hx;exact⟨o,a,b,λj t i=>(c j t i).imp (f k x j hx (g i)).1 id⟩
 .obtain⟨k,x,c,d,e⟩:=h.led k' a b;exact⟨k,x,c,d,e.imp id (λ⟨j,t,q1,q2,m⟩=>⟨j,t,q1,λq=>q2 ((f k x j d (g q1)).2 q),m⟩)⟩
def Xz.UE(h:Xz s P)(a:∀k x j,s.code[k]? = some x->j<x.tg.length->(P (k,j) ↔ Q (k,j))):Xz s Q:=by
 rcases h with h|⟨k,x,c,d,e⟩
 .exact .inl h
 .exact .inr ⟨k,x,c,d,e.imp id (λ⟨j,t,q1,q2,b⟩=>⟨j,t,q1,λq=>q2 ((a k x j d (zF.1 q1).1).2 q),b⟩)⟩
def ed{v:Nat}{ks:List Nat}(h:AtP s k p):AtP (s.put op v ks tg) k p:=by
 rcases h with⟨rfl,rfl⟩|⟨x,hx,hp⟩
 .exact .inr ⟨⟨op,s.pos,v,ks,tg⟩,VT,rfl⟩
 .exact .inr ⟨x,by rw[yp,za (zF.1 hx).1];exact hx,hp⟩
def n9{v:Nat}{ks:List Nat}(h:Led s P k')(a:∀p,p.1<s.code.length->Q p->P p):Led (s.put op v ks tg) Q k':=by
 obtain⟨k,x,c,d,e⟩:=h;have b:=(zF.1 d).1;exact⟨k,x,c,by rw[yp,za b];exact d,e.imp id (λ⟨j,t,q1,q2,f⟩=>⟨j,t,q1,λq=>q2 (a _ b q),ed f⟩)⟩
def Kk.push{o v d':Nat}{ks:List Nat}(h:Kk s H P)(he:Xz s P)(hd:jY op (H s.code.length)=some o)(l:cN op=true->d'=o) :
  ∃H',(∀k,k<=s.code.length->H' k=H k)/\Kk (s.put op v ks tg) H' (λp=>P p\/p.1=s.code.length)/\H' (s.code.length+1)=d'/\(cN op=true->Xz (s.put op v ks tg) (λp=>P p\/p.1=s.code.length)):=by
 have f:(s.put op v ks tg).code.length=s.code.length+1:=VT;have d:(s.put op v ks tg).code[s.code.length]? = some ⟨op,s.pos,v,ks,tg⟩:=VT;have g:∀k,k<=s.code.length->¬k=s.code.length+1:=λk i=>J
 refine⟨λk=>if k=s.code.length+1 then d' else H k,λk i=>yz (g k i),⟨λk x hx=>?_,λk' a b=>?_⟩,yV rfl,λm => .inr ⟨s.code.length,_,by rw[f];omega,d,.inl ⟨m,f⟩⟩⟩
 .rcases uM k s.code.length with i|i
  .rw[yp,za i]at hx;obtain⟨u,a,b,c⟩:=h.step k x hx;refine⟨u,by simp only[yz (g k J)];exact a,λq=>by simp only[yz (g (k+1) J)];exact b q,λj t n=>?_⟩;rcases c j t n with q|⟨k',q1,q2,w,y⟩
   .exact .inl (.inl q)
   .exact .inr ⟨k',q1,by rw[f];omega,ed w,by simp only[yz (g k' q2)];exact y⟩
  .have r:=(zF.1 hx).1;have:k=s.code.length:=(by omega);subst this;rw[d]at hx;cases hx;exact⟨o,by simp only[yz (g _ (Y _))];exact hd,λq=>by simp only[yV];exact l q,λj t n => .inl (.inr rfl)⟩
 .rcases uM k' s.code.length with i|i
  .exact n9 (h.led k' a i) (λp hp q=>q.elim id (λe=>J))
  .have:k'=s.code.length:=(by omega);subst this;rcases he with he|he
   .rw[he]at a;simp at a
   .exact n9 he (λp hp q=>q.elim id (λe=>J))
def Kk.more{o v:Nat}{ks:List Nat}(h:Kk s H P)(he:Xz s P)(hd:jY op (H s.code.length)=some o)(f:cN op=true) :
  ∃H',(∀k,k<=s.code.length->H' k=H k)/\Kk (s.put op v ks []) H' P/\H' (s.code.length+1)=o/\Xz (s.put op v ks []) P:=by
 obtain⟨H',a,b,c,d⟩:=h.push (v:=v) (ks:=ks) (tg:=[]) he hd (d':=o) (λ_=>rfl);have hc:∀k x j,(s.put op v ks []).code[k]? = some x->j<x.tg.length->((P (k,j)\/(k,j).1=s.code.length) ↔ P (k,j)):=λk x j hx g=>by
  refine⟨λq=>q.elim id (λe=>?_),.inl⟩;simp only at e;subst e;rw[yp]at hx;simp at hx;subst hx;simp at g
 exact⟨H',a,b.UE hc,c,(d f).UE hc⟩
def Dd(h:AtP s k p):AtP (s.xH i j) k p:=by
 rcases h with⟨rfl,rfl⟩|⟨x,hx,hp⟩
 .exact .inl ⟨(fN _ _ _).symm,rfl⟩
 .refine .inr ?_;rw[qh];split
  .exact⟨{ x with tg:=x.tg.set j s.pos },by rw[hx];rfl,hp⟩
  .exact⟨x,hx,hp⟩
def sL(h:slot s (i,j)=none):(s.xH i j).code=s.code:=by
 refine List.ext_getElem? λn=>?_
 rw[qh];split
 .rename_i e;subst e;cases hc:s.code[i]? with
  |none=>rfl
  |some x =>
   unfold slot at h;simp only[hc,yzq]at h;rw[QM,List.set_eq_of_length_le (by rcases uM j x.tg.length with q|q;rw[zk q]at h;cases h;exact q)]
 .rfl
def Kk.xH{x:uG}(h:Kk s H P)(hp:P (i,j))(hx:s.code[i]? = some x)(v:j<x.tg.length)(hd:jY x.op (H i)=some (H s.code.length)) :
  Kk (s.xH i j) H (λp=>P p/\p≠(i,j))/\Xz (s.xH i j) (λp=>P p/\p≠(i,j)):=by
 have hi:=(zF.1 hx).1;have l:(s.xH i j).code[i]? = some { x with tg:=x.tg.set j s.pos }:=by rw[qh,yV rfl,hx];rfl
 have f:AtP (s.xH i j) s.code.length s.pos:=Dd (.inl ⟨rfl,rfl⟩);have r:∀k',Led s P k'->Led (s.xH i j) (λp=>P p/\p≠(i,j)) k':=λk' ⟨k,y,c,d,e⟩=>by
  by_cases n:i=k
  .subst n;rw[hx]at d;cases d;refine⟨i,_,c,l,e.imp id (λ⟨m,t,q1,q2,q3⟩=>⟨m,t,?_,λq=>q2 q.1,Dd q3⟩)⟩;rw[FR,yz (λe=>q2 (by rw[<-e];exact hp))];exact q1
  .exact⟨k,y,c,by rw[qh,yz n];exact d,e.imp id (λ⟨m,t,q1,q2,q3⟩=>⟨m,t,q1,λq=>q2 q.1,Dd q3⟩)⟩
 refine⟨⟨λk y hy=>?_,λk' a b=>r k' (h.led k' a (by rw[fN]at b;exact b))⟩,.inr ⟨i,_,by rw[fN];exact hi,l,.inr ⟨j,s.pos,?_,λq=>q.2 rfl,by rw[fN];exact f⟩⟩⟩
 .by_cases n:i=k
  .subst n;rw[l]at hy;cases hy;obtain⟨o,a,b,c⟩:=h.step i x hx;refine⟨o,a,b,λm t g=>?_⟩;rw[FR]at g;split at g
   .rename_i e;subst e;have u:some s.pos=some t:=(by first|exact g|(rw[yV v]at g;exact g));cases u;rw[hd]at a;cases a;exact .inr ⟨s.code.length,hi,by rw[fN];exact Y _,f,rfl⟩
   .rename_i e;rcases c m t g with q|⟨k',q1,q2,q3,q4⟩
    .exact .inl ⟨q,λe'=>e (by cases e';rfl)⟩
    .exact zqy
  .rw[qh,yz n]at hy;obtain⟨o,a,b,c⟩:=h.step k y hy;refine⟨o,a,b,λm t g=>?_⟩;rcases c m t g with q|⟨k',q1,q2,q3,q4⟩
   .exact .inl ⟨q,λe'=>n (by cases e';rfl)⟩
   .exact zqy
 .show(x.tg.set j s.pos)[j]? = some s.pos;rw[FR,yV rfl,yV v]
end
def Qx{H:Nat->Nat}:∀(l:List (Nat×Nat)) (s:MkS) (P:Nat×Nat->Prop),Kk s H P->l.Nodup->(∀p∈l,∀x,s.code[p.1]? = some x->p.2<x.tg.length->P p/\jY x.op (H p.1)=some (H s.code.length)) ->
  Kk (uF l s) H (λp=>P p/\p ∉ l)/\((Xz s P\/∃p∈l,∃x,s.code[p.1]? = some x/\p.2<x.tg.length)->Xz (uF l s) (λp=>P p/\p ∉ l))
 |[],s,P,h,_,_=>⟨h.UE (λ_ _ _ _ _=>zZ),λq=>q.elim (λq=>q.UE (λ_ _ _ _ _=>zZ)) (λ⟨p,hp,_⟩=>by cases hp)⟩
 |q::l,s,P,h,hn,g=>by
  obtain⟨i,j⟩:=q;rw[Yz]at hn;by_cases hs:∃x,s.code[i]? = some x/\j<x.tg.length
  .obtain⟨x,hx,r⟩:=hs;obtain⟨h1,h2⟩:=g (i,j) (.head _) x hx r;obtain⟨u,v⟩:=h.xH h1 hx r h2;obtain⟨m,o⟩:=Qx l (s.xH i j) _ u hn.2 (λp hp y hy c=>by
    rw[qh]at hy;have f:p≠(i,j):=λe=>hn.1 (e▸hp)
    split at hy
    .rename_i e;subst e;rw[hx]at hy;cases hy;obtain⟨a,b⟩:=g p (.tail _ hp) x hx (by simpa using c);exact⟨⟨a,f⟩,by rw[fN];exact b⟩
    .obtain⟨a,b⟩:=g p (.tail _ hp) y hy c;exact⟨⟨a,f⟩,by rw[fN];exact b⟩)
   have hc:∀p:Nat×Nat,((P p/\p≠(i,j))/\p ∉ l) ↔ (P p/\p ∉ (i,j)::l):=λp=>by
    rw[yX,not_or,and_assoc]
   exact⟨m.UE (λ_ _ _ _ _=>hc _),λ_=>(o (.inl v)).UE (λ_ _ _ _ _=>hc _)⟩
  .have t:slot s (i,j)=none:=by
    unfold slot;cases hc:s.code[i]? with
    |none=>rfl
    |some x=>exact qT (yfd (λq=>hs ⟨x,hc,q⟩))
   have e:=sL t;obtain⟨m,o⟩:=Qx l (s.xH i j) P (h.eq e rfl) hn.2 (λp hp y hy c=>by
    rw[e]at hy|-;exact g p (.tail _ hp) y hy c)
   have hc:∀k x d,(uF l (s.xH i j)).code[k]? = some x->d<x.tg.length->((P (k,d)/\(k,d) ∉ l) ↔ (P (k,d)/\(k,d) ∉ (i,j)::l)):=λk x d hx r=>by
    refine⟨λ⟨a,b⟩=>⟨a,λq=>?_⟩,λ⟨a,b⟩=>⟨a,λq=>b (.tail _ q)⟩⟩;rcases yX.1 q with q|q
    .cases q;have h1:=SG l (s.xH i j) i x hx;obtain⟨y,hy,w⟩:=h1;rw[e]at hy;exact hs ⟨y,hy,J⟩
    .exact b q
   refine⟨m.UE hc,λq=>(o ?_).UE hc⟩;rcases q with q|⟨p,hp,y,hy,c⟩
   .exact .inl (q.eq e rfl)
   .rcases yX.1 hp with rfl|hp
    .exact absurd ⟨y,hy,c⟩ hs
    .exact .inr ⟨p,hp,y,by rw[e];exact hy,c⟩
where
 SG:∀(l:List (Nat×Nat)) (s:MkS) (n:Nat) (x:uG),(uF l s).code[n]? = some x->∃y,s.code[n]? = some y/\y.tg.length=x.tg.length
  |[],s,n,x,h=>⟨x,h,rfl⟩
  |p::l,s,n,x,h=>by
   obtain⟨y,a,b⟩:=SG l (s.xH p.1 p.2) n x h;rw[qh]at a;split at a
   .cases hc:s.code[n]? with
    |none=>rw[hc]at a;cases a
    |some z=>rw[hc]at a;cases a;exact⟨z,rfl,by simpa using b⟩
   .exact⟨y,a,b⟩
variable{bs:Fo}
def Fo.dp:Nat->Fo->Prop
 |_,.nil=>True
 |d,.text _ r=>r.dp d
 |d,.hash r=>0<d/\r.dp d
 |d,.put _ _ r=>r.dp d
 |d,.num _ _ r=>r.dp d
 |d,.br _ _ f _ _ bs r=>(if f=0 then bs.dp d else d+1<=6/\bs.dp (d+1))/\r.dp d
 |d,.xR _ _ m r=>m.dp d/\r.dp d
def Fo.kc:Fo->Prop
 |.nil=>True
 |.text _ r=>r.kc
 |.hash r=>r.kc
 |.put _ _ r=>r.kc
 |.num _ _ r=>r.kc
 |.br _ _ f _ _ bs r=>(f≠0->∀k∈bs.keys,k.head?≠some 61->k∈YQ)/\bs.xW=true/\bs.keys.Nodup/\qg∈bs.keys/\bs.kc/\r.kc
 |.xR _ _ m r=>m.yT=true/\m.kc/\r.kc
def ff(h:op=1\/op=2\/op=3\/op=10\/op=11)(hd:d<=6):jY op d=some d:=by
 have:¬6<d:=J;rcases h with rfl|rfl|rfl|rfl|rfl<;>simp[jY,this]
def JL(h:op=6\/op=7\/op=8\/op=9)(h1:0<d)(hd:d<=6):jY op d=some d:=by
 have a:¬6<d:=J;have b:¬d=0:=J;rcases h with rfl|rfl|rfl|rfl<;>simp[jY,a,b]
def eZ(hd:d+1<=6):jY 5 (d+1)=some d:=by
 have a:¬6<d+1:=J;simp[jY];omega
def eY(hd:d+1<=6):jY 4 d=some (d+1):=by
 simp[jY];omega
def VM(f:Fo):Prop:=∀(s:MkS) (H:Nat->Nat) (P:Nat×Nat->Prop) (d:Nat),f.kc->f.dp d->d<=6->Kk s H P->Xz s P->(∀p,P p->p.1<s.code.length)->H s.code.length=d ->
 ∃H',(∀k,k<=s.code.length->H' k=H k)/\Kk (MkS.Z7 f s) H' P/\Xz (MkS.Z7 f s) P/\H' (MkS.Z7 f s).code.length=d
structure xy1(s:MkS)(H:Nat->Nat)(R:Nat×Nat->Prop)(d:Nat)(ks:List Wd)(sl:Wd->List (Nat×Nat)):Prop where
 nd:∀k∈ks,(sl k).Nodup
 ex:∀k∈ks,∃p∈sl k,∃x,s.code[p.1]? = some x/\p.2<x.tg.length
 lt:∀k∈ks,∀p∈sl k,p.1<s.code.length
 ok:∀k∈ks,∀p∈sl k,∀x,s.code[p.1]? = some x->p.2<x.tg.length->R p/\jY x.op (H p.1)=some d
 cE:∀k∈ks,∀k'∈ks,k≠k'->∀p∈sl k,p ∉ sl k'
def VL(f:Fo):Prop:=∀(s:MkS) (H:Nat->Nat) (R:Nat×Nat->Prop) (d:Nat) (sl:Wd->List (Nat×Nat)) (bg:Wd->MkS->MkS) (ls:List Nat),f.kc->f.dp d->d<=6->(∀k x,bg k x=uF (sl k) x)->Kk s H R->(∀p,R p->p.1<s.code.length)->H s.code.length=d->f.keys.Nodup->xy1 s H R d f.keys sl ->
 ∃(H':Nat->Nat) (new:List Nat),(MkS.ur f bg s ls).2=ls++new/\(∀k,k<=s.code.length->H' k=H k)/\Kk (MkS.ur f bg s ls).1 H' (λp=>(R p/\∀k∈f.keys,p ∉ sl k)\/p∈new.map λi=>(i,0))/\H' (MkS.ur f bg s ls).1.code.length=d /\
  (∀e∈new,s.code.length<=e/\e<(MkS.ur f bg s ls).1.code.length/\∃x,(MkS.ur f bg s ls).1.code[e]? = some x/\x.op=11/\x.tg.length=1/\H' e=d)/\new.Nodup/\(f.keys≠[]->new≠[])
def Nr{s':MkS}(h:∀(i:Nat) (x:uG),s.code[i]? = some x->∃y,s'.code[i]? = some y/\shx y=shx x){y:uG}(hi:i<s.code.length)(hy:s'.code[i]? = some y):∃x,s.code[i]? = some x/\y.op=x.op/\y.tg.length=x.tg.length:=by
 obtain⟨y',a,b⟩:=h i _ (zk hi);rw[hy]at a;cases a;obtain⟨c,_,_,_,e⟩:=Q9 b;exact⟨_,zk hi,c,e⟩
def nz(Q:VL bs){H:Nat->Nat}{R P:Nat×Nat->Prop}{sl:Wd->List (Nat×Nat)}{c:Wd->MkS->MkS}(w:bs.kc)(hd:bs.dp d)(m:d<=6)(f:∀k x,c k x=uF (sl k) x)(hv:Kk s H R)(hR:∀p,R p->p.1<s.code.length)
  (N:H s.code.length=d) (hn:bs.keys.Nodup) (D:bs.keys≠[]) (E:xy1 s H R d bs.keys sl) (l:∀k x j,s.code[k]? = some x->j<x.tg.length->R (k,j)->P (k,j)\/∃key∈bs.keys,(k,j)∈sl key) (O:∀p,P p->R p/\∀key∈bs.keys,p ∉ sl key) :
  ∃H',(∀k,k<=s.code.length->H' k=H k)/\Kk (uF ((MkS.ur bs c s []).2.map λi=>(i,0)) (MkS.ur bs c s []).1) H' P/\Xz (uF ((MkS.ur bs c s []).2.map λi=>(i,0)) (MkS.ur bs c s []).1) P/\H' (uF ((MkS.ur bs c s []).2.map λi=>(i,0)) (MkS.ur bs c s []).1).code.length=d:=by
 obtain⟨H',new,G,I,F,A,v,K,L⟩:=Q s H R d sl c [] w hd m f hv hR N hn E;have t:=go_inv (Gn s) bs f s [] (DG s);have o:=(go_facts bs sl c f s []).1;obtain⟨g,S⟩:=zr ((MkS.ur bs c s []).1);rw[S]at F A v t o|-;rw[G,xK];have C:(new.map λi=>((i,0):Nat×Nat)).Nodup :=
   LK _ (λa b h e=>h BK) K
 obtain⟨v1,v2⟩:=Qx (new.map λi=>(i,0)) g _ F C (λp hp x hx _=>by
  obtain⟨e,he,rfl⟩:=uQ.1 hp;obtain⟨_,_,y,c1,c2,_,c4⟩:=v e he;simp only at hx;rw[hx]at c1;cases c1;refine⟨.inr hp,?_⟩;rw[c2,c4,A];exact ff J m)
 have n:=v2 (.inr (by
  obtain⟨e,he⟩:=List.exists_mem_of_ne_nil _ (L D);obtain⟨_,_,y,c1,_,c3,_⟩:=v e he;exact⟨(e,0),uQ.2 ⟨e,he,rfl⟩,y,c1,by simp only;omega⟩))
 have u:=Gp (Gn g) (new.map λi=>(i,0)) g (DG g);have B:=(ke (new.map λi=>((i,0):Nat×Nat)) g).1;have hc:∀k x j,(uF (new.map λi=>(i,0)) g).code[k]? = some x->j<x.tg.length->(((R (k,j)/\∀key∈bs.keys,(k,j) ∉ sl key)\/(k,j)∈new.map λi=>(i,0))/\(k,j) ∉ (new.map λi=>((i,0):Nat×Nat)) ↔ P (k,j)):=λk x j hx T=>by
  constructor
  .rintro⟨q|q,q2⟩
   .have w:=hR _ q.1;simp only at w;obtain⟨y,a1,_,a3⟩:=Nr u J hx;obtain⟨z,b1,_,b3⟩:=Nr t w a1;rcases l k z j b1 J q.1 with r|⟨key,r1,r2⟩
    .exact r
    .exact absurd r2 (q.2 key r1)
   .exact absurd q q2
  .intro q;have h1:=O _ q;refine⟨.inl h1,λh2=>?_⟩;obtain⟨e,he,M⟩:=uQ.1 h2;cases M;have:=(v _ he).1;have:=hR _ h1.1;exact Dt
 exact⟨H',I,v1.UE hc,n.UE hc,by rw[B];exact A⟩
def DE{r:Fo}(n:VM r){b:MkS}{H:Nat->Nat}{P:Nat×Nat->Prop}{v:Nat}{ks:List Nat}(a:b.code=s.code/\b.pos=s.pos)(f:r.kc)(e:r.dp d)(c:d<=6)(hv:Kk s H P)(he:Xz s P)(hP:∀p,P p->p.1<s.code.length)(m:H s.code.length=d)
  (h:jY op d=some d) (g:cN op=true):∃H',(∀k,k<=s.code.length->H' k=H k)/\Kk (MkS.Z7 r (b.put op v ks [])) H' P/\Xz (MkS.Z7 r (b.put op v ks [])) P/\H' (MkS.Z7 r (b.put op v ks [])).code.length=d:=by
 obtain⟨i,a1,a2,a3,a4⟩:=(hv.eq a.1 a.2).more (v:=v) (ks:=ks) (he.eq a.1 a.2) (by rw[a.1,m];exact h) g;rw[a.1]at a1 a3;have o:(b.put op v ks []).code.length=s.code.length+1:=by rw[yp,zy,a.1];rfl
 obtain⟨j,b1,b2,b3,l⟩:=n (b.put op v ks []) i P d f e c a2 a4 (λp hp=>BU) (by rw[o];exact a3);exact⟨j,λk f=>(b1 k J).trans (a1 k f),b2,b3,l⟩
def yj0{k:Wd}{a:Nat}{m r:Fo}(hm:VM m)(hr:VL r):VL (.xR k a m r):=by
 intro s H R d sl M ls hk U n h hv hR hH hn b;obtain⟨Em,W,hkr⟩:=hk;obtain⟨T,hdr⟩:=U;have t:(Fo.xR k a m r).keys=k::r.keys:=rfl;rw[t]at hn b|-;rw[Yz]at hn;obtain⟨v1,v2⟩:=Qx (sl k) s R hv (b.nd k (.head _)) (λp hp x hx u=>by
  obtain⟨b1,b2⟩:=b.ok k (.head _) p hp x hx u;exact⟨b1,by rw[hH];exact b2⟩)
 have l:=v2 (.inr (b.ex k (.head _)));have A:=(ke (sl k) s).1;obtain⟨N,E⟩:=zr (uF (sl k) s);have I:=Gp (Gn s) (sl k) s (DG s);rw[E]at v1 l A I;obtain⟨H2,c1,c2,c3,c4⟩:=hm N H _ d W T n v1 l (λp hp=>by have:=hR p hp.1;omega) (by rw[A];exact hH);obtain⟨f1,f2⟩:=s6 m N;have K:=mH (Gn s) m N I;obtain⟨c,F⟩:=zr (MkS.Z7 m N);rw[F]at c2 c3 c4 f1 f2 K;obtain⟨O,d1,d2,d3,-⟩:=c2.push (v:=0) (ks:=[]) (tg:=[0]) (op:=11) (o:=d) (d':=d) c3 (by rw[c4];exact ff J n) (λq=>kK);have V:MkS.ur (.xR k a m r) M s ls=MkS.ur r M (c.put 11 0 [] [0]) (ls++[c.code.length]):=by
  rw[go_leg,h,E,F]
 have B:(c.put 11 0 [] [0]).code.length=c.code.length+1:=by rw[yp,zy];rfl
 have g:(c.put 11 0 [] [0]).code[c.code.length]? = some ⟨11,c.pos,0,[],[0]⟩:=VT;have w:=(Gn s).put c 11 0 [] [0] K;rw[V];obtain⟨z,hs3⟩:=zr (c.put 11 0 [] [0]);rw[hs3]at d2 B g w|-;have S:∀i,i<s.code.length->O i=H i:=λi hi=>(d1 i J).trans (c1 i J)
 have G:xy1 z O (λp=>(R p/\p ∉ sl k)\/p.1=c.code.length) d r.keys sl:=by
  refine⟨λk' q=>b.nd k' (.tail _ q),λk' q=>?_,λk' q p hp=>by have:=b.lt k' (.tail _ q) p hp;omega,λk' q p hp x hx u=>?_,λk1 q1 k2 q2=>b.cE k1 (.tail _ q1) k2 (.tail _ q2)⟩
  .obtain⟨p,hp,x,hx,u⟩:=b.ex k' (.tail _ q);obtain⟨y,hy,hy2⟩:=w p.1 x hx;exact⟨p,hp,y,hy,by have:=(Q9 hy2).2.2.2.2;omega⟩
  .have C:=b.lt k' (.tail _ q) p hp;obtain⟨y,hy,P,Q⟩:=Nr w C hx;obtain⟨b1,b2⟩:=b.ok k' (.tail _ q) p hp y hy J;refine⟨.inl ⟨b1,λq2=>b.cE k' (.tail _ q) k (.head _) (λe=>hn.1 (e▸q)) p hp q2⟩,?_⟩;rw[S _ C,P];exact b2
 obtain⟨H',new,P,Q,e3,e4,e5,e6,e7⟩:=hr z O _ d sl M (ls++[c.code.length]) hkr hdr n h d2 (λp hp=>by
  rcases hp with hp|hp
  .have:=hR p hp.1;omega
  .exact J) (by rw[B];exact d3) hn.2 G
 have L:=go_inv (Gn z) r h z (ls++[c.code.length]) (DG z);have uqg:=(go_facts r sl M h z (ls++[c.code.length])).1;have D:c.code.length ∉ new:=λq=>by have:=(e5 _ q).1;omega
 refine⟨H',c.code.length::new,by rw[P,yk];rfl,λi hi=>?_,e3.UE (λi x j hx hj=>?_),e4,λe he=>?_,Yz.2 ⟨D,e6⟩,λ_ q=>kK⟩
 .rw[Q i J,d1 i J,c1 i J]
 .simp only[vE,yX];constructor
  .rintro(⟨q|q,q2⟩|q)
   .refine .inl ⟨q.1,λk' f=>?_⟩;rcases f with rfl|f
    .exact q.2
    .exact q2 k' f
   .have q:i=c.code.length:=q;subst q;obtain⟨y,a1,a2⟩:=L _ _ g;rw[hx]at a1;cases a1;have:=(Q9 a2).2.2.2.2;simp only[zY,yF]at this;exact .inr (.inl (by rw[show j=0 by omega]))
   .exact .inr (.inr q)
  .rintro(q|q|q)
   .exact .inl ⟨.inl ⟨q.1,q.2 k (.inl rfl)⟩,λk' f=>q.2 k' (.inr f)⟩
   .cases q;refine .inl ⟨.inr rfl,λk' f q=>?_⟩;have:=b.lt k' (.tail _ f) _ q;exact Dt
   .exact .inr q
 .rcases yX.1 he with rfl|he
  .obtain⟨y,a1,a2⟩:=L _ _ g;obtain⟨b1,_,_,_,b5⟩:=Q9 a2;exact⟨J,J,y,a1,b1,b5,by rw[Q _ J,d1 _ (Y _)];exact c4⟩
  .obtain⟨x1,x2,x3⟩:=e5 e he;exact⟨J,x2,x3⟩
def xy2:VL .nil:=by
 intro s H R d sl b ls _ _ _ _ hv _ a _ _;exact⟨H,[],by simp[MkS.ur],λ_ _=>rfl,hv.UE (λ_ _ _ _ _=>by simp[Fo.keys]),a,λe he=>(by cases he),bl,λq=>absurd rfl q⟩
variable{ks:List Wd}{c:Nat}
def CO:∀(f:Fo) (s:MkS) (acc:List Nat),f.xW=true->(MkS.vN f s acc).2.length=acc.length+(f.keys.filter (· ≠ qg)).length
 |.xR k a m r,s,acc,c=>by
  rw[MkS.vN,show(Fo.xR k a m r).keys=k::r.keys from rfl];by_cases b:k=qg
  .rw[yV b,List.filter_cons_of_neg (by simp[b])];exact CO r s acc c
  .rw[yz b,List.filter_cons_of_pos (by simp[b]),CO r (s.const k) (acc++[s.num k]) c];simp;omega
 |.nil,s,acc,_=>by simp[MkS.vN,Fo.keys]
 |.text _ _,_,_,h=>xc
 |.hash _,_,_,h=>xc
 |.put _ _ _,_,_,h=>xc
 |.num _ _ _,_,_,h=>xc
 |.br _ _ _ _ _ _ _,_,_,h=>xc
def eX(hn:ks.Nodup)(a:qg∈ks)(b:j<(ks.filter (· ≠ qg)).length+1):∃k∈ks,MkS.place ks k=j:=by
 rcases uM j (ks.filter (· ≠ qg)).length with q|q
 .have hm:=yf q;obtain⟨h1,h2⟩:=ux.1 hm;refine⟨_,h1,?_⟩;unfold MkS.place;rw[yz Bq];exact List.Nodup.idxOf_getElem (hn.filter _) _ q
 .refine⟨qg,a,?_⟩;unfold MkS.place;rw[yV rfl];omega
def xy3{n:Wd}{a:Nat}{o:Wd}{r:Fo}(hb:VL bs)(hr:VM r)(G:r.yT=true):VM (.br n a 0 o c bs r):=by
 intro s H P d m z g hv he hP K;obtain⟨-,E,w,h,B,C⟩:=m;obtain⟨u,hdr⟩:=z;rw[yV rfl]at u;rw[yq7 n a o c bs r s G];obtain⟨z1,z2⟩:=X1 n bs s;have L:(MkS.fy n bs s).2.length=(bs.keys.filter (· ≠ qg)).length+1:=by
  unfold MkS.fy;rw[CO bs _ _ E];simp;omega
 obtain⟨N,a1,a2,a3,-⟩:=(hv.eq z1 z2).push (v:=0) (ks:=(MkS.fy n bs s).2) (tg:=zX (MkS.fy n bs s).2.length 0) (op:=10) (o:=d) (d':=d) (he.eq z1 z2) (by rw[z1,K];exact ff J g) (λq=>kK);rw[z1]at a1 a3;have hS:(MkS.kT n bs s).code=s.code++[⟨10,s.pos,0,(MkS.fy n bs s).2,zX (MkS.fy n bs s).2.length 0⟩]:=s7 n bs s;have D:(MkS.kT n bs s).code.length=s.code.length+1:=by rw[hS];simp
 have t:(MkS.kT n bs s).code[s.code.length]? = some ⟨10,s.pos,0,(MkS.fy n bs s).2,zX (MkS.fy n bs s).2.length 0⟩:=by rw[hS];simp
 have a2:Kk (MkS.kT n bs s) N (λp=>P p\/p.1=s.code.length):=by
  have:=a2;rw[z1]at this;exact this
 have b:∀k p,p∈Ie n bs s k ↔ p=(s.code.length,MkS.place bs.keys k):=λk p=>by rw[Ie,zJ,z1]
 have f:∀x,(MkS.kT n bs s).code[s.code.length]? = some x->x.op=10/\x.tg.length=(bs.keys.filter (· ≠ qg)).length+1:=λx hx=>by
  rw[t]at hx;cases hx;exact⟨rfl,by rw[<-L];simp⟩
 obtain⟨O,b1,b2,b3,I⟩:=nz hb (P:=P) B u g (K9 n bs s) a2 (λp hp=>by
  rw[D];rcases hp with hp|hp
  .exact BU
  .exact J) (by rw[D];exact a3) w (λe=>by rw[e]at h;cases h)
  ⟨λk _=>by simp[Ie],λk m=>⟨_,(b k _).2 rfl,_,t,by have:=zif (ks:=bs.keys) k;show MkS.place bs.keys k<(zX _ 0).length;rw[kl,L];omega⟩,λk _ p hp=>by rw[(b k p).1 hp,D];exact dQ _,λk _ p hp x hx _=>by
   rw[(b k p).1 hp]at hx|-;obtain⟨q1,q2⟩:=f x hx;exact⟨.inr rfl,by rw[q1,a1 _ (Y _),K];exact ff J g⟩,λk m k' A F p hp l=>by
   rw[b]at hp l;rw[hp]at l;exact F (s8 m A (by injection l))⟩
  (λk x j hx S hR=>by
   rcases hR with hR|hR
   .exact .inl hR
   .have hR:k=s.code.length:=hR;subst hR;obtain⟨-,q2⟩:=f x hx;obtain⟨key,h1,h2⟩:=eX w h (j:=j) J;exact .inr ⟨key,h1,by rw[b,h2]⟩)
  (λp hp=>⟨.inl hp,λkey _ q=>by rw[b]at q;have:=hP p hp;rw[q]at this;exact kD _ this⟩)
 obtain⟨M,y⟩:=zr (uF ((MkS.ur bs (MkS.bL n bs s) (MkS.kT n bs s) []).2.map λi=>(i,0)) (MkS.ur bs (MkS.bL n bs s) (MkS.kT n bs s) []).1);have R:(MkS.kT n bs s).code.length<=M.code.length:=by
  rw[<-y,(ke _ _).1];exact(go_facts bs _ _ (K9 n bs s) _ []).1
 rw[y]at b2 b3 I|-;obtain⟨Q,c1,c2,c3,c4⟩:=hr M O P d C hdr g b2 b3 (λp hp=>BU) I;exact⟨Q,λk m=>by rw[c1 k J,b1 k J,a1 k m],c2,c3,c4⟩
def Ns:∀(bs:Fo) (s:MkS) (acc:List (Wd×Nat)) (H:Nat->Nat) (P:Nat×Nat->Prop) (d N:Nat),bs.xW=true->0<d->d<=6->N<=s.code.length->Kk s H (λp=>P p\/N<=p.1/\p.1<s.code.length)->Xz s (λp=>P p\/N<=p.1/\p.1<s.code.length)->H s.code.length=d ->
  (∀i,N<=i->i<s.code.length->∃x,s.code[i]? = some x/\x.op=7/\x.tg.length=1/\H i=d)->(∀p∈acc,N<=p.2/\p.2<s.code.length)->(∀i,N<=i->i<s.code.length->∃k,(k,i)∈acc) ->
  ∃H',(∀k,k<=s.code.length->H' k=H k)/\Kk (MkS.vq bs s acc).1 H' (λp=>P p\/N<=p.1/\p.1<(MkS.vq bs s acc).1.code.length)/\Xz (MkS.vq bs s acc).1 (λp=>P p\/N<=p.1/\p.1<(MkS.vq bs s acc).1.code.length)/\H' (MkS.vq bs s acc).1.code.length=d /\
   (∀i,N<=i->i<(MkS.vq bs s acc).1.code.length->∃x,(MkS.vq bs s acc).1.code[i]? = some x/\x.op=7/\x.tg.length=1/\H' i=d)/\(∀i,N<=i->i<(MkS.vq bs s acc).1.code.length->∃k,(k,i)∈(MkS.vq bs s acc).2)
 |.xR k a m r,s,acc,H,P,d,N,l,h0,g,z,hv,he,f,hx,ha,hb=>by
  rw[MkS.vq];split
  .obtain⟨n,a1,a2,a3,a4⟩:=hv.push (op:=7) (v:=yg k.tail) (ks:=[]) (tg:=[0]) (o:=d) (d':=d) he (by rw[f];exact JL J h0 g) (λ_=>rfl);have b:(s.put 7 (yg k.tail) [] [0]).code.length=s.code.length+1:=(by rw[yp];simp);have c:(s.put 7 (yg k.tail) [] [0]).code[s.code.length]? = some ⟨7,s.pos,yg k.tail,[],[0]⟩:=VT;have hc:∀p:Nat×Nat,((P p\/N<=p.1/\p.1<s.code.length)\/p.1=s.code.length) ↔ (P p\/N<=p.1/\p.1<(s.put 7 (yg k.tail) [] [0]).code.length):=λp=>by
    rw[b];constructor
    .rintro((q|q)|q)
     .exact .inl q
     .exact .inr ⟨q.1,J⟩
     .exact .inr ⟨J,J⟩
    .rintro(q|q)
     .exact .inl (.inl q)
     .by_cases e:p.1=s.code.length
      .exact .inr e
      .exact .inl (.inr ⟨q.1,J⟩)
   obtain⟨t,b1,b2,b3,u,w,y⟩:=Ns r (s.put 7 (yg k.tail) [] [0]) (acc++[(k,s.code.length)]) n P d N l h0 g J (a2.UE (λ_ _ _ _ _=>hc _)) ((a4 rfl).UE (λ_ _ _ _ _=>hc _)) (by rw[b];exact a3)
    (λi h1 h2=>by
     rw[b]at h2;by_cases e:i=s.code.length
     .subst e;exact⟨_,c,rfl,rfl,by rw[a1 _ (Y _)];exact f⟩
     .obtain⟨x,c1,c2,c3,c4⟩:=hx i h1 J;exact⟨x,by rw[yp,za J];exact c1,c2,c3,by rw[a1 i J];exact c4⟩)
    (λp hp=>by
     rw[b];rcases zS.1 hp with hp|hp
     .have:=ha p hp;omega
     .rw[zJ]at hp;rw[hp];simp only;omega)
    (λi h1 h2=>by
     rw[b]at h2;by_cases e:i=s.code.length
     .exact⟨k,zzg _ (by rw[e];exact zJ.2 rfl)⟩
     .obtain⟨k',j⟩:=hb i h1 J;exact⟨k',List.mem_append_left _ j⟩)
   exact⟨t,λi hi=>(b1 i J).trans (a1 i hi),b2,b3,u,w,y⟩
  .exact Ns r s acc H P d N l h0 g z hv he f hx ha hb
 |.nil,s,acc,H,P,d,N,_,_,_,_,hv,he,f,hx,_,hb=>⟨H,λ_ _=>rfl,hv,he,f,hx,hb⟩
 |.text _ _,_,_,_,_,_,_,h,_,_,_,_,_,_,_,_,_=>xc
 |.hash _,_,_,_,_,_,_,h,_,_,_,_,_,_,_,_,_=>xc
 |.put _ _ _,_,_,_,_,_,_,h,_,_,_,_,_,_,_,_,_=>xc
 |.num _ _ _,_,_,_,_,_,_,h,_,_,_,_,_,_,_,_,_=>xc
 |.br _ _ _ _ _ _ _,_,_,_,_,_,_,h,_,_,_,_,_,_,_,_,_=>xc
def CP:∀(bs:Fo) (s:MkS) (acc:List (Wd×Nat)),∀p∈(MkS.vq bs s acc).2,p∈acc\/p.1∈bs.keys
 |.xR k a m r,s,acc,p,hp=>by
  rw[MkS.vq]at hp;show p∈acc\/p.1∈k::r.keys;split at hp
  .rcases CP r _ _ p hp with q|q
   .rcases zS.1 q with q|q
    .exact .inl q
    .rw[zJ]at q;rw[q];exact .inr (.head _)
   .exact .inr (.tail _ q)
  .exact(CP r s acc p hp).imp id (.tail _)
 |.nil,_,_,_,hp => .inl hp
 |.text _ _,_,_,_,hp => .inl hp
 |.hash _,_,_,_,hp => .inl hp
 |.put _ _ _,_,_,_,hp => .inl hp
 |.num _ _ _,_,_,_,hp => .inl hp
 |.br _ _ _ _ _ _ _,_,_,_,hp => .inl hp
def Nt:∀(bs:Fo) (s:MkS) (acc:List (Wd×Nat)),bs.keys.Nodup->(∀p∈acc,p.1 ∉ bs.keys)->(acc.map (·.1)).Nodup->((MkS.vq bs s acc).2.map (·.1)).Nodup
 |.xR k a m r,s,acc,hn,h1,h2=>by
  rw[show(Fo.xR k a m r).keys=k::r.keys from rfl]at hn h1;rw[Yz]at hn;rw[MkS.vq];split
  .refine Nt r _ _ hn.2 (λp hp=>?_) ?_
   .rcases zS.1 hp with q|q
    .exact λz=>h1 p q (.tail _ z)
    .rw[zJ]at q;rw[q];exact hn.1
   .rw[TT,yex];refine⟨h2,zZ,λx hx y hy e=>?_⟩;obtain⟨p,hp,rfl⟩:=uQ.1 hx;simp only[vE,zpd,zJ]at hy;rw[hy]at e;exact h1 p hp (e ▸ .head _)
  .exact Nt r s acc hn.2 (λp hp z=>h1 p hp (.tail _ z)) h2
 |.nil,_,_,_,_,h2=>h2
 |.text _ _,_,_,_,_,h2=>h2
 |.hash _,_,_,_,_,h2=>h2
 |.put _ _ _,_,_,_,_,h2=>h2
 |.num _ _ _,_,_,_,_,h2=>h2
 |.br _ _ _ _ _ _ _,_,_,_,_,h2=>h2
def ny{l:List (Wd×Nat)}(h:(l.map (·.1)).Nodup){k:Wd}(hm:(k,i)∈l):l.lookup k=some i:=by
 induction l with
 |nil=>cases hm
 |cons p l b =>
  obtain⟨k',i'⟩:=p;rw[vE,Yz]at h;rw[QN];rcases yX.1 hm with e|e
  .cases e;simp
  .have a:¬k=k':=λq=>h.1 (by rw[<-q];exact uQ.2 ⟨_,e,rfl⟩)
   rw[show(k==k')=false by simpa using a];exact b h.2 e
variable{f:Fo}
def eV:∀(bs:Fo) (s:MkS) (acc:List (Wd×Nat)),bs.xW=true->∀k∈bs.keys,k.head? = some 61->∃i,(k,i)∈(MkS.vq bs s acc).2
 |.xR k a m r,s,acc,b,k',hk,h=>by
  rw[MkS.vq];rw[show(Fo.xR k a m r).keys=k::r.keys from rfl]at hk;rcases yX.1 hk with rfl|hk
  .rw[yV h];exact⟨_,((ZQ r _ _).2.1).subset (zzg _ (zJ.2 rfl))⟩
  .split
   .exact eV r _ _ b k' hk h
   .exact eV r s acc b k' hk h
 |.nil,_,_,_,_,hk,_=>YX
 |.text _ _,_,_,h,_,_,_=>xc
 |.hash _,_,_,h,_,_,_=>xc
 |.put _ _ _,_,_,h,_,_,_=>xc
 |.num _ _ _,_,_,h,_,_,_=>xc
 |.br _ _ _ _ _ _ _,_,_,h,_,_,_=>xc
def Zz{t:Nat}{key:Wd}{p:Nat×Nat}:p∈Cx ks t key ↔ ∃c,c<6/\(YQ.getD c []=key\/key=qg/\YQ.getD c [] ∉ ks)/\p=(t,c):=by
 unfold Cx;rw[uQ];constructor
 .rintro⟨c,hc,rfl⟩;rw[ux,Y0,vJ]at hc;exact⟨c,hc.1,hc.2,rfl⟩
 .rintro⟨c,h1,h2,rfl⟩;exact⟨c,by rw[ux,Y0,vJ];exact⟨h1,h2⟩,rfl⟩
def yj1{k:Wd}(h:k∈YQ):∃c,c<6/\YQ.getD c []=k:=by
 obtain⟨c,hc,e⟩:=ql.1 h;refine⟨c,hc,?_⟩;rw[ze,zk hc];exact e
def xy4(h:c<6):YQ.getD c []∈YQ:=by
 rw[ze,zk (show c<YQ.length from h)];exact yf _
def zmk:∀k∈YQ,k.head?≠some 61:=zR
def xy5{n:Wd}{a f:Nat}{o:Wd}{r:Fo}(hf:f≠0)(hb:VL bs)(hr:VM r)(hrm:r.yT=true):VM (.br n a f o c bs r):=by
 intro s H P d C hdp iV hv he hP hH;obtain⟨wP,hlg,Fm,R,hkb,hkr⟩:=C;obtain⟨G,hdr⟩:=hdp;rw[yz hf]at G;obtain⟨w,G⟩:=G;rw[yq8 n a f o c bs r s hf hrm];obtain⟨-,z1,z2⟩:=xM s n;obtain⟨H1,a1,a2,a3,a4⟩:=(hv.eq z1 z2).more (op:=4) (v:=yg o) (ks:=[s.num n]) (o:=d+1) (he.eq z1 z2) (by rw[z1,hH];exact eY w) rfl;rw[z1]at a1 a3;obtain⟨u,S⟩:=zr ((s.const n).put 4 (yg o) [s.num n] []);have p9:u.code.length=s.code.length+1:=by rw[<-S,yp,zy,z1];rfl
 rw[S]at a2 a4;have pF:MkS.VV n o bs s=MkS.vq bs u []:=by rw[<-S];rfl
 have YZ:∀p:Nat×Nat,P p ↔ (P p\/u.code.length<=p.1/\p.1<u.code.length):=λp=>⟨.inl,λq=>q.elim id (λq=>J)⟩
 obtain⟨H2,b1,b2,b3,b4,b5,b6⟩:=Ns bs u [] H1 P (d+1) u.code.length hlg J w (Y _) (a2.UE (λ_ _ _ _ _=>YZ _)) (a4.UE (λ_ _ _ _ _=>YZ _)) (by rw[p9];exact a3) (λi h1 h2=>J) (λp hp=>by cases hp) (λi h1 h2=>J);have g:=(ZQ bs u []).2.2;have hAl:=((ZQ bs u []).1).length_le;have E:=Cu bs u [];have W:=NK bs u [] (λp hp=>by cases hp) (λp hp=>by cases hp);have F:=CP bs u [];have L:=Nt bs u [] Fm (λp hp=>by cases hp) zZ;have hAx:=eV bs u [] hlg;have B:∀k,QC n o bs s k=match (MkS.vq bs u []).2.lookup k with|some i=>[(i,0)]|none=>Cx bs.keys (MkS.vq bs u []).1.code.length k:=λk=>by unfold QC;rw[pF];rfl
 have hS:MkS.kY n o f bs s=(MkS.vq bs u []).1.put (if f=2 then 9 else 8) 0 [] (zX 6 0):=by unfold MkS.kY;rw[pF]
 obtain⟨A,hA⟩:=zr ((MkS.vq bs u []).2);obtain⟨D,Ym⟩:=zr ((MkS.vq bs u []).1);rw[Ym]at b2 b3 b4 b5 b6 g hAl hS;simp only[hA,Ym]at g E W F L hAx B b6;have g:∀p∈A,u.code.length<=p.2/\p.2<D.code.length:=λp hp=>(g p hp).elim (λq=>kK) id
 have E:∀p∈A,p.1.head? = some 61:=λp hp=>(E p hp).elim (λq=>kK) id
 have F:∀p∈A,p.1∈bs.keys:=λp hp=>(F p hp).elim (λq=>kK) id
 obtain⟨op,dE⟩:=zr ((if f=2 then 9 else 8));rw[dE]at hS;have vig:op=8\/op=9:=by rw[<-dE];split<;>simp
 have vif:cN op=false:=by rcases vig with rfl|rfl<;>rfl
 obtain⟨H3,c1,c2,c3,-⟩:=b2.push (v:=0) (ks:=[]) (tg:=zX 6 0) (op:=op) (o:=d+1) (d':=d+1) b3 (by rw[b4];exact JL J J w) (λq=>absurd (vif.symm.trans q) zR);rw[<-hS]at c2;have O:(MkS.kY n o f bs s).code.length=D.code.length+1:=by rw[hS,yp];simp
 have M:(MkS.kY n o f bs s).code[D.code.length]? = some ⟨op,D.pos,0,[],zX 6 0⟩:=by rw[hS,yp];simp
 have z:∀i,i<D.code.length->(MkS.kY n o f bs s).code[i]? = D.code[i]? := λi hi=>by rw[hS,yp,za hi]
 have l:∀k i,A.lookup k=some i->QC n o bs s k=[(i,0)]/\(k,i)∈A:=λk i h=>⟨by rw[B,h],Cv h⟩
 have m:∀k,A.lookup k=none->QC n o bs s k=Cx bs.keys D.code.length k:=λk h=>by rw[B,h]
 have hlc:∀k∈YQ,A.lookup k=none:=λk C=>by
  cases h:A.lookup k with
  |none=>rfl
  |some i=>exact absurd (E _ (Cv h)) (zmk k C)
 have hoC:qg∈YQ:=zR;obtain⟨H4,d1,d2,d3,d4⟩:=nz hb (P:=P) hkb G w (Xc n o bs s) c2 (λp hp=>by
  rw[O];rcases hp with(hp|hp)|hp
  .exact BU
  .omega
  .exact J) (by rw[O];exact c3) Fm (λe=>by rw[e]at R;cases R)
  ⟨λk _=>by
   cases h:A.lookup k with
   |some i=>rw[(l k i h).1];simp
   |none =>
    rw[m k h];exact LK _ (λa b h e=>h BK) (List.nodup_range.filter _),
  λk C=>by
   cases h:A.lookup k with
   |some i =>
    obtain⟨h1,h2⟩:=l k i h;obtain⟨x,K,T,e3,U⟩:=b5 i (g _ h2).1 (g _ h2).2;exact⟨(i,0),by rw[h1];exact zJ.2 rfl,x,by rw[z i (g _ h2).2];exact K,by simp only;omega⟩
   |none =>
    have I:k∈YQ:=by
     by_cases hx:k.head? = some 61
     .obtain⟨i,hi⟩:=hAx k C hx;rw[ny L hi]at h;cases h
     .exact wP hf k C hx
    obtain⟨c,hc,e⟩:=yj1 I;exact⟨(D.code.length,c),by rw[m k h,Zz];exact⟨c,hc,.inl e,rfl⟩,_,M,by simp;exact hc⟩,
  λk _ p hp=>by
   rw[O];cases h:A.lookup k with
   |some i=>rw[(l k i h).1,zJ]at hp;have:=(g _ (l k i h).2).2;rw[hp];simp only at *;omega
   |none=>rw[m k h,Zz]at hp;obtain⟨c,_,_,rfl⟩:=hp;exact dQ _,
  λk _ p hp x hx _=>by
   cases h:A.lookup k with
   |some i =>
    obtain⟨h1,h2⟩:=l k i h;rw[h1,zJ]at hp;subst hp;obtain⟨y,K,T,e3,U⟩:=b5 i (g _ h2).1 (g _ h2).2;simp only at hx|-;rw[z i (g _ h2).2,K]at hx;cases hx;exact⟨.inl (.inr (g _ h2)),by rw[T,c1 i (by have:=(g _ h2).2;simp only at this;omega),U];exact JL J J w⟩
   |none =>
    rw[m k h,Zz]at hp;obtain⟨c,_,_,rfl⟩:=hp;simp only at hx|-;rw[M]at hx;cases hx;refine⟨by first|exact .inr rfl|simp,?_⟩;show jY op (H3 D.code.length)=_;rw[c1 _ (Y _),b4];exact JL J J w,
  λk C k' hk' Q p hp t=>by
   cases h:A.lookup k with
   |some i =>
    obtain⟨h1,h2⟩:=l k i h;rw[h1,zJ]at hp;cases V:A.lookup k' with
    |some i' =>
     obtain⟨h3,h4⟩:=l k' i' V;rw[h3,zJ]at t;rw[hp]at t;cases t;have:=W _ h2 _ h4 rfl;cases this;exact Q rfl
    |none =>
     rw[m k' V,Zz]at t;obtain⟨c,_,_,e⟩:=t;rw[hp]at e;cases e;have:=(g _ h2).2;exact Dt
   |none =>
    rw[m k h,Zz]at hp;obtain⟨c,hc,q,e⟩:=hp;cases V:A.lookup k' with
    |some i' =>
     obtain⟨h3,h4⟩:=l k' i' V;rw[h3,zJ]at t;rw[t]at e;cases e;have:=(g _ h4).2;exact Dt
    |none =>
     rw[m k' V,Zz]at t;obtain⟨c',hc',q',e'⟩:=t;rw[e]at e';cases e';rcases q with q|q
     .rcases q' with q' |q'
      .exact Q (q.symm.trans q')
      .exact q'.2 (q▸C)
     .rcases q' with q' |q'
      .exact q.2 (q'▸hk')
      .exact Q (q.1.trans q'.1.symm)⟩
  (λk x j hx hj hR=>by
   rcases hR with(hR|hR)|hR
   .exact .inl hR
   .obtain⟨key,hm⟩:=b6 k hR.1 hR.2;obtain⟨y,K,T,e3,U⟩:=b5 k hR.1 hR.2;rw[z k hR.2,K]at hx;cases hx;have hj0:j=0:=J;subst hj0;exact .inr ⟨key,F _ hm,by rw[(l key k (ny L hm)).1];exact zJ.2 rfl⟩
   .have hR:k=D.code.length:=hR;subst hR;rw[M]at hx;cases hx;have N:j<6:=M4;by_cases I:YQ.getD j []∈bs.keys
    .exact .inr ⟨_,I,by rw[m _ (hlc _ (xy4 N)),Zz];exact⟨j,N,.inl rfl,rfl⟩⟩
    .exact .inr ⟨qg,R,by rw[m _ (hlc _ hoC),Zz];exact⟨j,N,.inr ⟨rfl,I⟩,rfl⟩⟩)
  (λp hp=>⟨.inl (.inl hp),λkey _ q=>by
   have hpl:=hP p hp;cases h:A.lookup key with
   |some i =>
    obtain⟨h1,h2⟩:=l key i h;rw[h1,zJ]at q;have:=(g _ h2).1;rw[q]at hpl;simp only at *;omega
   |none =>
    rw[m key h,Zz]at q;obtain⟨c,_,_,rfl⟩:=q;simp only at hpl;omega⟩)
 obtain⟨s4,Oo⟩:=zr (uF ((MkS.ur bs (MkS.kZ n o bs s) (MkS.kY n o f bs s) []).2.map λi=>(i,0)) (MkS.ur bs (MkS.kZ n o bs s) (MkS.kY n o f bs s) []).1);have hl4:(MkS.kY n o f bs s).code.length<=s4.code.length:=by
  rw[<-Oo,(ke _ _).1];exact(go_facts bs _ _ (Xc n o bs s) _ []).1
 rw[Oo]at d2 d3 d4|-;obtain⟨H5,K,T,e3,U⟩:=d2.more (op:=5) (v:=0) (ks:=[]) (o:=d) d3 (by rw[d4];exact eZ w) rfl;have hl5:(s4.put 5 0 [] []).code.length=s4.code.length+1:=VT;obtain⟨H6,g1,g2,g3,g4⟩:=hr (s4.put 5 0 [] []) H5 P d hkr hdr iV T U (λp hp=>BU) (by rw[hl5];exact e3);exact⟨H6,λk C=>by rw[g1 k J,K k J,d1 k J,c1 k J,b1 k J,a1 k C],g2,g3,g4⟩
def fh:∀f:Fo,(f.yT=true->VM f)/\(f.xW=true->VL f)
 |.nil=>⟨λ_=>λs H P d _ _ _ hv he _ i=>⟨H,λ_ _=>rfl,hv,he,i⟩,λ_=>xy2⟩
 |.text t r=>⟨λh=>λs H P d g e b hv he j i=>DE ((fh r).1 h) ⟨(xM s t).2.1,(xM s t).2.2⟩ g e b hv he j i (ff J b) rfl,λh=>xc⟩
 |.hash r=>⟨λh=>λs H P d g e b hv he j i=>DE ((fh r).1 h) ⟨rfl,rfl⟩ g e.2 b hv he j i (JL J e.1 b) rfl,λh=>xc⟩
 |.put n a r=>⟨λh=>λs H P d g e b hv he j i=>DE ((fh r).1 h) ⟨(xM s n).2.1,(xM s n).2.2⟩ g e b hv he j i (ff J b) rfl,λh=>xc⟩
 |.num n a r=>⟨λh=>λs H P d g e b hv he j i=>DE ((fh r).1 h) ⟨(xM s n).2.1,(xM s n).2.2⟩ g e b hv he j i (ff J b) rfl,λh=>xc⟩
 |.br n a f o c bs r=>⟨λh=>λs H P d g e b hv he j i=>by
   by_cases hf:f=0
   .subst hf;exact xy3 ((fh bs).2 g.2.1) ((fh r).1 h) h s H P d g e b hv he j i
   .exact xy5 hf ((fh bs).2 g.2.1) ((fh r).1 h) h s H P d g e b hv he j i,λh=>xc⟩
 |.xR k a m r=>⟨λh=>xc,λh=>λs H R d sl q ls g e b l hv hR i hn p=>yj0 ((fh m).1 g.1) ((fh r).2 h) s H R d sl q ls g e b l hv hR i hn p⟩
def yj2(hm:f.yT=true)(a:f.kc)(hd:f.dp 0)(l:∀i∈(MkS.all f).code,X7 (MkS.all f).cs i=true):fg (MkS.all f).cs (MkS.all f).code=true:=by
 obtain⟨H,a1,a2,a3,a4⟩:=(fh f).1 hm MkS.start (λ_=>0) (λ_=>False) 0 a hd J ⟨λk x hx=>by simp[MkS.start]at hx,λk' _ h=>by simp[MkS.start]at h⟩ (.inl rfl) (λp hp=>hp.elim) rfl;have n:mC (MkS.all f):=Ic.put _ 0 0 [] [] (mH Ic f _ ⟨λi j x y _ hx=>by simp[MkS.start]at hx,λx hx=>by simp[MkS.start]at hx⟩);obtain⟨s,hs⟩:=zr (MkS.Z7 f MkS.start);have d:MkS.all f=s.put 0 0 [] []:=by rw[<-hs];rfl
 rw[hs]at a2 a3 a4;rw[d]at l n|-;have m:(s.put 0 0 [] []).code.length=s.code.length+1:=VT;have b:(s.put 0 0 [] []).code[s.code.length]? = some ⟨0,s.pos,0,[],[]⟩:=VT;have g:∀k' t,k'<=s.code.length->AtP s k' t->qo (s.put 0 0 [] []).code (s.put 0 0 [] []).code.length t=some k':=λk' t C h=>by
  rcases ed (op:=0) (v:=0) (ks:=[]) (tg:=[]) h with⟨q,_⟩|⟨x,hx,rfl⟩
  .rw[m]at q;omega
  .exact zig n hx
 have hold:∀k x,k<s.code.length->(s.put 0 0 [] []).code[k]? = some x->s.code[k]? = some x:=λk x a hx=>by rw[yp,za a]at hx;exact hx
 refine xzb (h:=H) ⟨?_,l,λk x hx=>?_,λk h0 a=>?_⟩
 .rw[a1 0 (zQ _)]
 .rcases uM k s.code.length with a|a
  .obtain⟨o,b1,b2,b3⟩:=a2.step k x (hold k x a hx);refine⟨o,b1,λt r=>?_⟩;unfold D7 at r;rcases zS.1 r with q|q
   .split at q
    .rename_i c;rw[zJ]at q;exact⟨k+1,q,J,J,b2 c⟩
    .cases q
   .obtain⟨t',h1,rfl⟩:=uQ.1 q;obtain⟨j,u,e⟩:=ql.1 h1;rcases b3 j t' (by rw[zk u,e])with z|⟨k',z1,z2,E,F⟩
    .exact z.elim
    .exact⟨k',g k' t' z2 E,z1,J,F⟩
  .have D:=(zF.1 hx).1;have:k=s.code.length:=(by omega);subst this;rw[b]at hx;cases hx;exact⟨0,by rw[a4];rfl,λt r=>by simp[D7,cN]at r⟩
 .have B:Led s (λ_=>False) k:=by
   rcases uM k s.code.length with q|q
   .exact a2.led k h0 q
   .have:k=s.code.length:=(by omega);subst this;rcases a3 with z|z
    .rw[z]at h0;simp at h0
    .exact z
  obtain⟨j,x,c1,c2,c3⟩:=B;have u:=(zF.1 c2).1;refine⟨j,x,c1,by rw[yp,za u];exact c2,?_⟩;unfold D7;rw[zS];rcases c3 with⟨c,e⟩|⟨G,t,w,_,A⟩
  .exact .inl (by rw[yV c,e];exact zJ.2 rfl)
  .exact .inr (uQ.2 ⟨t,zW w,g k t J A⟩)
variable{l:List UInt8}{msg:Option jH}
def Fo.hs:Bool->Fo->Prop
 |_,.nil=>True
 |b,.text _ r=>r.hs b
 |b,.hash r=>b=true/\r.hs b
 |b,.put _ _ r=>r.hs b
 |b,.num _ _ r=>r.hs b
 |b,.br _ _ f _ _ bs r=>bs.hs (decide (f≠0))/\r.hs b
 |b,.xR _ _ m r=>m.hs b/\r.hs b
def Fo.tb:Fo->Nat
 |.nil=>0
 |.text t r=>t.length+r.tb
 |.hash r=>r.tb
 |.put _ _ r=>r.tb
 |.num _ _ r=>r.tb
 |.br _ _ _ _ _ bs r=>bs.tb+r.tb
 |.xR _ _ m r=>m.tb+r.tb
def Fo.JM:∀f:Fo,f.tb<=5000->f.sh
 |.nil,_=>trivial
 |.text t r,h=>by simp only[Fo.tb]at h;exact⟨J,Fo.JM r J⟩
 |.hash r,h=>Fo.JM r h
 |.put _ _ r,h=>Fo.JM r h
 |.num _ _ r,h=>Fo.JM r h
 |.br _ _ _ _ _ bs r,h=>by simp only[Fo.tb]at h;exact⟨Fo.JM bs J,Fo.JM r J⟩
 |.xR _ _ m r,h=>by simp only[Fo.tb]at h;exact⟨Fo.JM m J,Fo.JM r J⟩
def Fo.fM:∀f g:Fo,(f.app g).tb=f.tb+g.tb
 |.nil,g=>by simp[Fo.app,Fo.tb]
 |.text t r,g=>WX
 |.hash r,g=>WG
 |.put _ _ r,g=>WG
 |.num _ _ r,g=>WG
 |.br _ _ _ _ _ bs r,g=>WX
 |.xR _ _ m r,g=>WX
def Fo.VA(b:Bool):∀f g:Fo,(f.app g).hs b ↔ f.hs b/\g.hs b
 |.nil,g=>by simp[Fo.app,Fo.hs]
 |.text t r,g=>WQ
 |.hash r,g=>Wq
 |.put _ _ r,g=>WQ
 |.num _ _ r,g=>WQ
 |.br _ _ _ _ _ bs r,g=>Wq
 |.xR _ _ m r,g=>Wq
def Fo.eU{b:Bool}(h:f.hs b)(t:Wd):(f.ye t).hs b/\(f.ye t).tb<=f.tb+t.length:=by
 cases a:f.xJ with
 |none =>
  rw[qy f t a];exact⟨(Fo.VA b _ _).2 ⟨h,trivial⟩,by rw[Fo.fM];simp only[Fo.tb];omega⟩
 |some s =>
  obtain⟨pre,h1,h2,c⟩:=vW f s a;rw[h1]at h;rw[c];refine⟨(Fo.VA b _ _).2 ⟨((Fo.VA b _ _).1 h).1,trivial⟩,?_⟩;rw[Fo.fM,show f.tb=(pre.app (.text s .nil)).tb from congrArg _ h1,Fo.fM];simp only[Fo.tb,zy];omega
def SF(m:jH):Prop:=∀num i f j,m num i = .ok (f,j)->f.hs num/\f.tb+4*i<=4*j
section
variable {rs:List Int}
def xy6{num:Bool}(hm:∀m,msg=some m->SF m)(h:bH rs msg num i = .ok (f,j)):f.hs num/\f.tb+4*i<=4*j:=by
 unfold bH at h;obtain⟨k,a,h1,h2⟩:=zG h;obtain⟨u,b,e,d⟩:=zG h2;obtain⟨x,r⟩:=NF h1;have s:=(yR e).2;have t:=ya rs a;cases msg with
 |none=>cases d
 |some m =>
  obtain⟨g,c,l,n⟩:=zG (show(m num b).then _=_ from d);obtain⟨u2,z,o,p⟩:=zG n;obtain⟨q,y⟩:=hm m rfl _ _ _ _ l;have v:=(yR o).2;have w:=ya rs z;cases p;refine⟨⟨q,trivial⟩,?_⟩;exact Gq
def nu{num:Bool}(hm:∀m,msg=some m->SF m):∀(n:Nat) (acc:Fo) (i j:Nat) (f:Fo),q9 rs msg num n acc i = .ok (f,j)->acc.hs num->f.hs num/\f.tb+4*i<=acc.tb+4*j
 | 0,acc,i,j,f,h,_=>xc
 |n+1,acc,i,j,f,h,ha=>by
  rw[q9]at h;split at h
  .exact Wc
  .obtain⟨g,q,h1,h2⟩:=zG h;obtain⟨g1,g2⟩:=xy6 hm h1;obtain⟨k1,k2⟩:=nu hm n _ _ _ _ h2 ((Fo.VA num _ _).2 ⟨ha,g1⟩);rw[Fo.fM]at k2;exact⟨k1,J⟩
def xy7{num:Bool}(hm:∀m,msg=some m->SF m)(h:gC rs msg i = .ok (f,j)):f.hs num/\f.tb+4*i<=4*j:=by
 unfold gC at h;obtain⟨u,a,h1,h2⟩:=zG h;obtain⟨nm,b,y,g⟩:=zG h2;have B:=(yR h1).2;have C:=ya rs a;obtain⟨⟨hn,-⟩,D⟩:=JD y;have E:=ya rs b;clear h h1 h2 y;split at g
 .obtain⟨u,z,k,e⟩:=zG g;have:=(yR k).2;cases e;exact⟨trivial,Gq⟩
 .obtain⟨L,c,k,e⟩:=zG g;have F:=jl k;have G:=ya rs (yt rs b+1);have H:=ya rs c;clear g k;split at e
  .obtain⟨u,z,v,w⟩:=zG e;have:=(yR v).2;cases w;exact⟨trivial,Gq⟩
  .split at e
   .cases e
   .next form x =>
    obtain⟨u,d,v,w⟩:=zG e;obtain⟨o,l,A,n⟩:=zG w;obtain⟨bs,q,p,r⟩:=zG n;obtain⟨u,z,s,t⟩:=zG r;have:=(yR v).2;have:=ya rs d;obtain⟨K,_⟩:=ND A;obtain⟨b1,b2⟩:=nu hm _ _ _ _ _ p trivial;have I:=(yR s).2;cases t;refine⟨⟨b1,trivial⟩,?_⟩;simp only[Fo.tb]at b2|-;omega
def CR{num:Bool}(hm:∀m,msg=some m->SF m):∀(n:Nat) (acc:Fo) (i j:Nat) (f:Fo),vV rs msg num n acc i = .ok (f,j)->acc.hs num->f.hs num/\f.tb+4*i<=acc.tb+4*j
 | 0,acc,i,j,f,h,_=>xc
 |n+1,acc,i,j,f,h,ha=>by
  rw[vV]at h;split at h
  .exact Wc
  split at h
  .obtain⟨g,q,h1,h2⟩:=zG h;obtain⟨g1,g2⟩:=xy7 (num:=num) hm h1;obtain⟨k1,k2⟩:=CR hm n _ _ _ _ h2 ((Fo.VA num _ _).2 ⟨ha,g1⟩);rw[Fo.fM]at k2;exact⟨k1,J⟩
  split at h
  .next a =>
   obtain⟨k1,k2⟩:=CR hm n _ _ _ _ h ((Fo.VA num _ _).2 ⟨ha,a.2,trivial⟩);rw[Fo.fM]at k2;simp only[Fo.tb]at k2;exact⟨k1,J⟩
  .obtain⟨t1,t2⟩:=Fo.eU ha (qv rs num i).1;obtain⟨k1,k2⟩:=CR hm n _ _ _ _ h t1;have b:=Il rs num i;exact⟨k1,J⟩
def nj:∀n,SF (gH rs n)
 | 0,num,i,f,j,h=>by
  rw[gH]at h;simpa[Fo.tb]using CR (λm e=>gJ) _ _ _ _ _ h trivial
 |n+1,num,i,f,j,h=>by
  rw[gH]at h;simpa[Fo.tb]using CR (λm e=>by cases e;exact nj n) _ _ _ _ _ h trivial
end
def yj3(h:xw l = .ok f):f.hs false/\f.sh:=by
 unfold xw at h;split at h
 .cases h
 split at h
 .cases h
 next h1 _ =>
 have Qf:=Uh l;have hr:(xz l).length<=1000:=J;cases hp:gu (xz l) with
 |error e=>rw[hp]at h;cases h
 |ok x =>
  rw[hp]at h;cases h;unfold gu at hp;obtain⟨g,q,h2,a⟩:=zG (show _=yzx (x.1,x.2)from hp);obtain⟨hf,hm⟩:=nj 5 _ _ _ _ h2;have he:q<=(xz l).length:=ZV _ _ _ _ _ h2 (zQ _);split at a
  .cases a;exact⟨hf,Fo.JM _ J⟩
  .cases a
variable{N:Nat}
def Fo.OM:Fo->Prop
 |.nil=>True
 |.text _ r=>r.OM
 |.hash r=>r.OM
 |.put _ _ r=>r.OM
 |.num _ _ r=>r.OM
 |.br _ _ _ _ _ bs r=>qg∈bs.keys/\bs.OM/\r.OM
 |.xR _ _ m r=>m.OM/\r.OM
def xy8(b:Nat):∀(f:Fo) (seen:List Wd) (acc:List (Nat×Nat)),Qm b seen acc f=[]->qg∈seen\/qg∈f.keys:=by
 have hn:∀(f:Fo) (seen:List Wd) (acc:List (Nat×Nat)),(if BN∈seen then acc else acc++[(6,b)])=[]->qg∈seen\/qg∈f.keys:=λf seen acc h=>by
  split at h
  .next c=>exact .inl c
  .simp at h
 intro f;induction f with
 |xR k a m r _ d =>
  intro seen acc h;rw[Qm]at h;rcases d _ _ h with h1|h1
  .rcases yX.1 h1 with h1|h1
   .exact .inr (by rw[Fo.keys,h1];exact qI)
   .exact .inl h1
  .exact .inr (by rw[Fo.keys];exact uk _ h1)
 |nil=>intro seen acc h;exact hn .nil seen acc h
 |text _ _ _=>intro seen acc h;exact hn (.text _ _) seen acc h
 |hash _ _=>intro seen acc h;exact hn (.hash _) seen acc h
 |put _ _ _ _=>intro seen acc h;exact hn (.put _ _ _) seen acc h
 |num _ _ _ _=>intro seen acc h;exact hn (.num _ _ _) seen acc h
 |br _ _ _ _ _ _ _ _ _=>intro seen acc h;exact hn (.br _ _ _ _ _ _ _) seen acc h
def fw:∀(f:Fo) (s s':KB),vx gD f s = .go true s'->s'.2=[]->s.2=[]/\f.OM
 |.nil,s,s',h,e=>by
  cases h;exact⟨e,trivial⟩
 |.text _ r,s,s',h,e=>fw r s s' h e
 |.hash r,s,s',h,e=>fw r s s' h e
 |.put n a r,s,s',h,e=>by
  obtain⟨h1,h2⟩:=fw r (ub s n a 0) s' h e;exact⟨X2 h1,h2⟩
 |.num n a r,s,s',h,e=>by
  obtain⟨h1,h2⟩:=fw r (ub s n a 1) s' h e;exact⟨X2 h1,h2⟩
 |.br n a f o c bs r,s,s',h,e=>by
  obtain⟨b,h1⟩:∃b:KB,((ub s n a (jB (.br n a f o c bs .nil))).1,(ub s n a (jB (.br n a f o c bs .nil))).2++Qm c [] [] bs)=b:=⟨_,rfl⟩;have h2:(vx gD bs b).then (λs=>vx gD r s) = .go true s':=by rw[<-h1];exact h
  obtain⟨p,l⟩:=jx bs b;rw[l]at h2;obtain⟨g,i⟩:=fw r p s' h2 e;obtain⟨d,j⟩:=fw bs b p l g;rw[<-h1]at d;obtain⟨q,t⟩:=KE.1 d;exact⟨X2 q,(xy8 c bs _ _ t).resolve_left zZ,j,i⟩
 |.xR k a m r,s,s',h,e=>by
  obtain⟨b,h1⟩:=jx m s;have h2:(vx gD m s).then (λs=>vx gD r s) = .go true s':=h;rw[h1]at h2;obtain⟨g,i⟩:=fw r b s' h2 e;obtain⟨d,j⟩:=fw m s b h1 g;exact⟨d,j,i⟩
def yj4(h:fG f=none):f.OM:=by
 obtain⟨s,hs⟩:=jx f ((λ_=>none),[]);have e:gN f=s.2:=We;unfold fG at h;refine(fw f _ s hs ?_).2;exact zu5
def Fo.Vi:∀(b:Bool) (f:Fo),f.wf N=true->f.once->f.OM->f.hs b->f.vok b
 |_,.nil,_,_,_,_=>trivial
 |b,.text t r,w,o,t2,h=>Fo.Vi b r w o t2 h
 |b,.hash r,w,o,t2,h=>⟨h.1,Fo.Vi b r w o t2 h.2⟩
 |b,.put _ _ r,w,o,t2,h=>zuv
 |b,.num _ _ r,w,o,t2,h=>zuv
 |b,.br _ _ f _ _ bs r,w,o,t2,h=>by
  simp only[Fo.wf,zx]at w;exact⟨w.1.1.1.2,o.1,t2.1,Fo.Vi _ bs w.1.2 o.2.1 t2.2.1 h.1,Fo.Vi b r w.2 o.2.2 t2.2.2 h.2⟩
 |b,.xR _ _ m r,w,o,t2,h=>by
  simp only[Fo.wf,zx]at w;exact⟨w.1.1.1.2,Fo.Vi b m w.1.2 o.1 t2.1 h.1,Fo.Vi b r w.2 o.2 t2.2 h.2⟩
def JN(h:xw l = .ok f)(hc:fG f=none):f.yT=true/\f.vok false/\f.YK/\f.sh/\f.cw<=90000:=by
 have a:=Uv h;obtain⟨h1,h2⟩:=yj3 h;obtain⟨b,c⟩:=CZ h hc;exact⟨a.msg,Fo.Vi false f a.wf (S2 hc) (yj4 hc) h1,b,h2,J⟩
variable{pos:Nat}{t x:Wd}
def zmj(num:Bool)(k:Wd):Prop:=num=true->k.head?≠some 61->k∈YQ
def Fo.sq:Nat->Fo->Prop
 |_,.nil=>True
 |n,.text _ r=>r.sq n
 |n,.hash r=>r.sq n
 |n,.put _ _ r=>r.sq n
 |n,.num _ _ r=>r.sq n
 |n,.br _ _ f _ _ bs r=>(∀k∈bs.keys,zmj (decide (f≠0)) k)/\0<n/\bs.sq (n - 1)/\r.sq n
 |n,.xR _ _ m r=>m.sq n/\r.sq n
def Fo.VW(n:Nat):∀f g:Fo,(f.app g).sq n ↔ f.sq n/\g.sq n
 |.nil,g=>by simp[Fo.app,Fo.sq]
 |.text t r,g=>LA
 |.hash r,g=>LA
 |.put _ _ r,g=>LA
 |.num _ _ r,g=>LA
 |.br _ _ _ _ _ bs r,g=>zuq
 |.xR _ _ m r,g=>zuq
def Fo.eQ(h:f.sq n)(t:Wd):(f.ye t).sq n:=by
 cases a:f.xJ with
 |none =>
  rw[qy f t a];exact(Fo.VW n _ _).2 ⟨h,trivial⟩
 |some s =>
  obtain⟨pre,h1,h2,b⟩:=vW f s a;rw[h1]at h;rw[b];exact(Fo.VW n _ _).2 ⟨((Fo.VW n _ _).1 h).1,trivial⟩
def SD(n:Nat)(m:jH):Prop:=∀num i f j,m num i = .ok (f,j)->f.sq n
section
variable {rs:List Int}
def yj5{num:Bool}(h:YV rs num i = .ok (x,j)):zmj num x:=by
 unfold YV at h;split at h
 .obtain⟨a,q,h1,h2⟩:=zG h;cases h2;exactλ_ q=>absurd rfl q
 .obtain⟨a,q,h1,h2⟩:=zG h;split at h2
  .cases h2
  .next b =>
   cases h2;exactλhn _=>yu λq=>b ⟨hn,q⟩
def xy9{num:Bool}(hm:∀m,msg=some m->SD n m)(h:bH rs msg num i = .ok (f,j)):f.sq n/\(∀k∈f.keys,zmj num k)/\msg.isSome=true/\f.xW=true:=by
 unfold bH at h;obtain⟨k,a,h1,h2⟩:=zG h;obtain⟨u,b,s,d⟩:=zG h2;cases msg with
 |none=>cases d
 |some m =>
  obtain⟨g,c,l,o⟩:=zG (show(m num b).then _=_ from d);obtain⟨u2,z,t,p⟩:=zG o;have r:=hm m rfl _ _ _ _ l;cases p;refine⟨⟨r,trivial⟩,λq e=>?_,rfl,rfl⟩;simp only[Fo.keys,zJ]at e;subst e;exact yj5 h1
def ng{num:Bool}(hm:∀m,msg=some m->SD n m):∀(N:Nat) (acc:Fo) (i j:Nat) (f:Fo),q9 rs msg num N acc i = .ok (f,j)->acc.xW=true->acc.sq n->(∀k∈acc.keys,zmj num k)->(acc.len≠0->msg.isSome=true)->f.sq n/\(∀k∈f.keys,zmj num k)/\msg.isSome=true
 | 0,acc,i,j,f,h,_,_,_,_=>xc
 |N+1,acc,i,j,f,h,b,ha,hc,hs=>by
  rw[q9]at h;split at h
  .next e =>
   cases h;exact⟨ha,hc,hs e.2⟩
  .obtain⟨g,q,h1,h2⟩:=zG h;obtain⟨g1,g2,c,d⟩:=xy9 hm h1;exact ng hm N _ _ _ _ h2 (Fo.gi _ _ b d) ((Fo.VW n _ _).2 ⟨ha,g1⟩) (λk a=>by
    rw[Fo.Cf _ _ b]at a;rcases zS.1 a with a|a
    .exact hc k a
    .exact g2 k a) (λ_=>c)
def xyz(hm:∀m,msg=some m->0<n/\SD (n - 1) m)(h:gC rs msg i = .ok (f,j)):f.sq n:=by
 unfold gC at h;obtain⟨u,a,h1,h2⟩:=zG h;obtain⟨nm,b,B,p⟩:=zG h2;clear h h1 h2 B;split at p
 .obtain⟨u,z,y,g⟩:=zG p;cases g;trivial
 .obtain⟨E,c,y,g⟩:=zG p;clear p y;split at g
  .obtain⟨u,z,C,w⟩:=zG g;cases w;trivial
  .split at g
   .cases g
   .next form x =>
    obtain⟨u,d,C,w⟩:=zG g;obtain⟨o,l,D,r⟩:=zG w;obtain⟨bs,q,s,t⟩:=zG r;obtain⟨u,z,A,v⟩:=zG t;obtain⟨b1,b2,b3⟩:=ng (λm e=>(hm m e).2) _ _ _ _ _ s rfl trivial (λk hk=>YX) (λq=>absurd rfl q);cases v;cases msg with
    |none=>cases b3
    |some m=>exact⟨b2,(hm m rfl).1,b1,trivial⟩
def CS{num:Bool}(hm:∀m,msg=some m->0<N/\SD (N - 1) m):∀(n:Nat) (acc:Fo) (i j:Nat) (f:Fo),vV rs msg num n acc i = .ok (f,j)->acc.sq N->f.sq N
 | 0,acc,i,j,f,h,_=>xc
 |n+1,acc,i,j,f,h,ha=>by
  rw[vV]at h;split at h
  .cases h;exact ha
  split at h
  .obtain⟨g,q,h1,h2⟩:=zG h;exact CS hm n _ _ _ _ h2 ((Fo.VW N _ _).2 ⟨ha,xyz hm h1⟩)
  split at h
  .exact CS hm n _ _ _ _ h ((Fo.VW N _ _).2 ⟨ha,trivial⟩)
  .exact CS hm n _ _ _ _ h (Fo.eQ ha _)
def nZ:∀n,SD n (gH rs n)
 | 0,num,i,f,j,h=>by
  rw[gH]at h;exact CS (λm e=>gJ) _ _ _ _ _ h trivial
 |n+1,num,i,f,j,h=>by
  rw[gH]at h;exact CS (λm e=>by cases e;exact⟨vz6 _,nZ n⟩) _ _ _ _ _ h trivial
end
def yj6(h:xw l = .ok f):f.sq 5:=by
 unfold xw at h;split at h
 .cases h
 split at h
 .cases h
 cases hp:gu (xz l) with
 |error e=>rw[hp]at h;cases h
 |ok x =>
  rw[hp]at h;cases h;unfold gu at hp;obtain⟨g,q,h2,a⟩:=zG (show _=yzx (x.1,x.2)from hp);have hf:=nZ 5 _ _ _ _ h2;split at a
  .cases a;exact hf
  .cases a
def QE:∀(f:Fo) (b:Bool) (n d:Nat),f.vok b->f.sq n->(b=true->0<d)->d+n<=6->f.dp d
 |.nil,_,_,_,_,_,_,_=>trivial
 |.text _ r,b,n,d,h,k,h0,hd=>QE r b n d h k h0 hd
 |.hash r,b,n,d,h,k,h0,hd=>⟨h0 h.1,QE r b n d h.2 k h0 hd⟩
 |.put _ _ r,b,n,d,h,k,h0,hd=>QE r b n d h k h0 hd
 |.num _ _ r,b,n,d,h,k,h0,hd=>QE r b n d h k h0 hd
 |.br _ _ f _ _ bs r,b,n,d,h,k,h0,hd=>by
  obtain⟨-,-,-,a,c⟩:=h;obtain⟨-,k2,k3,k4⟩:=k;refine⟨?_,QE r b n d c k4 h0 hd⟩;split
  .next hf=>exact QE bs _ (n - 1) d a k3 (λq=>by simp[hf]at q) J
  .exact⟨J,QE bs _ (n - 1) (d+1) a k3 (λ_=>vz6 _) J⟩
 |.xR _ _ m r,b,n,d,h,k,h0,hd=>⟨QE m b n d h.2.1 k.1 h0 hd,QE r b n d h.2.2 k.2 h0 hd⟩
def JO:∀(f:Fo) (b:Bool) (n:Nat),f.vok b->f.sq n->f.kc
 |.nil,_,_,_,_=>trivial
 |.text _ r,b,n,h,k=>JO r b n h k
 |.hash r,b,n,h,k=>JO r b n h.2 k
 |.put _ _ r,b,n,h,k=>JO r b n h k
 |.num _ _ r,b,n,h,k=>JO r b n h k
 |.br _ _ f _ _ bs r,b,n,h,k=>by
  obtain⟨h1,h2,a,c,d⟩:=h;obtain⟨k1,k2,k3,k4⟩:=k;exact⟨λhf key e hx=>k1 key e MN hx,h1,h2,a,JO bs _ _ c k3,JO r b n d k4⟩
 |.xR _ _ m r,b,n,h,k=>⟨h.1,JO m b n h.2.1 k.1,JO r b n h.2.2 k.2⟩
def NmX(cs:List Wd)(x:uG):Prop:=x.v<=999999999/\((uW x.op).head? = some 110->∃j r t,x.k=j::r/\cs[j]? = some t/\kV t=true)
def Zp(s:MkS):Prop:=∀x∈s.code,NmX s.cs x
section
variable {s:MkS}
def NmX.pre{cs d:List Wd}{x:uG}(h:NmX cs x)(hp:cs <+: d):NmX d x:=by
 refine⟨h.1,λq=>?_⟩;obtain⟨j,r,t,a,b,c⟩:=h.2 q;obtain⟨u,e⟩:=hp;exact⟨j,r,t,a,by rw[<-e,za (zF.1 b).1];exact b,c⟩
def Zp.put(h:Zp s){v:Nat}{k:List Nat}(hx:NmX s.cs ⟨op,s.pos,v,k,tg⟩):Zp (s.put op v k tg):=λx a=>by
 rw[yp,zS,zJ]at a;rcases a with a |rfl
 .exact h x a
 .exact hx
def sM(s:MkS)(t:Wd):s.cs <+: (s.const t).cs:=by
 unfold MkS.const;split
 .exact xk _
 .exact Dv _ _
def Zp.const(h:Zp s)(t:Wd):Zp (s.const t):=λx hx=>(h x (by rw[(xM s t).2.1]at hx;exact hx)).pre (sM s t)
def Zp.xH(h:Zp s)(i j:Nat):Zp (s.xH i j):=λx hx=>yb4
def Xp{v:Nat}{k:List Nat}{cs:List Wd}(h:(uW op).head?≠some 110)(hv:v<=999999999):NmX cs ⟨op,pos,v,k,tg⟩:=⟨hv,λq=>absurd q h⟩
def Nh{v:Nat}{r:List Nat}{s':MkS}(hp:(s.const t).cs <+: s'.cs)(hv:v<=999999999)(hn:kV t=true):NmX s'.cs ⟨op,pos,v,s.num t::r,tg⟩:=⟨hv,λ_=>⟨_,r,t,rfl,mL t hp,hn⟩⟩
def Zp.vN:∀(f:Fo) (s:MkS) (acc:List Nat),Zp s->Zp (MkS.vN f s acc).1
 |.xR k _ _ r,s,acc,h=>by
  rw[MkS.vN];split
  .exact Zp.vN r s acc h
  .exact Zp.vN r _ _ (h.const _)
 |.nil,_,_,h=>h
 |.text _ _,_,_,h=>h
 |.hash _,_,_,h=>h
 |.put _ _ _,_,_,h=>h
 |.num _ _ _,_,_,h=>h
 |.br _ _ _ _ _ _ _,_,_,h=>h
def Zp.vq:∀(f:Fo) (s:MkS) (acc:List (Wd×Nat)),(∀k∈f.keys,k.head? = some 61->yg k.tail<=999999999)->Zp s->Zp (MkS.vq f s acc).1
 |.xR k _ _ r,s,acc,a,h=>by
  rw[MkS.vq];split
  .next h1=>exact Zp.vq r _ _ (λq b=>a q (.tail _ b)) (h.put (Xp zR (a k (.head _) h1)))
  .exact Zp.vq r s acc (λq b=>a q (.tail _ b)) h
 |.nil,_,_,_,h=>h
 |.text _ _,_,_,_,h=>h
 |.hash _,_,_,_,h=>h
 |.put _ _ _,_,_,_,h=>h
 |.num _ _ _,_,_,_,h=>h
 |.br _ _ _ _ _ _ _,_,_,_,h=>h
def Zp.plu(h:Zp s)(n o:Wd)(bs:Fo)(s0:MkS)(k:Wd):Zp (MkS.kZ n o bs s0 k s):=by
 unfold MkS.kZ;split
 .exact h.xH _ _
 .exact MkS.qw Zp _ (λs c h=>by split;exact h.xH _ _;exact h) _ _ h
end
def sN(f:Fo):∀(s:MkS) (acc:List Nat),∃t,(MkS.vN f s acc).2=acc++t:=by
 induction f with
 |xR k a m r _ b =>
  intro s acc;rw[MkS.vN];split
  .exact b s acc
  .obtain⟨t,c⟩:=b (s.const k) (acc++[s.num k]);exact⟨s.num k::t,by rw[c,yk];rfl⟩
 |_=>intro s acc;exact⟨[],by simp[MkS.vN]⟩
def Zp.go:∀(f:Fo) (a:Wd->MkS->MkS) (s:MkS) (ls:List Nat),(∀k s,Zp s->Zp (a k s))->f.fit->f.YK->Zp s->Zp (MkS.ur f a s ls).1
 |.nil,_,_,_,_,_,_,h=>h
 |.text t r,a,s,ls,hb,hf,hc,h=>Zp.go r a _ ls hb hf hc.2 ((h.const t).put (Xp zR (zQ _)))
 |.hash r,a,s,ls,hb,hf,hc,h=>Zp.go r a _ ls hb hf hc (h.put (Xp zR (zQ _)))
 |.put n _ r,a,s,ls,hb,hf,hc,h=>Zp.go r a _ ls hb hf.2 hc.2 ((h.const n).put (Nh (xk _) (zQ _) hf.1.2))
 |.num n _ r,a,s,ls,hb,hf,hc,h=>Zp.go r a _ ls hb hf.2 hc.2 ((h.const n).put (Nh (xk _) (zQ _) hf.1.2))
 |.br n _ f o _ bs r,a,s,ls,hb,hf,hc,h=>by
  obtain⟨f1,f2,f3,f4,f5,f6⟩:=hf;obtain⟨-,-,-,-,-,-,c7,b⟩:=hc;rw[MkS.ur];split
  .next h0 =>
   refine Zp.go r a _ ls hb f6 b (MkS.qw Zp _ (λs i h=>h.xH _ _) _ _ (Zp.go bs _ _ _ (λk x hx=>hx.xH _ _) f5 c7 ?_));obtain⟨t,g⟩:=sN bs (s.const n) [s.num n];refine Zp.put (Zp.vN bs _ _ (h.const n)) ?_;show NmX (MkS.vN bs (s.const n) [s.num n]).1.cs ⟨10,_,0,(MkS.vN bs (s.const n) [s.num n]).2,_⟩;rw[g];exact Nh ((xz6 (s.const n).cs).vN bs (s.const n) _ (xk _)) (zQ _) f1.2
  .next h0 =>
   refine Zp.go r a _ ls hb f6 b (Zp.put (MkS.qw Zp _ (λs i h=>h.xH _ _) _ _ (Zp.go bs _ _ _ (λk x hx=>hx.plu n o bs s k) f5 c7 ?_)) (Xp zR (zQ _)));refine Zp.put (Zp.vq bs _ _ (λk e he=>?_) ((h.const n).put (Nh (xk _) f3 f1.2))) (Xp (by split<;>decide) (zQ _));obtain⟨j,c,d⟩:=(f4 k e).2 (by simpa using h0) he;exact S3 c d
 |.xR k _ m r,a,s,ls,hb,hf,hc,h=>Zp.go r a _ _ hb hf.2 hc.2.2 ((Zp.go m _ _ _ (λ_ _ h=>h) hf.1 hc.2.1 (hb k s h)).put (Xp zR (zQ _)))
def CT(h:xw l = .ok f)(hc:fG f=none):fg (MkS.all f).cs (MkS.all f).code=true:=by
 obtain⟨h1,h2,g,u,w⟩:=JN h hc;have n:=yj6 h;obtain⟨-,-,c⟩:=Qz h hc;have e:=(Gr g u).1;have d:Zp (MkS.all f):=(Zp.go f _ _ _ (λ_ _ h=>h) c g (λx hx=>by simp[MkS.start]at hx)).put (Xp zR (zQ _));refine yj2 h1 (JO f _ _ h2 n) (QE f _ 5 0 h2 n (λq=>kK) J) (λi hi=>?_);have hx:=e i hi;have hn:=d i hi;unfold X7;simp only[zx,zi,vJ];refine⟨⟨λj v=>hx.1 j v,?_⟩,hn.1⟩;by_cases m:(uW i.op).head? = some 110
 .obtain⟨j,r,t,o,p,s⟩:=hn.2 m;rw[o];simp only[vR];refine .inr ?_;rw[ze,p];exact s
 .cases i.k with
  |nil=>rfl
  |cons a b=>simp[m]

section
variable {P q g mb:Nat} {vC vI cv ov:Value} {rs:List (Value×Value)} {mi po gr:Int} {fi ne:Nat} {dg:List UInt8} {t:Wd} {w:z8}
end


variable{S:List (Nat×gj)}{vs:List Value}{cap lo:Nat}{sv u v:Value}{w1:z8}
abbrev OP:=Wd×List UInt8
def jn(w:z8)(v:Value)(rs:List OP):Prop :=
 ∃a cap,v = .slice a rs.length cap/\∀j (h:j<rs.length),∃g o,a=some ⟨g,o,none⟩/\zu w g (o+j*2) (zM rs[j].1)/\zu w g (o+j*2+1) (zM rs[j].2)
def jn.below{rs:List OP}(h:jn w v rs)(hb:zP w w'):jn w' v rs:=by
 obtain⟨a,cap,hv,h⟩:=h;refine⟨a,cap,hv,λj e=>?_⟩;obtain⟨g,o,d,b,c⟩:=h j e;exact⟨g,o,d,(hb.cell (X w _ b)).trans b,(hb.cell (X w _ c)).trans c⟩
def CW(n:Wd):Int:=Lib.idxOfS Yq ⟨n.toArray⟩
def YB:List OP->List Wd->List (Nat×gj)->Option (List (Nat×gj))
 |[],_,acc=>some acc
 |(n,c)::t,seen,acc=>match IG c with
  |none=>none
  |some T=>if CW n<0\/n∈seen then none else YB t (n::seen) (acc++[((CW n).toNat,T)])
def Yd(rs:List OP):Option (List (Nat×gj)):=YB rs [[111,116,104,101,114]] []
def zmg:Y7 Tryz.prog 104 179 (.agg #[.int .i64 0,.nilFunc]) 2 16 :=
 ⟨underlying104,info_parts yq,rfl,zR,zR⟩
def YC(lo:Nat)(w:z8)(sv:Value)(S:List (Nat×gj)):Prop :=
 ∃vs:List Value,w.ownsRow lo 179 2 sv S.length vs /\
  ∀j (h:j<S.length),∃u l h',vs[j*2]? = some (.int .i64 S[j].1)/\vs[j*2+1]? = some u/\lo<=l/\h'<=(w:Nat)/\(∀g,sv.ownBlock=some g->g<l\/h'<=g)/\j8 l h' w u S[j].2
def YC.nil(lo:Nat)(w:z8):YC lo w (.slice none 0 0) []:=⟨[],xx _ _ _ _,λj h=>absurd h (KV j)⟩
def YC.form(h:YC lo w sv S):∃a cap,sv = .slice a S.length cap:=by
 obtain⟨vs,b,_⟩:=h;exact zn b
def YC.lt(h:YC lo w sv S):∀g,sv.ownBlock=some g->lo<=g/\g<(w:Nat):=by
 obtain⟨vs,a,_⟩:=h;exact a.lt
def YC.but{b:Nat}(h:YC lo w sv S)(hb:xI b w w')(a:sv.ownBlock≠some b)
  (s:b<lo\/(w:Nat)<=b):YC lo w' sv S:=by
 obtain⟨vs,q,r⟩:=h;refine⟨vs,q.kept (row:=some b) ⟨hb.os,hb.tape,hb.output,hb.size,λi hi hn=>hb.block i hi (λe=>hn (by rw[e]))⟩ (.inr a),λj p=>?_⟩;obtain⟨u,l,o,d,f,g,c,m,n⟩:=r j p;refine⟨u,l,o,d,f,g,zj c hb.size,m,n.keep ⟨zj c hb.size,λk k1 k2=>hb.block k J J⟩ (Y _) (Y _)⟩
def YC.below(h:YC lo w sv S)(hb:zP w w'):YC lo w' sv S :=
 h.but (xI.of (p:=(w:Nat)) hb) (λe=>by have:=(h.lt _ e).2;omega) (.inr (Y _))
def L7{k:xm}{R:Value->Option (DataW Unit×List MemPlace)}{b:Nat}{D:DataW Unit}(h:w.ownsMap Tryz.prog k R b n D)(hb:zP w w'):w'.ownsMap Tryz.prog k R b n D :=
 h.kept (row:=none) ⟨hb.os,hb.tape,hb.output,hb.size,λi hi _=>hb.block i hi⟩ zZ
def zmf(fn:Fn)(first cap:Array Value)(w:z8):(binOp .eql 177 (.func fn first cap) .nilFunc).run Tryz.prog w = .ok (.bool false) w:=by
 have h:∀d:Nat,(VF (d+1) 177 (.func fn first cap) .nilFunc).run Tryz.prog w = .ok false w:=λd=>by
  simp[VF,kQ underlying177]
 exact La
def SB(w:z8):(binOp .eql 177 .nilFunc .nilFunc).run Tryz.prog w = .ok (.bool true) w:=by
 have h:∀d:Nat,(VF (d+1) 177 .nilFunc .nilFunc).run Tryz.prog w = .ok true w:=λd=>by
  simp[VF,kQ underlying177]
 exact La
def YC.more{l0 h0:Nat}{a:Value}{q:Nat×gj}
  (t:∀j (h:j<S.length),∃u l h',vs[j*2]? = some (.int .i64 S[j].1)/\vs[j*2+1]? = some u/\lo<=l/\h'<=(w:Nat)/\(∀g,sv.ownBlock=some g->g<l\/h'<=g)/\j8 l h' w u S[j].2) (d:vs.length=S.length*2)
  (hT:j8 l0 h0 w u q.2) (i:lo<=l0) (EG:h0<=(w:Nat)) (hg0:∀g,sv.ownBlock=some g->g<l0\/h0<=g)
  (hb:zP w w1) (Z3:w1.grownBy w' sv.ownBlock) (wM:a.ownBlock=sv.ownBlock\/a.ownBlock=some (w1:Nat)) (ho:w'.ownsRow lo 179 2 a (S.length+1) (vs++[.int .i64 q.1,u])) :
  YC lo w' a (S++[q]):=by
 have ir:∀l h',h'<=(w:Nat)->(∀g,sv.ownBlock=some g->g<l\/h'<=g)->xh l h' w w':=zj3;have b:∀l h',h'<=(w:Nat)->(∀g,sv.ownBlock=some g->g<l\/h'<=g)->∀g,a.ownBlock=some g->g<l\/h'<=g:=zxv;refine⟨vs++[.int .i64 q.1,u],Dr,λj s=>?_⟩;by_cases c:j<S.length
 .obtain⟨x,l,h',n,o,p,f,m,r⟩:=t j c;refine⟨x,l,h',?_,?_,p,zj f (zj hb.size Z3.size),b l h' f m,?_⟩
  .rw[za J,zzu c];exact n
  .rw[za J];exact o
  .rw[zzu c];exact r.keep (ir l h' f m) (Y _) (Y _)
 .have e:j=S.length:=by simp at s;omega
  subst e;refine⟨u,l0,h0,?_,?_,i,zj EG (zj hb.size Z3.size),b l0 h0 EG hg0,?_⟩
  .rw[xq J,d,List.getElem_append_right J];simp
  .rw[xq J,d];simp
  .exact zf6
def YC.set{a:Option yM}(h:YC lo w (.slice a S.length cap) S):D6 lo (w:Nat) w a S:=by
 obtain⟨vs,o,p⟩:=h;intro j n;obtain⟨u,l,r,e,f,i,d,q,k⟩:=p j n;obtain⟨g,c,hv,m,b,hc⟩:=xf o J;cases hv;refine⟨g,0,u,rfl,?_,?_,m,b,k.keep (vK d) i d⟩
 .rw[uE,hc (j*2) J];exact e
 .rw[uE,hc (j*2+1) J];exact f
def vib(r:Option (List (Nat×gj)))(w:z8)(e:xU)(w':z8):Prop :=
 (match r with|none=>e = .returned (.tuple #[.slice none 0 0,.bool false])|some S=>∃a c,e = .returned (.tuple #[.slice a S.length c,.bool true])/\D6 (w:Nat) (w':Nat) w' a S)/\zP w w'
def nY(D:DataW Unit)(seen:List Wd):Prop:=Maps.IsMap D/\∀n:Wd,∃c:Int,D.atKey (.string n) (.lit (.int .i64 0)) = .lit (.int .i64 c)/\(0<c ↔ n∈seen)/\0<=c/\c<=seen.length
def yj7(rs:List OP)(r:Option (List (Nat×gj)))(mb:Nat)(w:z8)(sv:Value)(k:Nat)(wr:z8):Prop :=
 ∃(S:List (Nat×gj)) (seen:List Wd) (D:DataW Unit),YC (mb+1) wr sv S/\wr.ownsMap Tryz.prog 9 (plainElem Tryz.prog 3) mb (k+1) D/\nY D seen/\seen.length<=k+1/\zP w wr/\(w:Nat)<=mb /\
  S.length<=k/\YB (rs.drop k) seen S=r
def eK:nY ((yf8 []:DataW Unit).put (.string [111,116,104,101,114]) (.lit (.int .i64 1))) [[111,116,104,101,114]]:=by
 refine⟨⟨_,rfl⟩,λn=>?_⟩;by_cases h:n=[111,116,104,101,114]
 .subst h;exact⟨1,yq,zZ,zR,zZ⟩
 .refine⟨0,?_,by simp[h],zR,zZ⟩;rw[dT (by simpa using h)];rfl
def sO{D:DataW Unit}{seen:List Wd}{n:Wd}(h:nY D seen){c:Int}(hc:D.atKey (.string n) (.lit (.int .i64 0)) = .lit (.int .i64 c)):nY (D.put (.string n) (.lit (.int .i64 (c+1)))) (n::seen):=by
 obtain⟨⟨es,rfl⟩,h2⟩:=h;refine⟨⟨_,rfl⟩,λm=>?_⟩;by_cases hm:m=n
 .subst hm;obtain⟨c',a,b,d,e⟩:=h2 m;rw[hc]at a;cases a;exact⟨c+1,UW ⟨_,rfl⟩ (by trivial) _ _,yJ,J,yJ⟩
 .obtain⟨c',a,b,d,e⟩:=h2 m;refine⟨c',?_,by simp[hm,b],d,yJ⟩;rw[dT (by simpa using hm)];exact a
def CA(rs:List OP)(v:Value)(w:z8)(hv:jn w v rs)(hl:rs.length<=1000000)(hz:∀q∈rs,q.1.length<=1000000/\q.2.length<=1000000)(hT:mr w)(hN:qx w) :
  zC Tryz.prog 37 #[v] w (vib (Yd rs) w):=by
 obtain⟨a,cap,rfl,N⟩:=hv;obtain⟨r,hr⟩:=zr (Yd rs);rw[hr];obtain⟨HR,HC,HZ,HT,HN⟩:=Jl hr N hz hT hN;have Em:=@run_makeMap Tryz.prog;clear hr N hz hT hN;go_enter func37,ntmps37;go_wp2;obtain⟨w1,b7,Q,O⟩:=(Hl (H:=Unit) w Tryz.prog 9 (plainElem Tryz.prog 3)).update (xE underlying9) underlying139 dO (xu (s:=⟨#[111,116,104,101,114]⟩) underlying9 zR) (bK underlying3 (q := .i64) (a:=1) zR);rw[b7];simp only[ym];have hb:zP w w1:=((zv _ _).alloc (Y _) _).grown O zZ (λj hj=>by cases hj;exact Y _);have oO:=Z Q;clear b7 Q O;obtain⟨mb,hmb⟩:∃mb,mb=(w:Nat):=⟨_,rfl⟩;rw[<-hmb]at oO;go_wp2;rw[<-hmb];have HMB:=Z hmb;clear hmb;go_loopw [2,13] (λsv i wr=>∃k:Nat,k<=rs.length/\i = .int .i64 k/\yj7 rs r mb w sv k wr) (λ_ i _=>rs.length - (intOf i).toNat)
 case atStart=>exact⟨0,zQ _,rfl,[],[[111,116,104,101,114]],_,YC.nil _ _,oO.o,eK,zZ,hb,by have:=HMB.o;omega,zZ,HR.o⟩
 case round =>
  obtain⟨k,hk,rfl,S,seen,D,R,xn2,V,Ml,L,xn3,hSk,y⟩:=hrel;obtain⟨d,xn4,E,G6⟩:=hdd R xn2 V y;obtain⟨sa,sc,rfl⟩:=R.form;clear R xn2 V y hb;by_cases uo:k<rs.length
  .obtain⟨g,o,rfl,c1,c2⟩:=HC.o k uo;have d1:=(L.cell (X w _ c1)).trans c1;have d2:=(L.cell (X w _ c2)).trans c2;clear c1 c2;go_wp2_with fail;have hzk:=HZ.o rs[k] (yf uo);obtain⟨nm,hnm⟩:=zr (rs[k].1);obtain⟨wh,hwh⟩:=zr (rs[k].2);rw[hnm,hwh]at hzk;rw[hnm]at d1|-;rw[hwh]at d2|-;have F:∃W,W=wr.alloc (.cells #[zM nm,zM wh] 47)/\zP wr W/\zu W (wr:Nat) 0 (zM nm)/\zu W (wr:Nat) 1 (zM wh):=⟨_,rfl,(zv _ _).alloc (Y _) _,zf _ _ _ _ _,zf _ _ _ _ _⟩;obtain⟨W,hW,m,b0,b1⟩:=F;rw[<-hW];have t:YB (rs.drop k) seen S=match IG wh with
     |none=>none
     |some T=>if CW nm<0\/nm∈seen then none else YB (rs.drop (k+1)) (nm::seen) (S++[((CW nm).toNat,T)]):=by
    rw[yY uo];have hp:rs[k]=(nm,wh):=(by rw[<-hnm,<-hwh]);rw[hp,YB]
   rw[G6.o]at t;have V6:=Z t;have x:zP w W:=L.trans (m.mono L.size);obtain⟨B,hB⟩:∃B,B=(wr:Nat):=⟨_,rfl⟩;rw[<-hB]at b0 b1|-;have HBB:=Z hB;clear hW t hnm hwh d1 d2 hB;have OG:zu W.drew B 0 (zM nm):=b0;refine V1 (λW':z8=>zu W' B 0 (zM nm)) [0,1,2] 2 OG ?_;refine gX 3 (λK hK=>?_);go_simp;have Fm:qx W.drew:=HN.o.below (show yD w w W.drew from x.drew);refine(Tryz.slices_Index_string 0 0 6 6 Yq ⟨nm.toArray⟩ _ zR zR (λj hj=>by rw[uE];exact Fm j hj)).mono ?_;rintro e w' ⟨rfl,rfl⟩;refine hK.out _ _ OG λ_=>?_;clear hK K;refine VO [4] 0 OG ?_;refine Y3 ?_ _;have hix:Lib.idxOfS (Yq.take 6) ⟨nm.toArray⟩=CW nm:=rfl;rw[hix];obtain⟨ix,xn5⟩:=zr (CW nm);rw[xn5]at V6|-
   have hcnd:=Hd ⟨wh.toArray⟩ W.drew (by rw[size_mk];omega) (HT.o.below x.drew);rw[toList_mk]at hcnd;have vl0:=Z hcnd;have b1d:zu W.drew B 1 (zM wh):=b1;clear hix xn5 hcnd Fm;go_wp2_with fail;refine vl0.o.mono ?_;rintro e w3 ⟨hq,dD⟩;have f:zP W w3:=(zv _ W).drew.trans dD;have yik:zP w w3:=x.trans (f.mono x.size);have hB:B<(W:Nat):=X W _ b0;have e0:=(f.cell (p:=(zU B 0)) hB).trans b0;have C:=Z ((d.o.below m).below f);have l:=Z (L7 (L7 xn4.o m) f);obtain⟨c,uqb,wM,IZ⟩:=l.o.lookup_int (xE underlying9) underlying139 underlying3 (q := .i64) Qa (key:=zM nm) (xu (s:=⟨nm.toArray⟩) underlying9 VP);rw[toList_mk]at wM;obtain⟨c',z,A,hs3,Oo⟩:=E.o.2 nm;rw[z]at wM;cases wM;have hef:=zmf;have hen:=SB;cases hc:IG wh with
   |none =>
    rw[hc]at hq;obtain rfl:=hq;have h:r=none:=(by rw[V6.o,hc]);have HRN:=Z h;clear hc h A z;by_cases h1:ix<0
    .have g1:decide (ix<0)=true:=decide_eq_true h1;exact Pv
    .have g1:decide (ix<0)=false:=decide_eq_false h1;by_cases h2:0<c
     .have g2:decide (0<c)=true:=decide_eq_true h2;exact Pv
     .have g2:decide (0<c)=false:=decide_eq_false h2;exact Pv
   |some T =>
    rw[hc]at hq;obtain⟨tv,rfl,hT3⟩:=hq;have ZN:=V6.o;rw[hc]at ZN;dsimp only at ZN;have G:=Z ZN;have HFT:=Z hT3;obtain⟨kf,KF,rfl,_⟩:=hT3;clear hc ZN;by_cases h1:ix<0
    .have g1:decide (ix<0)=true:=decide_eq_true h1;have h:r=none:=(by rw[G.o,yV (.inl h1)]);have HRN:=Z h;clear h A z;exact Pv
    .have g1:decide (ix<0)=false:=decide_eq_false h1;by_cases h2:0<c
     .have g2:decide (0<c)=true:=decide_eq_true h2;have h:r=none:=(by rw[G.o,yV (.inr (A.1 h2))]);have HRN:=Z h;clear h A z;exact Pv
     .obtain rfl:c=0:=(by omega);have hns:¬nm∈seen:=λhm=>h2 (A.2 hm)
      have hrc:YB (rs.drop (k+1)) (nm::seen) (S++[(ix.toNat,T)])=r:=(by rw[G.o,yz (λq=>q.elim h1 hns)]);have Ar:=Z hrc;have KG:=Z z;obtain⟨iN,hiN⟩:∃iN:Nat,ix=(iN:Int):=⟨ix.toNat,J⟩;subst hiN;rw[VH]at Ar;obtain⟨w4,um1,n,b⟩:=l.o.update (xE underlying9) underlying139 dO (key:=zM nm) (xu (s:=⟨nm.toArray⟩) underlying9 (by rw[size_mk];unfold maxLen;omega)) (bK underlying3 (q := .i64) (a:=1) zR);rw[toList_mk]at n;have I:xI mb w3 w4:=⟨b.os,b.tape,b.output,b.size,λi hi hn=>b.block i hi (λe=>hn BK)⟩;have um2:=l.o.lt;have xn6:YC (mb+1) w4 (.slice sa S.length sc) S:=C.o.but I (λe=>by have:=(C.o.lt _ e).1;omega) (.inl (dQ _));have M:zP w w4:=yik.grown b yik.size (λq hq=>by cases hq;exact xn3);have hmW:mb<(wr:Nat):=xn4.o.lt;have xn7:j8 W.drew.heap.size (w3:Nat) w4 (.func (.func kf) #[] KF) T:=HFT.o.keep ⟨b.size,λj j1 j2=>b.block j j2 (λe=>by cases e;have:=m.size;change (W:Nat)<=mb at j1;omega)⟩ (Y _) (Y _);have vl1:=Z xn7;have xn8:=Z n;obtain⟨vs,Dp,ht4⟩:=xn6;have OD:=Z Dp;have wE:=Z ht4;have e04:zu w4 B 0 (zM nm):=I.cell e0 (by show B≠mb;have:=HBB.o;omega);clear z A hrc xn7 n Dp ht4 hns h1 h2;go_wp2_with (at_builtin;refine Xn zmg rfl _ _ rfl (mb+1) _ S.length vs rfl (OD.o.alloc _) ⟨(w4:Nat),0,none⟩ 1 1 [.int .i64 iN,.func (.func kf) #[] KF] rfl rfl ?k1 ?k2 J (by have:=b.size;have:=m.size;have:=f.size;simp;omega) ?_)
      case k1 =>
       intro j u hu;rw[vS];match j,hu with
       | 0,hu=>simp at hu;subst hu;exact zf _ _ _ _ _
       | 1,hu=>simp at hu;subst hu;exact zf _ _ _ _ _
      case k2 =>
       exact Px
      intro iP w5 XC Vm Bk;have hbA:yD w4 w4 (w4.alloc (.cells #[iN,.func (.func kf) #[] KF] 179)):=(zv _ _).alloc (Y _) _;have U:YC (mb+1) w5 iP (S++[(iN,T)]) :=
       YC.more wE.o M3 vl1.o (by have:=m.size;show mb+1<=(W:Nat);omega) b.size (λq hq => .inl (by have:=(d.o.lt q hq).2;have:=m.size;show q<(W:Nat);omega)) hbA Vm MV XC
      have P:=(xn8.o.alloc (.cells #[iN,.func (.func kf) #[] KF] 179)).kept Vm (λe=>by have:=(d.o.lt mb e.symm).1;omega);have yx6:zP w w5:=(M.alloc M.size _).grown Vm (by have:=M.size;simp;omega) (λq hq=>by have:=(d.o.lt q hq).1;omega);obtain⟨a5,c5,rfl⟩:=zn XC;have zmd:=Z U;have xn9:=Z P;clear U P XC Vm Bk hbA;go_wp2;go_roundw
      case rel=>exact⟨k+1,J,uN,S++[(iN,T)],nm::seen,_,by simpa using zmd.o,xn9.o,sO E.o KG.o,yJ,yx6,xn3,yJ,Ar.o⟩
      case measure=>simp[intOf];omega
  .obtain rfl:k=rs.length:=(by omega);have y:=G6.o;rw[yI (Y _)]at y;have hr:r=some S:=(by rw[<-y,YB]);have VB:=Z hr;clear y hr;go_wp2;go_ret2
   refine⟨?_,L⟩;rw[VB.o];exact⟨sa,sc,rfl,d.o.set.keep (vK (Y _)) J (Y _)⟩
def Kj:List OP:=[([111,110,101],[105,32,61,32,49,32,97,110,100,32,118,32,61,32,48])]
def Nw:List OP:=[([111,110,101],[110,32,37,32,49,48,32,61,32,49,32,97,110,100,32,110,32,37,32,49,48,48,32,33,61,32,49,49]),([116,119,111],[110,32,37,32,49,48,32,61,32,50,32,97,110,100,32,110,32,37,32,49,48,48,32,33,61,32,49,50]),([102,101,119],[110,32,37,32,49,48,32,61,32,51,32,97,110,100,32,110,32,37,32,49,48,48,32,33,61,32,49,51])]
def FH(w:z8):zC Tryz.prog 5 #[] w λe w'=>(∃c o,e = .returned (Hv c o 45 46 44 3 0 ⟨#[]⟩)/\jn w' c Kj/\jn w' o Nw)/\zP w w':=by
 go_enter func5,ntmps5;go_wp2;refine yK (v:=Hv (.slice ((w:Nat)+1,0) 1 1) (.slice ((w:Nat)+1+1+1,0) 3 3) 45 46 44 3 0 ⟨#[]⟩) ?_ rfl ⟨⟨_,_,rfl,⟨_,_,rfl,λj hj=>⟨_,_,rfl,?_,?_⟩⟩,⟨_,_,rfl,λj hj=>⟨_,_,rfl,?_,?_⟩⟩⟩,?_⟩
 .simp[yN,results5,go_sem]
 .obtain rfl:j=0:=by have:j<1:=hj;omega
  go_simp;rfl
 .obtain rfl:j=0:=by have:j<1:=hj;omega
  go_simp;rfl
 .exact zv7
 .exact zv7
 ·(repeat(first|(with_reducible exact zv _ _)|(with_reducible refine KY ?_ ?_ _;rotate_left;focus(first|(simp;done)|(simp;omega)))|(with_reducible refine ZD ?_ ?_ _;rotate_left;focus(first|(simp;done)|(simp;omega)))))
def xyy(S:List (Nat×gj))(W:z8)(u:Value):Prop:=∃a c hi,u = .slice a S.length c/\D6 0 hi W a S/\hi<=(W:Nat)
def ZG(rs:List OP)(S:List (Nat×gj))(v:Value)(w:z8)(hv:jn w v rs)(h:rs.length<=1000000)(i:∀q∈rs,q.1.length<=1000000/\q.2.length<=1000000)(g:mr w)(f:qx w)(hS:Yd rs=some S) :
  qe w v true (xyy S):=by
 intro W b;refine(CA rs v W (hv.below b) h i (g.below b) (f.below b)).mono ?_;rintro e w1 ⟨d,hb⟩;rw[hS]at d;obtain⟨a,c,he,hr⟩:=d;refine⟨⟨_,_,_,he,λj hA=>⟨a,c,(w1:Nat),rfl,?_,hA.1⟩⟩,hb⟩;exact hr.keep (lo':=0) (hi':=(w1:Nat)) ⟨hA.1,λk h1 h2=>hA.2 k (.inr ⟨h1,h2⟩)⟩ (zQ _) (Y _)
def jn.slice{rs:List OP}(h:jn w v rs):∃a n k,v = .slice a n k:=by
 obtain⟨a,cap,hv,-⟩:=h;exact⟨a,_,cap,hv⟩
def fK:(∀q∈Kj,q.1.length<=1000000/\q.2.length<=1000000)/\∀q∈Nw,q.1.length<=1000000/\q.2.length<=1000000:=zR
def Ca:List (Nat×gj):=(Yd Kj).getD []
def Cc:List (Nat×gj):=(Yd Nw).getD []
def bP:Yd Kj=some Ca/\Yd Nw=some Cc:=by
 have h:(Yd Kj).isSome=true/\(Yd Nw).isSome=true:=Lh;constructor
 .obtain⟨S,hS⟩:=LJ.1 h.1;unfold Ca;rw[hS];rfl
 .obtain⟨S,hS⟩:=LJ.1 h.2;unfold Cc;rw[hS];rfl
variable{hi:Nat}
abbrev dgL(s:List UInt8):Dg:=(vQ s,ud s)
def L8(h:ue l=true):(vQ l).all yG=true/\(ud l).all yG=true/\0<(vQ l).length/\(vQ l).length+(ud l).length<=30:=zku
def xyx(h:ue l=true):Ny (dgL l):=by
 obtain⟨h1,h2,a,b⟩:=L8 h;exact⟨h1,h2,(λq=>by rw[show vQ l=[]from q]at a;cases a),by show(vQ l).length<=100;omega,by show(ud l).length<=100;omega⟩
def nmC(k:Nat):Wd:=(Yq.getD k Y5).data.toList
def UH(rs:List OP)(s:List UInt8):Wd:=match Yd rs with|none=>[]|some S=>if ue s=true then nmC (n7 S (dgL s))else []
def UI(rs:List OP)(s:List UInt8):Int:=match Yd rs with|none=>9|some _=>if ue s=true then 0 else 10
def ycu(rs:List OP)(s:List UInt8)(w:z8)(e:xU)(w':z8):Prop:=e = .returned (.tuple #[zM (UH rs s),aw (UI rs s)])/\zP w w'
def zmb(x:ByteArray):∀(zs:List ByteArray) (i:Nat),iq zs x i<(i+zs.length:Nat)
 |[],i=>by simp[iq];omega
 |z::zs,i=>by
  rw[iq];split
  .simp;omega
  .have:=zmb x zs (i+1);simp only[zY];omega
def zn0(n:Wd):CW n<6:=by
 have h:=zmb ⟨n.toArray⟩ Yq 0;have e:Yq.length=6:=zR;rw[e]at h;exact h
def Lz:∀(rs:List OP) (seen:List Wd) (acc S:List (Nat×gj)),YB rs seen acc=some S->(∀q∈acc,q.1<6)->S.length=acc.length+rs.length/\∀q∈S,q.1<6
 |[],_,acc,S,h,ha=>by cases h;exact⟨zZ,ha⟩
 |(n,c)::t,seen,acc,S,h,ha=>by
  rw[YB]at h;split at h
  .cases h
  .split at h
   .cases h
   .next hn =>
    have:=Lz t _ _ S h λq a=>by
     rcases zS.1 a with a|a
     .exact ha q a
     .have:=zn0 n;simp at a;subst a;simp only;omega
    refine⟨?_,this.2⟩;rw[this.1];simp;omega
def Ly{rs:List OP}(h:Yd rs=some S):S.length=rs.length/\∀q∈S,q.1<6:=by
 have:=Lz rs _ [] S h zZ;simpa using this
def zn1{rs:List OP}(h:Yd rs=some S)(d:Dg):n7 S d<6:=by
 have hS:=(Ly h).2;unfold n7;split
 .next q a=>exact hS q (OV a)
 .decide
def D6.xnz{a:Option yM}(h:D6 lo hi w a S)(hb:yD hi w w')(b:hi<=(w:Nat)):D6 lo hi w' a S :=
 h.keep (vu (lo:=lo) hb (Y _) b) (Y _) (Y _)
def zn2(rs:List OP)(v:Value)(s:ByteArray)(w:z8)(hv:jn w v rs)(T:rs.length<=1000000)(hz:∀q∈rs,q.1.length<=1000000/\q.2.length<=1000000)(hs:s.size<=1000000)(hT:mr w)(P:qx w) :
  zC Tryz.prog 22 #[v,.string s] w (ycu rs s.data.toList w):=by
 have t:=Z (CA rs v w hv T hz hT P);have HN:=Z P;obtain⟨va,vn,vc,rfl⟩:∃a n c,v = .slice a n c:=by obtain⟨a,c,rfl,_⟩:=hv;exact⟨_,_,_,rfl⟩
 have U:=Z T;clear hv hz hT P T;go_enter func22,ntmps22;go_wp2_with fail;refine t.o.mono ?_;rintro e w1 ⟨M,u⟩;cases hr:Yd rs with
 |none =>
  rw[hr]at M;subst M;have H:=Z (show UH rs s.data.toList=[]by unfold UH;rw[hr]);have B:=Z (show UI rs s.data.toList=9 by unfold UI;rw[hr]);clear hr;go_wp2;go_ret2
  exact⟨by rw[H.o,B.o];rfl,u⟩
 |some S =>
  rw[hr]at M;obtain⟨a,c,rfl,r⟩:=M;have G:=Z r;have F:=Z hr;clear hr r;go_wp2_with fail;refine(Yt s _ hs).mono ?_;rintro e w2 ⟨b,pv,k,rfl,⟨pa,pn,pk,rfl⟩,x,j⟩;have f:=u.trans (x.mono u.size);cases hn:ue s.data.toList
  .have H:=Z (show UH rs s.data.toList=[]by unfold UH;rw[F.o];dsimp only;rw[hn];rfl);have B:=Z (show UI rs s.data.toList=10 by unfold UI;rw[F.o];dsimp only;rw[hn];rfl);clear hn j;go_wp2;go_ret2
   exact⟨by rw[H.o,B.o];rfl,f.alloc f.size _⟩
  .obtain⟨rfl,rfl,i⟩:=j hn;have L:=xyx hn;obtain⟨d1,d2,hwl,h30⟩:=L8 hn;obtain⟨g,cap,V,_,_,_,_⟩:=mJ i J;cases V;have I:uh w2 (.agg #[.bool (XA s.data.toList),.slice (g,0) ((vQ s.data.toList).length+(ud s.data.toList).length) pk,.int .i64 (dgL s.data.toList).2.length]) (dgL s.data.toList) :=
    Ki (d:=vQ s.data.toList++ud s.data.toList) rfl zZ i L
   have h:=Ly F.o;have K:n7 S (dgL s.data.toList)<6:=by
    unfold n7;cases hf:S.find? (λq=>q.2 (dgL s.data.toList)) with
    |some q=>exact h.2 q (OV hf)
    |none=>decide
   have H:=Z (show UH rs s.data.toList=nmC (n7 S (dgL s.data.toList))by unfold UH;rw[F.o];dsimp only;rw[yV hn]);have B:=Z (show UI rs s.data.toList=0 by unfold UI;rw[F.o];dsimp only;rw[yV hn]);obtain⟨ix,z⟩:=zr (n7 S (dgL s.data.toList));obtain⟨E,C,O,D⟩:=hdd (show ix<6 by rw[<-z];exact K) z I h.1;clear hn j i L I h K z d1 d2;go_wp2_with fail;refine yo ?_;intro W hW;have y:zP w2 W:=Qd;clear hW;have p:zP w1 W:=x.trans (y.mono x.size);have m:zP w W:=f.trans (y.mono f.size);refine(Nl S a c _ (dgL s.data.toList) (w:Nat) (w1:Nat) W (by rw[D.o];exact U.o) (G.o.xnz p (Y _)) p.size (O.o.below y)).mono ?_;rintro e w3 ⟨rfl,Q⟩;rw[C.o];have l:=m.trans (Q.mono m.size);have R:=HN.o.below l ix E.o;have HE:=Z (show nmC ix=(Yq.getD ix Y5).data.toList from rfl);obtain⟨nm,A⟩:=zr (Yq.getD ix Y5);rw[A]at R;have N:=Z A;have um3:=E.o;clear A;go_wp2;go_ret2
   exact⟨by rw[H.o,B.o,C.o,HE.o,N.o];simp[aw,zM],l⟩
structure Ce(w:z8):Prop where
 rt:mr w
 names:qx w
 err:JF w
def Ce.below(h:Ce w)(hb:zP w w'):Ce w':=⟨h.rt.below hb,h.names.below hb,h.err.below hb⟩
def SC(rs:List OP)(v:Value)(s:ByteArray)(w:z8)(hv:jn w v rs)(k:rs.length<=1000000)(h:∀q∈rs,q.1.length<=1000000/\q.2.length<=1000000)(hs:s.size<=1000000)(g:Ce w) :
  zC Tryz.prog 12 #[v,.string s] w λe w'=>e = .returned (.tuple #[zM (UH rs s.data.toList),.int .i64 (UI rs s.data.toList)])/\zP w w':=by
 have a:=zn2 rs v s w hv k h hs g.rt g.names;unfold ycu at a;generalize UH rs s.data.toList=l at *;generalize UI rs s.data.toList=j at *;have c:=Z a;have i:=Z g.err;clear a g h hv;go_enter func12,ntmps12;go_wp2_with fail;refine c.o.mono ?_;rintro e w1 ⟨rfl,b⟩;go_wp2_with fail;refine(C4 j _ (i.o.below b)).mono ?_;rintro e w2 ⟨rfl,f⟩;have d:=b.trans (f.mono b.size);clear f b;go_wp2;go_ret2
 exact⟨rfl,d⟩
variable{cv o ov:Value}
structure V8(w:z8)(c o:Value):Prop where
 c:jn w c Kj
 o:jn w o Nw
def V8.below{c:Value}(h:V8 w c o)(hb:zP w w'):V8 w' c o:=⟨h.c.below hb,h.o.below hb⟩
abbrev zn3(c o:Value):Value:=Hv c o 45 46 44 3 0 ⟨#[]⟩
def sP:jd Unit:=xmg 45 46 44 3 3 (xz (Kp [])) Ca Cc
def Gh:xS true true 45 46 44 ((3:Nat):Int) ((0:Nat):Int) []=true:=by simp[xS,kN,dH]
def nX{P g:Nat}{rs:List (Value×Value)}(h:CB P q g mb f vC vI rs 45 46 44 3 0 [] cv ov w)(hc:xyy Ca w cv)(e:xyy Cc w ov):xzz w g sP:=by
 have hd:∀x∈xz (Kp []),I32 x:=λx hx=>K7 _ _ (Y _) x hx
 obtain⟨a,c,hi,rfl,i,b1⟩:=hc;obtain⟨a',c',hi',rfl,j,b2⟩:=e;have k1:xh 0 hi w w:=⟨b1,λ_ _ _=>rfl⟩;have k2:xh 0 hi' w w:=⟨b2,λ_ _ _=>rfl⟩;refine xzg (lo:=0) (hi:=(w:Nat)) (fi:=3) (ne:=3) h.loc h.gl ⟨zR,zR,zR,hd⟩ zR zR (by decide) h.g0 h.g1 ⟨by decide +kernel,by decide +kernel⟩ (i.keep k1 (Y _) b1) (j.keep k2 (Y _) b2) (Y _) (λn hn=>?_) (λb d=>?_)
 .have h1:=hn.Bp;have h2:=hn.D1;exact ef _ _ _ _ _ _ _ _ _ (by simp[xG];omega) J
 .cases b
  .exact zn1 bP.1 d
  .exact zn1 bP.2 d
def vl3(r:Except (Nat×Nat) Fo)(w:z8)(e:xU)(w':z8):Prop :=
 zP w w'/\match r with
  |.error (n,a)=>e = .returned (.tuple #[.pointer none,n,a])
  |.ok f=>∃P q g mb vC vI rs,e = .returned (.tuple #[.pointer (some ⟨P,0,none⟩),.int .i64 0,.int .i64 0])/\JI P q g mb f vC vI rs sP w'
def Ci{p:Wd}{c:Value}(hp:p.length<=1000000)(h:Zn w)(hR:mr w)(hA:V8 w c o) :
  zC Tryz.prog 7 #[zM p,zn3 c o] w (vl3 (um p) w):=by
 refine(NP ⟨p.toArray⟩ c o true true 45 46 44 3 0 ⟨#[]⟩ _ _ w (by rw[size_mk];exact hp) zR zR zR (ZG Kj Ca c w hA.c zR fK.1 hR h.names bP.1) (ZG Nw Cc o w hA.o zR fK.2 hR h.names bP.2) ⟨hA.c.slice,hA.o.slice⟩ h).mono ?_;rintro e w1 ⟨i,b⟩;rw[yz (by rw[Gh];decide),show(⟨p.toArray⟩:ByteArray).data.toList=p from rfl]at b;refine⟨i,?_⟩;cases hr:um p with
 |error x=>obtain⟨n,a⟩:=x;rw[hr]at b;exact b
 |ok f =>
  rw[hr]at b;obtain⟨P,q,g,mb,vC,vI,rs,cv,ov,rfl,d,j,k⟩:=b;obtain⟨r1,r2⟩:=UB hr;obtain⟨v1,v2,v3,v4,v5⟩:=JN r1 r2;exact⟨P,q,g,mb,vC,vI,rs,rfl,d.p0,d.p1,d.prog,nX d (j w1 (zv _ _)) (k w1 (zv _ _)),v1,CT r1 r2,v3,v4,v5⟩
def zn4{p:Wd}{c:Value}(hp:p.length<=1000000)(z:Zn w)(hR:mr w)(hA:V8 w c o){l:List Wd}{a:Option yM}{cc:Nat}(F:YG w a l)(hn:l.length=n)(E:∀t∈l,t.length<=1000000)(m:n<=1000000) :
  zC Tryz.prog 13 #[zM p,zn3 c o,.slice a n cc] w λe w'=>(match um p with
   |.error _=>e = .returned (.tuple #[zM [],.bool false])
   |.ok f=>∃s k,e = .returned (.tuple #[zM s,.bool (decide (k=0))])/\CF sP f (jS l (0,λ_=>none)).1 (jS l (0,λ_=>none)).2 s k)/\zP w w':=by
 obtain⟨r,hr⟩:=zr (um p);have y:=Z (λ(W:z8) (hb:zP w W)=>Ci hp (z.below hb) (hR.below hb) (hA.below hb));rw[hr]at y|-;have H:=Z z.tabs.err;have u:=Z (zg F (zg hn (zg E m)));have G:=Z (zg hA.c.slice hA.o.slice);clear z hR hA hp hr F hn E m;go_enter func13,ntmps13;go_wp2_with fail;refine yo ?_;intro W hW;have hb:zP w W:=Qd;clear hW;refine(y.o W hb).mono ?_;rintro e w1 ⟨h,d⟩;have b:zP w w1:=hb.trans (h.mono hb.size);cases r with
 |error x =>
  obtain⟨n,a⟩:=x;obtain rfl:=d;have v:=Z b;clear hb h b y;go_wp2;go_ret2
  exact⟨rfl,v.o⟩
 |ok f =>
  obtain⟨P,q,g,mb,vC,vI,rs,rfl,C⟩:=d;have A:=Z (Yu (c:=cc) C (H.o.below b) (u.o.1.fr (CD b)) u.o.2.1 u.o.2.2.1 u.o.2.2.2);have v:=Z b;clear hb h b C y;go_wp2_with fail;refine A.o.mono ?_;rintro e w2 ⟨⟨s,k,rfl,hs⟩,j⟩;have B:=Z hs;have i:=Z (v.o.trans ((Ky j).mono v.o.size));clear A hs j;by_cases D:k=0
  .subst D;go_wp2;go_ret2
   exact⟨⟨s,0,rfl,B.o⟩,i.o⟩
  .have I:((k:Int)=0)=False:=(by simp;omega);go_wp2;go_ret2
   exact⟨⟨s,k,by simp[D],B.o⟩,i.o⟩
structure gO(w:z8):Prop where
 cmp:Zn w
 rt:mr w
def gO.below(h:gO w)(hb:zP w w'):gO w':=⟨h.cmp.below hb,h.rt.below hb⟩
def gO.cat(h:gO w):Ce w:=⟨h.rt,h.cmp.names,h.cmp.tabs.err⟩
def eJ{s:Wd}{c:Value}(hs:s.length<=1000000)(a:gO w)(hA:V8 w c o) :
  zC Tryz.prog 11 #[zM s,zn3 c o] w λe w'=>e = .returned (.tuple #[zM (QD true s 45 46 44 3 0 []),.int .i64 (QB true s)])/\zP w w':=by
 have h:=Rl ⟨s.toArray⟩ c o true true 45 46 44 3 0 ⟨#[]⟩ _ _ w (by rw[size_mk];exact hs) zR zR zR (ZG Kj Ca c w hA.c zR fK.1 a.rt a.cmp.names bP.1) (ZG Nw Cc o w hA.o zR fK.2 a.rt a.cmp.names bP.2) ⟨hA.c.slice,hA.o.slice⟩ a.cmp.tabs;rw[show(⟨#[]⟩:ByteArray).data.toList=[]from rfl,Gh]at h;exact h
def zn5(E:jd Unit)(p:Wd)(l:List Wd):Option Wd :=
 match um p with
 |.ok f=>(match sY (sx E (jS l (0,λ_=>none)).2) (MkS.all f) ()with |.ok (o,_)=>some o |.error _=>none)
 |.error _=>none
def SE:List Wd->Bool
 |k::d::t::r=>kV k && (bj t (d==[110]) && SE r)
 |_=>true
def nU:∀(n:Nat) (l:List Wd),l.length<=n->∀p:Nat×(Wd->Option (Wd×Bool)),SE l=true->(∀m x,p.2 m=some x->kV m=true/\bj x.1 x.2=true)->∀m x,(jS l p).2 m=some x->kV m=true/\bj x.1 x.2=true
 |_,[],_,_,_,h=>h
 |_,[_],_,_,_,h=>h
 |_,[_,_],_,_,_,h=>h
 | 0,_::_::_::_,a,_,_,_=>by simp at a
 |n+1,k::d::t::r,a,p,ha,h=>by
  rw[SE,zx,zx]at ha;rw[jS];refine nU n r (by simp at a;omega) _ ha.2.2 λm x hx=>?_
  simp only at hx;split at hx
  .next e =>
   cases hx;subst e;exact⟨ha.1,ha.2.1⟩
  .exact h m x hx
def zn6{l:List Wd}(h:SE l=true)(a:l.length<=16):Xi (jS l (0,λ_=>none)).2 (jS l (0,λ_=>none)).1:=by
 refine⟨?_,nU _ l (Y _) _ h (λm x hx=>Qe)⟩;have:=Kv _ l (Y _) (0,λ_=>none);exact Dt
def sR{p:Wd}{l:List Wd}{c:Value}{a:Option yM}{cc:Nat}(hs:zn5 sP p l=some t)(ha:SE l=true)(hp:p.length<=1000000)(d:∀t∈l,t.length<=1000000)(hn:l.length=n)(g:n<=16)(b:gO w)(hA:V8 w c o)(j:YG w a l) :
  zC Tryz.prog 13 #[zM p,zn3 c o,.slice a n cc] w λe w'=>e = .returned (.tuple #[zM t,.bool true])/\zP w w':=by
 refine(zn4 hp b.cmp b.rt hA j hn d J).mono ?_;rintro e w' ⟨h,hb⟩;refine⟨?_,hb⟩;unfold zn5 at hs;cases hr:um p with
 |error x=>rw[hr]at hs;cases hs
 |ok f =>
  rw[hr]at hs h;obtain⟨s,k,rfl,i⟩:=h;dsimp only at hs;rcases i with⟨-,h2⟩|⟨h2,-⟩
  .split at hs
   .next m g1 he =>
    cases hs;rw[he]at h2;obtain⟨rfl,rfl⟩:=h2;rfl
   .cases hs
  .exact absurd (zn6 ha J) h2
def FI:QD true [45,49,50,51,52,53,54,55,46,53,48] 45 46 44 3 0 []=[45,49,44,50,51,52,44,53,54,55,46,53,48]/\QB true [45,49,50,51,52,53,54,55,46,53,48]=0:=Lh
def SH:UH Kj [49]=[111,110,101]/\UI Kj [49]=0:=Lh
def SI:UH Kj [50]=[111,116,104,101,114]/\UI Kj [50]=0:=Lh
def xny:Wd:=[123,110,44,32,112,108,117,114,97,108,44,32,111,110,101,32,123,65,125,32,111,116,104,101,114,32,123,66,35,125,125]
def sS:zn5 sP xny [[110],[110],[49,48,48,48]]=some [66,49,44,48,48,48]:=yq
variable{B:Nat}{w0:z8}
structure eG(w0 w:z8)(B:Nat)(c o:Value):Prop where
 loc:C5 w B c o 45 46 44 3 0 ⟨#[]⟩
 eng:V8 w c o
 dG:zP w0 w
def eG.next{c:Value}(h:eG w0 w B c o)(hb:zP w w'):eG w0 w' B c o:=⟨h.loc.below hb (X _ _ h.loc.1),h.eng.below hb,h.dG.trans (hb.mono h.dG.size)⟩
def eG.made{c:Value}(hA:V8 w c o)(hb:zP w0 w):eG w0 (w.alloc (.cells #[c,o,.int .i32 45,.int .i32 46,.int .i32 44,.int .u8 3,.int .u8 0,.string ⟨#[]⟩] 26)) (w:Nat) c o:=by
 have a:yD w w (w.alloc (.cells #[c,o,.int .i32 45,.int .i32 46,.int .i32 44,.int .u8 3,.int .u8 0,.string ⟨#[]⟩] 26)):=(zv _ _).alloc (Y _) _;refine⟨?_,hA.below a,hb.trans (a.mono hb.size)⟩;refine⟨?_,?_,?_,?_,?_,?_,?_,?_⟩<;>exact zf _ _ _ _ _
def eF(w:z8)(K:gO w):zC Tryz.prog 4 #[] w λe w'=>e = .returned (.bool true)/\zP w w':=by
 have y:=Z K;clear K;go_enter func4,ntmps4;go_wp2_with fail;refine(FH w).mono ?_;rintro e w1 ⟨⟨c,o,rfl,hc,E⟩,p⟩;obtain⟨ca,cn,D,rfl⟩:=hc.slice;obtain⟨S,on,ok,rfl⟩:=E.slice;have i:=eG.made (V8.mk hc E) p;go_wp2_with fail;generalize w1.alloc (.cells #[.slice ca cn D,.slice S on ok,.int .i32 45,.int .i32 46,.int .i32 44,.int .u8 3,.int .u8 0,.string ⟨#[]⟩] 26)=W at i|-;generalize (w1:Nat)=B at i|-;clear hc E p;have C:=Z (eJ (s:=[45,49,50,51,52,53,54,55,46,53,48]) zR (y.o.below i.dG) i.eng);rw[FI.1,FI.2]at C;refine C.o.mono ?_;rintro e w2 ⟨rfl,q⟩;have a:=i.next q;obtain⟨F,-,-,-,-,-,-,-⟩:=a.loc;have A:=Z (SC Kj (.slice ca cn D) ⟨#[49]⟩ w2 a.eng.c zR fK.1 zR (y.o.below a.dG).cat);rw[show(⟨#[49]⟩:ByteArray).data.toList=[49]from rfl,SH.1,SH.2]at A;have H:=Z a;clear i a q C;go_wp2_with fail;refine A.o.mono ?_;rintro e w3 ⟨rfl,r⟩;have b:=H.o.next r;obtain⟨F,-,-,-,-,-,-,-⟩:=b.loc;have g:=Z (SC Kj (.slice ca cn D) ⟨#[50]⟩ w3 b.eng.c zR fK.1 zR (y.o.below b.dG).cat);rw[show(⟨#[50]⟩:ByteArray).data.toList=[50]from rfl,SI.1,SI.2]at g;have k:=Z b;clear b r A H;go_wp2_with fail;refine g.o.mono ?_;rintro e x ⟨rfl,u⟩;have h:=k.o.next u;obtain⟨F,L,M,N,O,P,Q,R⟩:=h.loc;have l:=Z h;clear h u g k;go_wp2_with fail;have m:yD x x (x.alloc (.cells #[zM [110],zM [110],zM [49,48,48,48]] 9)):=(zv _ _).alloc (Y _) _;have d:YG (x.alloc (.cells #[zM [110],zM [110],zM [49,48,48,48]] 9)) (some ⟨(x:Nat),0,none⟩) [[110],[110],[49,48,48,48]]:=λ_=>⟨_,_,rfl,λj t d=>by
  rw[uE,zf];match j,d with
  | 0,d=>simpa using d
  | 1,d=>simpa using d
  | 2,d=>simpa using d⟩
 have f:=l.o.next m;have I:=Z (sR (cc:=3) (n:=3) sS yq zR zR rfl zR (y.o.below f.dG) f.eng d);have G:=Z f.dG;clear m d f l F L M N O P Q R;refine I.o.mono ?_;rintro e T ⟨rfl,v⟩;have z:=Z (G.o.trans (v.mono G.o.size));clear v I;go_wp2;go_ret;exact⟨by first|rfl|simp,z.o⟩



variable{m:Nat}
def xyv(a b:Wd):((⟨a.toArray⟩:ByteArray)=⟨b.toArray⟩) ↔ a=b:=by
 constructor
 .intro h;have:=congrArg (λx:ByteArray=>x.data.toList) h;simpa using this
 .rintro rfl;rfl
def eD{a b:yM}{l k:Wd}(ha:jE w (some a) l)(hb:jE w (some b) k)(hn:l.length=n)(hm:k.length=m) :
  zC Tryz.prog 145 #[.slice (some a) n c,.slice (some b) m d] w λe w'=>e = .returned (.bool (decide (l=k)))/\w=w':=by
 subst hn hm;have h1:=KK (P:=Tryz.prog) w 34 9 5 a c l underlying34 underlying5 underlying9 (λj f=>by obtain⟨x,e,h⟩:=ha j f;cases e;exact h);have h2:=KK (P:=Tryz.prog) w 34 9 5 b d k underlying34 underlying5 underlying9 (λj f=>by obtain⟨x,e,h⟩:=hb j f;cases e;exact h);obtain⟨n,hn⟩:=zr l.length;obtain⟨m,hm⟩:=zr k.length;rw[hn]at h1|-;rw[hm]at h2|-;clear hn hm ha hb;go_enter func145,ntmps145;go_wp2;go_ret;simp[xyv];rw[xO];simp
def SL{a b:yM}{l:Wd}(ha:jE w (some a) l)(hb:jE w (some b) qJ)(hn:l.length=n)(hc:n<=c)(hm:c<=maxLen) :
  zC Tryz.prog 100 #[.slice (some a) n c,.slice (some b) 3 3] w λe w'=>e = .returned (.bool (qJ.isPrefixOf l))/\w=w':=by
 have p:n<=9223372036854775807:=by unfold maxLen at hm;omega
 by_cases h:3<=n
 .have k:∀w:z8,(Vu 34 (.slice (some a) n c) none (some (.int .i64 3)) none).run Tryz.prog w = .ok (.slice (some a) 3 c) w:=UG a n 3 c h hc hm;have i:(3:Int)<=(c:Int):=by omega
  have j:3<=c:=J;have g:=Z (eD (c:=c) (d:=3) (w:=w) (ha.take 3) hb (n:=3) (m:=3) WS rfl);have HR:=Z (show decide (l.take 3=qJ)=qJ.isPrefixOf l by
   rw[xO,vJ,gL,List.prefix_iff_eq_take];exact eq_comm)
  have f:(3:Int)<=(n:Int):=J;clear ha hb hn hc hm;go_enter func100,ntmps100;go_wp2_with fail;refine g.o.mono ?_;rintro e w' ⟨rfl,rfl⟩;exact Az
 .have HR:=Z (show qJ.isPrefixOf l=false by
   rw[zr3];intro q;have:=(gL.1 q).length_le;simp[qJ]at this;omega)
  have f:¬(3:Int)<=(n:Int):=J;clear ha hb hn hc hm;go_enter func100,ntmps100;exact Az
def SM{a b:yM}{l:Wd}(ha:jE w (some a) l)(hb:jE w (some b) qJ)(hn:l.length=n)(hc:n<=c)(hm:c<=maxLen) :
  zC Tryz.prog 56 #[.slice (some a) n c,.slice (some b) 3 3] w λe w'=>e = .returned (if qJ.isPrefixOf l=true then .tuple #[.slice (some (Bz a 3 c)) (n - 3) (c - 3),.bool true]else .tuple #[.slice (some a) n c,.bool false])/\w=w':=by
 have HP:=Z (SL ha hb hn hc hm);have m:n<=9223372036854775807:=by unfold maxLen at hm;omega
 by_cases hp:qJ.isPrefixOf l=true
 .have g:3<=n:=by
   have:=(gL.1 hp).length_le;simp[qJ]at this;omega
  have k:∀w:z8,(Vu 34 (.slice (some a) n c) (some (.int .i64 3)) none none).run Tryz.prog w = .ok (.slice (some (Bz a 3 c)) (n - 3) (c - 3)) w:=S7 a n 3 c g hc hm;rw[yV hp];have i:(3:Int)<=(c:Int):=J;have j:3<=c:=J;rw[hp]at HP;have f:=Z hp;have h:(3:Int)<=(n:Int):=J;clear ha hb hn hc hm hp;exact zxz
 .rw[yz hp];have d:qJ.isPrefixOf l=false:=zr3.2 hp;rw[d]at HP;have f:=Z hp;clear ha hb hn hc hm hp d;exact zxz
def O0(w:z8):(zA .nilIface 20 149 true).run Tryz.prog w = .ok (.tuple #[.agg #[],.bool false]) w:=xV
def B3(A:Nat)(w:z8):CallsD Tryz.prog 55 #[(A,0)] .returning w λe c w'=>e = .returned (.tuple #[])/\c = .returning/\zP w w':=by
 refine EL func55 rfl λa cs b=>?_
 have ha:=O0;apply wpS_seq;apply wpS_region;simp[wpOpsS,go_sem,recoverD,b,ha,ntmps55,Fq];refine wpS_of_wp ?_;go_wp2;cases a;simp_all [bodyPostS,yN,results55];exact(zv _ _).alloc (Y _) _
structure Hb(w:z8)(b:yM)(l:Wd)(n c:Nat):Prop where
 at_:jE w (some b) l
 len:l.length=n
 le:n<=c
 cap:c<=maxLen
 lt:b.block<(w:Nat)
def sT{b:yM}{l:Wd}(h:Hb w b l n c)(m:NC l=true) :
  zC Tryz.prog 32 #[.slice (some b) n c] w λe w'=>e = .returned (.pointer none)/\zP w w':=by
 have uo:∀x,(w:Nat)=x->b.block<x:=λx e=>e▸h.lt
 have C:Fr yH yH w (w.alloc (.cells #[.pointer none] 56)):=(Fr.refl _ _).alloc _;have hA:=λj=>zf w #[.pointer none] 56 (0,0) j
 have H:(w.alloc (.cells #[.pointer none] 56)).frozen? (w,0)=false:=zZ;have G:(w.alloc (.cells #[.pointer none] 56)).heap.size=(w:Nat)+1:=zZ;obtain⟨W,hcv,i,A⟩:=CU (w.alloc (.cells #[.pointer none] 56));have c0:zu W (w:Nat) 0 (.pointer none):=i.cell (hA 0) id;have z0:W.frozen? (zU (w:Nat) 0)=false:=(i.frozen (show (w:Nat)<_ by omega) id).trans H;have r:=C.trans i;have HC:=Z (SM (b:=⟨(w.alloc (.cells #[.pointer none] 56)).heap.size,0,none⟩) (h.at_.fr r (λ_ _=>id)) (λj hj=>⟨_,rfl,A j _ (by simp[gp,hj])⟩) h.len h.le h.cap);rw[G]at HC hcv;have I:=Z (zg h m);have HF:=Z r;clear h m C hA H i A r uo;go_enter_defers func32,ntmps32;go_wp2_with fail;refine HC.o.mono ?_;rintro e w1 ⟨rfl,rfl⟩;have Vc:=Z (zg c0 z0);by_cases hp:qJ.isPrefixOf l=true
 .rw[yV hp];have HP:=Z hp;have h3:3<=n:=by
   have:=(gL.1 hp).length_le;rw[I.o.1.len]at this;exact this
  obtain⟨k,hk⟩:=zr (n - 3);rw[hk];clear hp;by_cases h1:65535<n
  .have T:(65535:Int)<(n:Int):=(by omega);exact zgv
  .have T:¬(65535:Int)<(n:Int):=(by omega);by_cases h2:k<4
   .have U:(k:Int)<4:=(by omega);exact zgv
   .have U:¬(k:Int)<4:=(by omega);obtain⟨y,F,E,B,wW⟩:=I.o.1;have Ig:k<=c - 3:=J;have gM:¬c - 3=k - 4:=J;have h44:k - (k - 4)=4:=J;have OE:=y.fr HF.o (λ_ _=>id);have e4:(l.drop 3).drop (k - 4)=l.drop (n - 4):=(by rw[Xy];congr 1;omega);have hbT:jE W (some ((Bz b 3 c).add (k - 4))) (l.drop (n - 4)):=zj7;have uR:(l.drop (n - 4)).length=4:=Fb;have hfa:Fr yH yH W (W.alloc (.cells #[.slice (some ((Bz b 3 c).add (k - 4))) 4 (c - 3 - (k - 4)),.int .i64 0] 155)):=(Fr.refl _ _).alloc _;have d:EE (W.alloc (.cells #[.slice (some ((Bz b 3 c).add (k - 4))) 4 (c - 3 - (k - 4)),.int .i64 0] 155)) (W:Nat) b.block (l.drop (n - 4)):=zfd;have z:=OE.take (n - 4);have a:fF (l.drop (n - 4))≠Xl (l.take (n - 4)):=by
     have h:=I.o.2;unfold NC at h;rw[HP.o,F,decide_eq_false (by omega:¬65535<n),decide_eq_false (by omega:¬n<7)]at h;simpa using h
    have Ib:=Kz (l:=l.drop (n - 4)) J;have Ml:=JC (l.take (n - 4));obtain⟨W1,v⟩:=zr (W.alloc (.cells #[.slice (some ((Bz b 3 c).add (k - 4))) 4 (c - 3 - (k - 4)),.int .i64 0] 155));rw[v]at hfa d;have K:=Z (NI (w:=W1.drew) (n:=4) (show EE W1.drew (W:Nat) b.block (l.drop (n - 4)) from⟨d.ex,d.ne,d.fz⟩) J zR);rw[yr (TV uR)]at K;have L:=Z hfa;have s:=Z (zg z (show(l.take (n - 4)).length=n - 4 by rw[uK];omega));have hn4:n - 4<=2000000000:=J;have hlo:=UG b n (n - 4) c J E B;have TO:((n - 4:Nat):Int)=(n:Int) - 4:=J;rw[TO]at hlo;clear y F E B wW OE e4 hbT uR hfa d z HC;go_wp2_with fail;have hu:yey.wrap ((fF (l.drop (n - 4)):Nat):Int)=(fF (l.drop (n - 4)):Nat):=(by rw[oX];omega);obtain⟨N,u⟩:=zr (fF (l.drop (n - 4)));obtain⟨S,p⟩:=zr (Xl (l.take (n - 4)));rw[u]at K hu a;rw[p]at a;have P:=Z p;have V:((N:Nat):Int)≠((S:Nat):Int):=λq=>a J
    have um5:((N:Int)=(S:Int))=False:=eq_false V;clear a Ib Ml v u p hcv c0 z0 G;have EB:vH.wrap ((n:Int) - 4)=(n:Int) - 4:=Yy;have hwt:((n:Int) - 4).toNat=n - 4:=J;have hw0:(0:Int)<=(n:Int) - 4:=J;have hwc:(n:Int) - 4<=(c:Int):=(by have:=I.o.1.le;omega);refine j5 ?_;refine V1 (λ_=>True) [0,3,4,5,6,7] 4 trivial ?_;refine gX 1 (λQ t=>?_);go_simp;refine K.o.mono ?_;rintro e R ⟨rfl,-,D⟩;have g:Fr yH (λx=>x=(W:Nat)) W R:=L.o.tr D.und (λq hq=>by subst hq;exact .inr (Y _));have O:=Z (λ(c:Nat)=>NH (cap:=c) (s.o.1.fr g (λ_ _=>id)) s.o.2 hn4);rw[P.o]at O;have M:=Z (HF.o.trans g);have Xq:=g.cell Vc.o.1 id;have EV:=(g.frozen (X _ _ Vc.o.1) id).trans Vc.o.2;refine t.out _ _ trivial λ_=>?_
    clear t Q K D g;refine VO [2] 2 trivial ?_;refine gX 8 (λQ t=>?_);go_simp;refine(O.o _).mono ?_;rintro e W3 ⟨rfl,rfl⟩;refine t.out _ _ trivial λ_=>?_
    clear t Q O;refine VO [9] 0 trivial ?_;refine Y3 ?_ _;refine je ?_;have HE:=Z (show(R.setCell (zU (w:Nat) 0) (.pointer none)).cell? (zU (w:Nat) 0)=some (.pointer none)/\Fr yH (λx=>x=(W:Nat)) w (R.setCell (zU (w:Nat) 0) (.pointer none)) from⟨yw Xq _,M.o.set _ (.inr (Y _))⟩);exact zd5
 .rw[yz hp];have HE:=Z (show(W.setCell (zU (w:Nat) 0) (.pointer none)).cell? (zU (w:Nat) 0)=some (.pointer none)/\Fr yH yH w (W.setCell (zU (w:Nat) 0) (.pointer none)) from⟨yw Vc.o.1 _,HF.o.set _ (.inr (Y _))⟩);clear hp HC;exact zd5
def Hb.below{b:yM}{l:Wd}(h:Hb w b l n c)(hb:zP w w'):Hb w' b l n c :=
 ⟨h.at_.fr (Fr.of hb (F:=yH)) (λ_ _=>id),h.len,h.le,h.cap,zD h.lt hb.size⟩
def zn7{P:Nat}{Q:Value->z8->Prop}(h0:zu w P 0 (q,0))
  (hB:zC Tryz.prog 17 #[(q,0)] w λe w'=>∃v,e = .returned v/\Q v w') :
  zC Tryz.prog 8 #[(P,0)] w λe w'=>∃v,e = .returned v/\Q v w':=by
 have b:=Z hB;clear hB;go_enter func8,ntmps8;go_wp2_with fail;refine b.o.mono ?_;rintro e w' ⟨v,rfl,a⟩;have c:=Z a;clear a;go_wp2;go_ret;exact⟨v,rfl,c.o⟩
def SN:∀(k t t':List Nat),(YU k t).length=(YU k t').length
 |[],_,_=>rfl
 |a::k,t,t'=>by simp only[YU,zy,SN k t.tail t'.tail];rfl
def UL:∀(f:Wd) (v:Nat) (k t t':List Nat),(ua f v k t).length=(ua f v k t').length
 |[],_,_,_,_=>rfl
 |c::f,v,k,t,t'=>by
  unfold ua;split
  .rw[zy,zy,UL f v k.tail t t']
  .split
   .rw[zy,zy,UL f v k t t']
   .split
    .rw[zy,zy,UL f v k t.tail t'.tail];rfl
    .simp only[zy,SN k t t',UL f v [] (t.drop (k.length+1)) (t'.drop (k.length+1))]
def Lx(p j:Nat):∀(l:List uG) (i:Nat),(xQ (l.modify i λx=>{ x with tg:=x.tg.set j p })).length=(xQ l).length
 |[],_=>by simp[xQ]
 |x::l,0=>by simp only[List.modify_zero_cons,xQ,zh,zy,xF,zY,UL (uW x.op) x.v x.k (x.tg.set j p) x.tg]
 |x::l,i+1=>by
  have:=Lx p j l i;simp only[xQ]at this;simp only[List.modify_succ_cons,xQ,zh,zy,this]
def SP:qi λs=>(xQ s.code).length=s.pos:=by
 refine⟨λs op v k tg h=>?_,λs t h=>?_,λs i j h=>?_⟩
 .simp only[MkS.put,xQ,yn,zy]at h|-;rw[h];simp
 .obtain⟨-,z2,a⟩:=xM s t;rw[z2,a];exact h
 .show(xQ (s.code.modify i _)).length=s.pos;rw[Lx];exact h
def SR:∀(cs:List Wd) (N:Nat),(∀t∈cs,t.length<=N)->(qZ cs).length<=cs.length*(N+2)
 |[],_,_=>by simp[qZ]
 |c::cs,N,h=>by
  have h1:=SR cs N (λt a=>h t (by simp[a]));have h2:=h c zZ;simp only[qZ,zh,zy,zY]at h1|-;rw[show(vy c.length).length=2 from rfl,ki];omega
def nK(hc:f.YK)(hs:f.sh)(hw:f.cw<=90000):(jZ (MkS.all f)).length<=1000000000/\(xQ (MkS.all f).code).length<=1000000/\(MkS.all f).code≠[]/\7<=(jZ (MkS.all f)).length:=by
 have h1:=SP.all f rfl;have a:=NJ f;have h2:=SR (MkS.all f).cs 5000 (Gr hc hs).2;simp only[MkS.sz]at a;have b:(jZ (MkS.all f)).length=5+(qZ (MkS.all f).cs).length+2+(xQ (MkS.all f).code).length:=by simp only[jZ,zy];rfl
 refine⟨J,J,?_,J⟩;unfold MkS.all;rw[yp];simp
structure sA(P q mb:Nat)(f:Fo)(vC vI:Value)(rs:List (Value×Value))(w:z8):Prop where
 p0:zu w P 0 (q,0)
 prog:ug q (MkS.all f) vC vI rs mb w
 YK:f.YK
 sh:f.sh
 cw:f.cw<=90000
def sA.below{P:Nat}{rs:List (Value×Value)}(h:sA P q mb f vC vI rs w)(hb:zP w w'):sA P q mb f vC vI rs w' :=
 ⟨(hb.cell (X _ _ h.p0)).trans h.p0,h.prog.below hb,h.YK,h.sh,h.cw⟩
def Lv{P:Nat}{rs:List (Value×Value)}(h:sA P q mb f vC vI rs w)(hF:qj w) :
  zC Tryz.prog 8 #[(P,0)] w λe w'=>∃v,e = .returned v/\fP w' v (qG (MkS.all f))/\Fr yH (zH v) w w':=by
 obtain⟨a1,a2,a3,-⟩:=nK h.YK h.sh h.cw;exact zn7 (Q:=λv w'=>fP w' v (qG (MkS.all f))/\Fr yH (zH v) w w') h.p0 (sf h.prog (yq9 h.YK h.sh h.cw) hF a1 a2 a3)
variable{xs:List Value}{F:Nat->Prop}{l':Wd}
def nJ{r g:Nat}(pos:Nat){l:Wd}{w:z8}(c:EE w r g l)(Jm:g<(w:Nat)):dN (w:Nat) r g 0 pos 0 [] [] l (.slice none 0 0) (.slice none 0 0) w (w.alloc (.cells #[.int .i64 0,(pos:Nat),.int .i64 0,.slice none 0 0,.slice none 0 0] 87)):=by
 obtain⟨b,cap,c0,-⟩:=c.ex;have KT:r<(w:Nat):=X _ _ c0;have hf:Fr yH yH w (w.alloc (.cells #[.int .i64 0,pos,.int .i64 0,.slice none 0 0,.slice none 0 0] 87)):=(Fr.refl _ _).alloc _;exact⟨zf _ _ _ _ _,zf _ _ _ _ _,zf _ _ _ _ _,zf _ _ _ _ _,zf _ _ _ _ _,λj=>zZ,c.fr hf id id,xx _ _ _ _,xx _ _ _ _,bI _ _ _,(λq a=>by rcases a with a|a<;>cases a),Jm,KT,Y _,⟨zc _ _ _ KT,yc (hf.keep r KT id)⟩,(λq a=>by cases a),(hf.wide (G:=(· = r)) (λ_ q=>q.elim)).tg (λq a=>by
  rcases a with e|e|e|e
  .exact .inl e
  .exact .inr (by rw[e];exact Y _)
  .cases e
  .cases e)⟩
section
variable {A r g op pos v:Nat} {k t:List Nat} {l:Wd} {kv tv:Value} {w0 w w':z8}
def dN.yxb(h:dN A r g op pos v k t l kv tv w0 w)(y:j=0\/j=1\/j=2){op' pos' v':Nat}(h0:j≠0->op'=op)(h1:j≠1->pos'=pos)(h2:j≠2->v'=v)(p:u = .int .i64 ((if j=0 then op' else if j=1 then pos' else v':Nat):Int)) :
  dN A r g op' pos' v' k t l kv tv w0 (w.setCell (A,j) u):=by
 have hA:A≠r:=Lm;have gA:g≠A:=WM;have f2:Fr (λq=>q=A) (λq=>q=A) w (w.setCell (zU A j) u):=(Fr.refl _ _).set _ (.inl rfl);have c:∀i x,i≠j->zu w A i x->zu (w.setCell (zU A j) u) A i x:=λi x hi hc=>by rw[zo,yz (λe=>hi (congrArg Addr.off e).symm)];exact hc
 have s:∀i,(w.setCell (zU A j) u).frozen? ⟨A,i,none⟩=false:=λi=>by rw[zO];exact h.z i
 have d:Fr (· = r) (λq=>q=r\/q=A\/zH kv q\/zH tv q) w0 (w.setCell (zU A j) u):=h.fr.set (a:=(zU A j)) u (.inr h.WY);have o:jh (w.setCell (zU A j) u) A=some 87:=by rw[qQ];exact h.tA
 have f:=h.rd.fr f2 (λq=>hA q.symm) gA;have n:=f2.own h.kr (λq a b=>(h.NL a).1 b);have m:=f2.own h.tr (λq a b=>(h.CX a).1 b);rcases y with rfl|rfl|rfl
 .obtain rfl:=h1 zR;obtain rfl:=h2 zR;exact⟨by rw[p];exact yw h.a0 _,c 1 _ zR h.a1,c 2 _ zR h.a2,c 3 _ zR h.a3,c 4 _ (by decide) h.a4,s,f,n,m,o,h.lo,h.Jm,h.KT,h.WY,⟨(X3 _ hA).trans h.r1.1,(qQ _ _ _ _).trans h.r1.2⟩,h.cE,d⟩
 .obtain rfl:=h0 zR;obtain rfl:=h2 zR;exact⟨c 0 _ zR h.a0,by rw[p];exact yw h.a1 _,c 2 _ zR h.a2,c 3 _ zR h.a3,c 4 _ (by decide) h.a4,s,f,n,m,o,h.lo,h.Jm,h.KT,h.WY,⟨(X3 _ hA).trans h.r1.1,(qQ _ _ _ _).trans h.r1.2⟩,h.cE,d⟩
 .obtain rfl:=h0 zR;obtain rfl:=h1 zR;exact⟨c 0 _ zR h.a0,c 1 _ zR h.a1,by rw[p];exact yw h.a2 _,c 3 _ zR h.a3,c 4 _ (by decide) h.a4,s,f,n,m,o,h.lo,h.Jm,h.KT,h.WY,⟨(X3 _ hA).trans h.r1.1,(qQ _ _ _ _).trans h.r1.2⟩,h.cE,d⟩
def dN.drew(h:dN A r g op pos v k t l kv tv w0 w):dN A r g op pos v k t l kv tv w0 w.drew :=
 ⟨h.a0,h.a1,h.a2,h.a3,h.a4,h.z,⟨h.rd.ex,h.rd.ne,h.rd.fz⟩,h.kr,h.tr,h.tA,h.lo,h.Jm,h.KT,h.WY,h.r1,h.cE,h.fr.drew⟩
end
def KR{r g full:Nat}{l:Wd}{w w':z8}{a:List Eg}(he:YA full l=none)(b:a.dropWhile (!·.goexit)=[])(hf:Fr (· = r) F' w w') :
  mO r g full l w (.panicked ({ v := .iface 149 (.agg #[]),recovered:=false }::a)) w':=by
 unfold mO;rw[he];exact⟨⟨a,rfl,b⟩,hf.tg (λq c=>c)⟩
def Zr{w:z8}{v:Value}{s:ByteArray}(h:w.ownsRow 0 3 1 v n xs)(hi:w.heap[I]? = some (.stringIter s j)):¬zH v I:=λq=>by
 rcases h.2 with⟨e,-⟩|⟨g',cap,b,e,-,a,-⟩
 .rw[e]at q;cases q
 .rw[e]at q;cases q;rw[hi]at a;cases a
def bU{w:z8}{b:yM}{s:ByteArray}(h:w.cell? b=some u)(hi:w.heap[I]? = some (.stringIter s j)):b.block≠I:=λe=>by
 unfold Fu at h;rw[e,hi]at h;cases h
def dN.iter{A r g op pos v:Nat}{k t:List Nat}{l:Wd}{kv tv:Value}{w0 w:z8}(h:dN A r g op pos v k t l kv tv w0 w){s:ByteArray}(hi:w.heap[I]? = some (.stringIter s j))(f:(w0:Nat)<=I)(m:Nat) :
  dN A r g op pos v k t l kv tv w0 (w.iterAt I s m)/\(w.iterAt I s m).heap[I]? = some (.stringIter s m):=by
 have f2:Fr (λq=>q=I) (λq=>q=I) w (w.iterAt I s m):=⟨rfl,rfl,rfl,TV (vq1 _ _ _ _).symm,λk _ hn=>xrf _ _ _ _ _ hn,λ_ q => .inl q⟩;have c:A≠I:=bU h.a0 hi;have lA:A<(w:Nat):=X _ _ h.a0;have nr:r≠I:=by have:=h.KT;omega
 have i:g≠I:=by have:=h.Jm;omega
 refine⟨⟨f2.cell h.a0 c,f2.cell h.a1 c,f2.cell h.a2 c,f2.cell h.a3 c,f2.cell h.a4 c,λj=>(f2.frozen (a:=⟨A,j,none⟩) lA c).trans (h.z j),h.rd.fr f2 nr i,f2.own h.kr (λq a b=>Zr h.kr hi (b▸a)),f2.own h.tr (λq a b=>Zr h.tr hi (b▸a)),(yc (f2.keep A lA c)).trans h.tA,h.lo,h.Jm,h.KT,h.WY,⟨(yE (f2.keep r (zD h.KT h.fr.size) nr)).trans h.r1.1,(yc (f2.keep r (zD h.KT h.fr.size) nr)).trans h.r1.2⟩,h.cE,?_⟩,vq0 _ _ _ _ _ hi⟩;refine(h.fr.tr f2 (λq d => .inr (by rw[d];exact f))).tg (λq d=>?_);rcases d with e|e|e
 .exact .inl e
 .exact Ll
 .exact .inr (h.lo q e)
def dN.same{A r g op pos v:Nat}{k t:List Nat}{l:Wd}{kv tv:Value}{w0 w w':z8}(h:dN A r g op pos v k t l kv tv w0 w)(f:Fr yH yH w w'):dN A r g op pos v k t l kv tv w0 w':=by
 have lA:A<(w:Nat):=X _ _ h.a0;exact⟨f.cell h.a0 id,f.cell h.a1 id,f.cell h.a2 id,f.cell h.a3 id,f.cell h.a4 id,λj=>(f.frozen (a:=⟨A,j,none⟩) lA id).trans (h.z j),h.rd.fr f id id,f.own h.kr (λ_ _=>id),f.own h.tr (λ_ _=>id),(yc (f.keep A lA id)).trans h.tA,h.lo,h.Jm,h.KT,h.WY,⟨(yE (f.keep r (zD h.KT h.fr.size) id)).trans h.r1.1,(yc (f.keep r (zD h.KT h.fr.size) id)).trans h.r1.2⟩,h.cE,(h.fr.tr f (λ_ q=>q.elim)).tg (λq hq=>zg2)⟩
def jo{w:z8}{v:Value}(h:w.ownsRow 0 3 1 v n xs):∃p a b,v = .slice p a b:=by
 rcases h.2 with⟨e,-⟩|⟨g',cap,c,e,-⟩
 .exact⟨_,_,_,e⟩
 .exact⟨_,_,_,e⟩
def uz{w w':z8}{s:ByteArray}(hf:Fr F F' w w')(hn:¬F I)(hi:w.heap[I]? = some (.stringIter s j)):w'.heap[I]? = some (.stringIter s j) :=
 (hf.keep I (by rcases uM I (w:Nat)with h|h;exact h;rw[Zu h]at hi;cases hi) hn).trans hi
def Gw{w:z8}{a:yM}(h:w.cell? a=some u):w.setCell a u=w:=by
 unfold xg;have d:(w.heap.modify a.block fun
   |.cells c b frozen => .cells (if a.spot.isSome then c else c.setIfInBounds a.off u) b frozen
   |o=>o)=w.heap:=by
  refine wV λi=>?_
  rw[vp];by_cases e:a.block=i
  .rw[yV e];subst e;unfold Fu at h;cases hb:w.heap[a.block]? with
   |none=>rw[hb]at h;cases h
   |some o =>
    rw[hb]at h;cases o with
    |cells c b fz =>
     by_cases hs:a.spot.isSome
     .simp[hs]at h
     .simp only[hs]at h;simp only[QM,hs];have hc:c.setIfInBounds a.off u=c:=by
       refine wV λk=>?_
       rw[Ef];by_cases e:a.off=k
       .subst e;have h2:c[a.off]? = some u:=(by simpa using h);rw[yV rfl,h2];rcases uM a.off c.size with q|q
        .rw[yV q]
        .rw[Zu q]at h2;cases h2
       .rw[yz e]
      simp[hc]
    |_=>cases h
  .rw[yz e]
 exact congrArg (λh=>({ w with heap:=h }:z8)) d
def bR{x:Nat}{l:Wd}(h:uY n l=some (x,l')):l'.length+n=l.length:=by
 unfold uY at h;split at h
 .cases h;exact Fb
 .cases h
def eB(op:Nat):∀c∈uW op,c=107\/c=110\/c=118\/c=116\/c=42:=by
 unfold uW;split<;>decide
def yjx{r g full:Nat}{l:Wd}{w:z8}(hrd:EE w r g l)(h1:zu w r 1 (full:Nat))(hl:l.length<=full)(hfl:full<=1000000)(hF:qj w)(Jm:g<(w:Nat)) :
  zC Tryz.prog 59 #[(r,0)] w (mO r g full l w):=by
 have hB0:=nJ 0 hrd Jm;have hB:=λpos=>nJ pos hrd Jm
 obtain⟨b,cap,c0,hlc,-⟩:=hrd.ex;have c0a:=λo=>yy c0 o
 have c1a:=λo=>yy h1 o
 have qE:=hB0.a1;have iT:=Z c0;obtain⟨m,hm⟩:=zr l.length;rw[hm]at c0 c0a hl;have EB:vH.wrap ((full:Int) - (m:Int))=((full - m:Nat):Int):=Yy;have HB:=Z hB;have HM:=Z hm;have HFO:=Z hF;clear hB hB0 hrd hm hF hlc;go_enter func59,ntmps59;go_wp2_with fail;refine DN (λW':z8=>zu W' r 1 full/\zu W' r 0 (.slice (some b) m cap)) 11 [0,1,2,3,4,5,6,7,8,9,10] 1 ⟨c1a _,c0a _⟩ ?_;refine FT 11 (λB hJ=>?_);go_simp;refine hJ.out _ _ ?_;clear hJ B;refine FW ?_ _;have Dj:=(HB.o (full - m)).drew;have K:=Z (fW Dj.rd 1 zR);have U:=Z Dj;obtain⟨A,hA⟩:=zr (w:Nat);rw[hA]at U|-;clear Dj c0a c1a qE c0 h1 EB hA HB;go_wp2_with fail;refine K.o.mono ?_;rintro e w2 ⟨hq,ZE⟩;have HIP:=Z (show YA full l=match uY 1 l with|none=>none|some (op,l1)=>if 12<=op then none else cD op (full - l.length) (D5 (uW op) 0 [] [] l1)from rfl);cases uD:uY 1 l with
 |none =>
  rw[uD]at hq;obtain⟨ZI,rfl,ho⟩:=hq;have HO:=Z ho;have HE:=Z (show YA full l=none by rw[HIP.o,uD]);have ER:=Z (U.o.fr.tr ZE.toFr (λq hq => .inl hq));clear uD ZE K ho;go_wp2;refine⟨rfl,?_⟩;exact KR HE.o HO.o ER.o
 |some p =>
  obtain⟨op,l1⟩:=p;rw[uD]at hq;obtain⟨rfl,S⟩:=hq;have Pb:=Z (show l1.length<=1000000 by have:=bR uD;have:=HM.o;omega);have hS:=(U.o.read S ZE).yxb (j:=0) (u := .int .i64 op) (op':=op) (pos':=full - m) (v':=0) (.inl rfl) (λq=>absurd rfl q) (λ_=>rfl) (λ_=>rfl) rfl;have EV:=(U.o.read S ZE).z 0;have ha2:=(U.o.read S ZE).a0;have HIQ:=Z (show YA full l=if 12<=op then none else cD op (full - l.length) (D5 (uW op) 0 [] [] l1)by rw[HIP.o,uD]);have ha0:=hS.a0;have HS:=Z hS;clear S ZE K U uD HIP hS;by_cases h12:12<=op
  .have vl6:(12:Int)<=(op:Int):=(by omega);have HE:=Z (show YA full l=none by rw[HIQ.o,yV h12]);go_wp2;refine⟨rfl,?_⟩;exact KR HE.o rfl HS.o.fr
  .have vl6:¬(12:Int)<=(op:Int):=(by omega);have gM:2≠r:=λe=>by
    have h1:=HFO.o 0 zR;rw[e]at h1;have h2:=iT.o;rw[h1]at h2;cases h2
   have hfc:=HS.o.fr.cell (HFO.o op J) gM;obtain⟨F,V⟩:=zr (uW op);rw[V]at hfc;have HFM:=Z (zg V (zg (show ∀c∈F,c.toNat<128 from V▸BS op) (show ∀c∈F,c=107\/c=110\/c=118\/c=116\/c=42 from V▸eB op)));obtain⟨R,hR⟩:=zr (D5 F 0 [] [] l1);have HIR:=Z (show YA full l=cD op (full - m) R by rw[HIQ.o,yz h12,V,hR,HM.o]);have HR:=Z hR;clear V hR HIQ gM;go_wp2_with fail;have bh:(w2.setCell (zU A 0) op).heap.size=(w2:Nat):=ZH;rw[<-bh];generalize w2.setCell (zU A 0) op=w3 at ha0 HS hfc bh|-;obtain⟨I,hI⟩:=zr (w3:Nat);rw[hI];have hIw:(w:Nat)<=I:=(by rw[<-hI];exact HS.o.fr.size);have HI:=Z hI;clear hI ha0 ha2 EV hfc bh;go_loopw [4] (λ_ wr=>∃j v k t N kv tv,j<=F.length/\dN A r g op (full - m) v k t N kv tv w wr/\wr.heap[I]? = some (.stringIter ⟨F.toArray⟩ j)/\D5 (F.drop j) v k t N=R/\k.length+t.length+N.length<=1000000) (λ_ wr=>F.length - wr.iterPos I)
   case atStart=>exact⟨0,0,[],[],l1,_,_,zQ _,HS.o.same ((Fr.refl _ _).alloc _),by rw[<-HI.o];exact ye9 w3 _ 0,HR.o,by have:=Pb.o;simpa using this⟩
   case round =>
    obtain⟨j,v,k,t,N,kv,tv,hj,hS,hit,E,Z4⟩:=hrel;by_cases uo:j<F.length
    .obtain⟨c,hc⟩:=zr (F[j]);have hd:F.drop j=c::F.drop (j+1):=(by rw[<-hc];exact yY uo);have hn:=Lib.run_next_ascii_at (P:=Tryz.prog) wr I ⟨F.toArray⟩ j 0 hit zxx (by
      show(F[j]).toNat<128;exact HFM.o.2.1 _ (yf _))
     rw[show(vO F.toArray)[j]' zxx=c from hc]at hn;obtain⟨W,xyu⟩:=hS.iter hit hIw (j+1);have HJ0:=Z (show wr.iterPos I=j from jc hit);have IQ:(c=107\/c=110)\/c=118\/c=116\/c=42:=or_assoc.mpr (HFM.o.2.2 c (hc▸yf _));obtain⟨W5,hW5⟩:=zr (wr.iterAt I ⟨F.toArray⟩ (j+1));rw[hW5]at hn W xyu;rw[hd]at E;have dn:=Z (zg W xyu);clear hW5 hd hc hS hit W xyu;rcases IQ with Xq|rfl|rfl|rfl
     .have HQ:=Z (show(match uY 2 N with|none=>none|some (x,G)=>D5 (F.drop (j+1)) v (k++[x]) t G)=R by rw[<-E];rcases Xq with rfl|rfl<;>rfl);clear E;rcases Xq with rfl|rfl;all_goals
       have a3:=dn.o.1.a3;have K:=Z (fW dn.o.1.drew.rd 2 zR);go_wp2_with fail;refine DN (λW':z8=>zu W' A 3 kv) 7 [0,1,2] 5 a3 ?_;refine dJ 3 (λB hJ=>?_);go_simp;refine K.o.mono ?_;rintro e W6 ⟨hq,gW⟩;cases uD:uY 2 N with
       |none =>
        exact ydf
       |some p =>
        obtain⟨x,G⟩:=p;rw[uD]at hq;obtain⟨rfl,h⟩:=hq;have d:=dn.o.1.drew.read h gW;have f:=uz gW.toFr (show ¬I=r from λe=>Lt) (show W5.drew.heap[I]? = _ from dn.o.2);have H:=Z (show D5 (F.drop (j+1)) v (k++[x]) t G=R by rw[<-HQ.o,uD]);refine hJ.out _ _ d.a3 λ_=>?_
        clear hJ B;refine dJ 4 (λB hJ=>?_);go_simp;refine hJ.out _ _ (yy d.a3 _) λ_=>?_
        clear hJ B;refine dJ 5 (λB hJ=>?_);rw[yV xV];change kd _ _ _ (W6.alloc (.cells [_].toArray _)) _ _
        refine jf qt [_] 1 d.kr J ?_;intro v2 W7 D n;have a3':=n.cell d.a3 (λq=>(d.NL q).1 rfl);have z3:W7.frozen? (A,3)=false:=(n.frozen (a:=(A,3)) (X _ _ d.a3) (λq=>(d.NL q).1 rfl)).trans (d.z 3);obtain⟨v2a,v2b,v2c,rfl⟩:=jo D;have s:(W7.setCell (A,3) (.slice v2a v2b v2c)).heap[I]? = some (.stringIter ⟨F.toArray⟩ (j+1)) :=
         uz ((Fr.refl (λq=>q=A) W7).set (F':=λq=>q=A) _ (.inl rfl)) (λe=>bU d.a3 f e.symm) (uz n (Zr d.kr f) f)
        have OH:=Z (zg (d.push n D) (zg s (bR uD)));clear D n s;refine hJ.out _ _ a3' λ_=>?_
        clear hJ B;refine dJ 6 (λB hJ=>?_);go_simp;refine hJ.out _ _ a3' λ_=>?_
        clear hJ B;refine FT 7 (λB hJ=>?_);go_simp;refine hJ.out _ _ ?_;clear hJ B;refine FW ?_ _;clear h d uD gW f a3 a3' z3;go_wp2;go_roundw
        case rel=>exact⟨j+1,v,_,t,G,_,_,J,OH.o.1,OH.o.2.1,H.o,zjx⟩
        case measure=>rw[jc OH.o.2.1,HJ0.o];omega
     .have a2:=dn.o.1.a2;have K:=Z (fW dn.o.1.rd 4 zR);have HQ:=Z (show(match uY 4 N with|none=>none|some (x,G)=>D5 (F.drop (j+1)) x k t G)=R by rw[<-E];rfl);clear E;go_wp2_with fail;refine K.o.mono ?_;rintro e W6 ⟨hq,gW⟩;cases uD:uY 4 N with
      |none =>
       exact ydd
      |some p =>
       obtain⟨x,G⟩:=p;rw[uD]at hq;obtain⟨rfl,h⟩:=hq;have d:=dn.o.1.read h gW;have f:=uz gW.toFr (show ¬I=r from λe=>Lt) dn.o.2;have H:=Z (show D5 (F.drop (j+1)) x k t G=R by rw[<-HQ.o,uD]);have s:(W6.setCell (zU A 2) x).heap[I]? = some (.stringIter ⟨F.toArray⟩ (j+1)) :=
        uz ((Fr.refl (λq=>q=A) W6).set (F':=λq=>q=A) _ (.inl rfl)) (λe=>bU d.a3 f e.symm) f
       have OH:=Z (zg (d.yxb (j:=2) (u := .int .i64 x) (op':=op) (pos':=full - m) (v':=x) (.inr (.inr rfl)) (λ_=>rfl) (λ_=>rfl) (λq=>absurd rfl q) rfl) (zg s (bR uD)));have a2:=d.a2;have z2:=d.z 2;clear h d uD gW f s;go_wp2;go_roundw
       case rel=>exact⟨j+1,x,k,t,G,_,_,J,OH.o.1,OH.o.2.1,H.o,by have:=OH.o.2.2;omega⟩
       case measure=>rw[jc OH.o.2.1,HJ0.o];omega
     .have a4:=dn.o.1.a4;have K:=Z (fW dn.o.1.drew.rd 2 zR);have HQ:=Z (show(match uY 2 N with|none=>none|some (x,G)=>D5 (F.drop (j+1)) v k (t++[x]) G)=R by rw[<-E];rfl);clear E;go_wp2_with fail;refine DN (λW':z8=>zu W' A 4 tv) 7 [0,1,2] 5 a4 ?_;refine dJ 3 (λB hJ=>?_);go_simp;refine K.o.mono ?_;rintro e W6 ⟨hq,gW⟩;cases uD:uY 2 N with
      |none =>
       exact ydf
      |some p =>
       obtain⟨x,G⟩:=p;rw[uD]at hq;obtain⟨rfl,h⟩:=hq;have d:=dn.o.1.drew.read h gW;have f:=uz gW.toFr (show ¬I=r from λe=>Lt) (show W5.drew.heap[I]? = _ from dn.o.2);have H:=Z (show D5 (F.drop (j+1)) v k (t++[x]) G=R by rw[<-HQ.o,uD]);refine hJ.out _ _ d.a4 λ_=>?_
       clear hJ B;refine dJ 4 (λB hJ=>?_);go_simp;refine hJ.out _ _ (yy d.a4 _) λ_=>?_
       clear hJ B;refine dJ 5 (λB hJ=>?_);rw[yV xV];change kd _ _ _ (W6.alloc (.cells [_].toArray _)) _ _
       refine jf qt [_] 1 d.tr J ?_;intro v2 W7 D n;have a4':=n.cell d.a4 (λq=>(d.CX q).1 rfl);have z3:W7.frozen? (A,4)=false:=(n.frozen (a:=(A,4)) (X _ _ d.a4) (λq=>(d.CX q).1 rfl)).trans (d.z 4);obtain⟨v2a,v2b,v2c,rfl⟩:=jo D;have s:(W7.setCell (A,4) (.slice v2a v2b v2c)).heap[I]? = some (.stringIter ⟨F.toArray⟩ (j+1)) :=
        uz ((Fr.refl (λq=>q=A) W7).set (F':=λq=>q=A) _ (.inl rfl)) (λe=>bU d.a3 f e.symm) (uz n (Zr d.tr f) f)
       have OH:=Z (zg (d.zl5 n D) (zg s (bR uD)));clear D n s;refine hJ.out _ _ a4' λ_=>?_
       clear hJ B;refine dJ 6 (λB hJ=>?_);go_simp;refine hJ.out _ _ a4' λ_=>?_
       clear hJ B;refine FT 7 (λB hJ=>?_);go_simp;refine hJ.out _ _ ?_;clear hJ B;refine FW ?_ _;clear h d uD gW f a4 a4' z3;go_wp2;go_roundw
       case rel=>exact⟨j+1,v,k,_,G,_,_,J,OH.o.1,OH.o.2.1,H.o,zjx⟩
       case measure=>rw[jc OH.o.2.1,HJ0.o];omega
     .have K:=Z (fW dn.o.1.rd 2 zR);have HQ:=Z (show(match uY 2 N with|none=>none|some (m,l1)=>match TM m k t l1 with|none=>none|some ((k1,t1),N)=>match uY 2 N with|none=>none|some (y,G)=>D5 (F.drop (j+1)) v k1 (t1++[y]) G)=R by rw[<-E];rfl);clear E;go_wp2_with fail;refine K.o.mono ?_;rintro e W6 ⟨hq,gW⟩;cases uD:uY 2 N with
      |none =>
       exact ydd
      |some p =>
       obtain⟨M,G⟩:=p;rw[uD]at hq;obtain⟨rfl,h⟩:=hq;have d:=dn.o.1.read h gW;have f:=uz gW.toFr (show ¬I=r from λe=>Lt) dn.o.2;have H:=Z (show(match TM M k t G with|none=>none|some ((k1,t1),N)=>match uY 2 N with|none=>none|some (y,G)=>D5 (F.drop (j+1)) v k1 (t1++[y]) G)=R by rw[<-HQ.o,uD]);have xnx:k.length+t.length+G.length<=1000000:=(by have:=bR uD;omega);have HS6:=Z (zg d f);clear h d uD gW f Z4 dn HQ K;obtain⟨T,hT⟩:=zr (TM M k t G);rw[hT]at H;have HT:=Z hT;clear hT;go_wp2_with fail;go_loopw [54] (λiv wr=>∃i k1 t1 l4 kv1 tv1,i<=M/\iv = .int .i64 (i:Nat)/\i<=k1.length/\k1.length+t1.length+l4.length<=1000000/\dN A r g op (full - m) v k1 t1 l4 kv1 tv1 w wr/\wr.heap[I]? = some (.stringIter ⟨F.toArray⟩ (j+1))/\TM (M - i) k1 t1 l4=T) (λiv _=>M - (intOf iv).toNat)
       case atStart=>exact⟨0,k,t,G,_,_,zQ _,rfl,zQ _,xnx,HS6.o.1,HS6.o.2,HT.o⟩
       case round =>
        obtain⟨i,k1,t1,l4,kv1,tv1,hi,rfl,hik,hl4,hSi,xnv,hTi⟩:=hrel;clear hj HS6 HT xnx;have iA:=Z (zg hSi xnv);clear hSi xnv;obtain⟨w8,e8⟩:∃w8,w8=wr:=⟨_,rfl⟩;subst e8;by_cases vlx:i<M
        .have hM1:M - i=(M - (i+1))+1:=(by omega);rw[hM1]at hTi;have O:=Z (show(match uY 2 l4 with|none=>none|some (x,l5)=>match uY 2 l5 with|none=>none|some (y,l6)=>TM (M - (i+1)) (k1++[x]) (t1++[y]) l6)=T from hTi);clear hTi hM1;have k9:(i:Int)<(M:Int):=J;have f3:=iA.o.1.a3;have K:=Z (fW iA.o.1.drew.rd 2 zR);go_wp2_with fail;refine DN (λW':z8=>zu W' A 3 kv1) 7 [0,1,2] 5 f3 ?_;refine dJ 3 (λB hJ=>?_);go_simp;refine K.o.mono ?_;rintro e W9 ⟨hq,gW⟩;cases uD:uY 2 l4 with
         |none =>
          rw[uD]at hq;obtain⟨ZI,rfl,ho⟩:=hq;have HE:=Z (show YA full l=none by rw[HIR.o,<-H.o,<-O.o,uD];rfl);exact zj9
         |some p =>
          obtain⟨x,l5⟩:=p;rw[uD]at hq;obtain⟨rfl,h⟩:=hq;have d:=iA.o.1.drew.read h gW;have f:=uz gW.toFr (show ¬I=r from λe=>by have:=iA.o.1.KT;omega) (show w8.drew.heap[I]? = _ from iA.o.2);have HTj:=Z (show(match uY 2 l5 with|none=>none|some (y,l6)=>TM (M - (i+1)) (k1++[x]) (t1++[y]) l6)=T by rw[<-O.o,uD]);have hl5:=bR uD;refine hJ.out _ _ d.a3 λ_=>?_
          clear hJ B;refine dJ 4 (λB hJ=>?_);go_simp;refine hJ.out _ _ (yy d.a3 _) λ_=>?_
          clear hJ B;refine dJ 5 (λB hJ=>?_);rw[yV xV];change kd _ _ _ (W9.alloc (.cells [_].toArray _)) _ _
          refine jf qt [_] 1 d.kr J ?_;intro v2 L D n;have z3:L.frozen? (A,3)=false:=(n.frozen (a:=(A,3)) (X _ _ d.a3) (λq=>(d.NL q).1 rfl)).trans (d.z 3);have f3':=n.cell d.a3 (λq=>(d.NL q).1 rfl);obtain⟨f3a,f3b,f3c,rfl⟩:=jo D;have s:(L.setCell (A,3) (.slice f3a f3b f3c)).heap[I]? = some (.stringIter ⟨F.toArray⟩ (j+1)) :=
           uz ((Fr.refl (λq=>q=A) L).set (F':=λq=>q=A) _ (.inl rfl)) (λe=>bU d.a3 f e.symm) (uz n (Zr d.kr f) f)
          have C:=Z (zg (d.push n D) s);clear D n s;refine hJ.out _ _ f3' λ_=>?_
          clear hJ B;refine dJ 6 (λB hJ=>?_);go_simp;refine hJ.out _ _ f3' λ_=>?_
          clear hJ B;refine FT 7 (λB hJ=>?_);go_simp;refine hJ.out _ _ ?_;clear hJ B;refine FW ?_ _;clear h d gW f f3 f3' z3 K iA;have ek1:(k1++[x]).length=k1.length+1:=zZ;clear uD O;obtain⟨w11,e11⟩:∃w11,w11=L.setCell (zU A 3) (.slice f3a f3b f3c):=⟨_,rfl⟩;rw[<-e11]at C|-;clear e11;have f4:=C.o.1.a4;have K:=Z (fW C.o.1.drew.rd 2 zR);go_wp2_with fail;refine DN (λW':z8=>zu W' A 4 tv1) 7 [0,1,2] 5 f4 ?_;refine dJ 3 (λB hJ=>?_);go_simp;refine K.o.mono ?_;rintro e W12 ⟨hq,gW⟩;cases uD:uY 2 l5 with
          |none =>
           rw[uD]at hq;obtain⟨ZI,rfl,ho⟩:=hq;have HE:=Z (show YA full l=none by rw[HIR.o,<-H.o,<-HTj.o,uD];rfl);have HO:=Z ho;have ER:=Z ((C.o.1.drew.fr.tr gW.toFr (λq hq => .inl hq)));clear hJ uD gW ho C;exact yb7
          |some p =>
           obtain⟨y,l6⟩:=p;rw[uD]at hq;obtain⟨rfl,h⟩:=hq;have d:=C.o.1.drew.read h gW;have f:=uz gW.toFr (show ¬I=r from λe=>by have:=C.o.1.KT;omega) (show w11.drew.heap[I]? = _ from C.o.2);have HTk:=Z (show TM (M - (i+1)) (k1++[x]) (t1++[y]) l6=T by rw[<-HTj.o,uD]);have hl6:=bR uD;refine hJ.out _ _ d.a4 λ_=>?_
           clear hJ B;refine dJ 4 (λB hJ=>?_);go_simp;refine hJ.out _ _ (yy d.a4 _) λ_=>?_
           clear hJ B;refine dJ 5 (λB hJ=>?_);rw[yV xV];change kd _ _ _ (W12.alloc (.cells [_].toArray _)) _ _
           refine jf qt [_] 1 d.tr J ?_;intro v2 W13 D n;have z3:W13.frozen? (A,4)=false:=(n.frozen (a:=(A,4)) (X _ _ d.a4) (λq=>(d.CX q).1 rfl)).trans (d.z 4);have Q:=n.cell d.a4 (λq=>(d.CX q).1 rfl);obtain⟨f4a,f4b,f4c,rfl⟩:=jo D;have s:(W13.setCell (A,4) (.slice f4a f4b f4c)).heap[I]? = some (.stringIter ⟨F.toArray⟩ (j+1)) :=
            uz ((Fr.refl (λq=>q=A) W13).set (F':=λq=>q=A) _ (.inl rfl)) (λe=>bU d.a3 f e.symm) (uz n (Zr d.tr f) f)
           have ycq:=Z (zg (d.zl5 n D) s);clear D n s;refine hJ.out _ _ Q λ_=>?_
           clear hJ B;refine dJ 6 (λB hJ=>?_);go_simp;refine hJ.out _ _ Q λ_=>?_
           clear hJ B;refine FT 7 (λB hJ=>?_);go_simp;refine hJ.out _ _ ?_;clear hJ B;refine FW ?_ _;clear h d gW f f4 Q z3 K C;clear uD HTj;go_wp2;go_roundw
           case rel=>exact⟨i+1,_,_,l6,_,_,J,uN,J,zfz,ycq.o.1,ycq.o.2,HTk.o⟩
           case measure=>simp only[intOf];omega
        .have hiM:i=M:=(by omega);have k9:¬(i:Int)<(M:Int):=J;have O:=Z (show some ((k1,t1),l4)=T by rw[<-hTi,show M - i=0 by omega];rfl);clear hTi vlx;have f4:=iA.o.1.a4;have K:=Z (fW iA.o.1.drew.rd 2 zR);go_wp2_with fail;refine DN (λW':z8=>zu W' A 4 tv1) 7 [0,1,2] 5 f4 ?_;refine dJ 3 (λB hJ=>?_);go_simp;refine K.o.mono ?_;rintro e W9 ⟨hq,gW⟩;cases uD:uY 2 l4 with
         |none =>
          rw[uD]at hq;obtain⟨ZI,rfl,ho⟩:=hq;have HE:=Z (show YA full l=none by rw[HIR.o,<-H.o,<-O.o];show cD _ _ (match uY 2 l4 with|none=>none|some (y,G)=>_)=_;rw[uD];rfl);exact zj9
         |some p =>
          obtain⟨y,l5⟩:=p;rw[uD]at hq;obtain⟨rfl,h⟩:=hq;have d:=iA.o.1.drew.read h gW;have f:=uz gW.toFr (show ¬I=r from λe=>by have:=iA.o.1.KT;omega) (show w8.drew.heap[I]? = _ from iA.o.2);have HQ3:=Z (show D5 (F.drop (j+1)) v k1 (t1++[y]) l5=R by rw[<-H.o,<-O.o];show _=(match uY 2 l4 with|none=>none|some (y,G)=>_);rw[uD]);have hl5:=bR uD;refine hJ.out _ _ d.a4 λ_=>?_
          clear hJ B;refine dJ 4 (λB hJ=>?_);go_simp;refine hJ.out _ _ (yy d.a4 _) λ_=>?_
          clear hJ B;refine dJ 5 (λB hJ=>?_);rw[yV xV];change kd _ _ _ (W9.alloc (.cells [_].toArray _)) _ _
          refine jf qt [_] 1 d.tr J ?_;intro v2 L D n;have z3:L.frozen? (A,4)=false:=(n.frozen (a:=(A,4)) (X _ _ d.a4) (λq=>(d.CX q).1 rfl)).trans (d.z 4);have Q:=n.cell d.a4 (λq=>(d.CX q).1 rfl);obtain⟨f4a,f4b,f4c,rfl⟩:=jo D;have s:(L.setCell (A,4) (.slice f4a f4b f4c)).heap[I]? = some (.stringIter ⟨F.toArray⟩ (j+1)) :=
           uz ((Fr.refl (λq=>q=A) L).set (F':=λq=>q=A) _ (.inl rfl)) (λe=>bU d.a3 f e.symm) (uz n (Zr d.tr f) f)
          have C:=Z (zg (d.zl5 n D) s);clear D n s;refine hJ.out _ _ Q λ_=>?_
          clear hJ B;refine dJ 6 (λB hJ=>?_);go_simp;refine hJ.out _ _ Q λ_=>?_
          clear hJ B;refine FT 7 (λB hJ=>?_);go_simp;refine hJ.out _ _ ?_;clear hJ B;refine FW ?_ _;clear h d gW f f4 Q z3 K iA;clear uD O;go_wp2;go_roundw
          case rel=>exact⟨j+1,v,_,_,l5,_,_,J,C.o.1,C.o.2,HQ3.o,zfz⟩
          case measure=>rw[jc C.o.2,HJ0.o];omega
    .have hn:=yez (P:=Tryz.prog) wr I ⟨F.toArray⟩ j 0 hit (by rw[size_mk];exact uo);have xnk:F.drop j=[]:=bn J;rw[xnk]at E;have HE:=Z (show YA full l=some (⟨op,full - m,v,k,t⟩,N)by rw[HIR.o,<-E];rfl);have W:=hS;obtain⟨ka,kb,kc,rfl⟩:=jo hS.kr;obtain⟨ta,tb,tc,rfl⟩:=jo hS.tr;have a0:=hS.a0;have a1:=hS.a1;have a2:=hS.a2;have a3:=hS.a3;have a4:=hS.a4;have z0:=hS.z 0;have z1:=hS.z 1;have z2:=hS.z 2;have z3:=hS.z 3;have z4:=hS.z 4;have dn:=Z W;clear hS W hit E xnk hj HS HIR HR Pb;go_wp2;rw[Gw a0,Gw a1,Gw a2,Gw a3,Gw a4];refine yK (v := .agg #[op,((full - m:Nat):Int),v,.slice ka kb kc,.slice ta tb tc]) ?_ rfl ?_
     .simp[yN,results59,go_sem,a0,a1,a2,a3,a4]
     .unfold mO;rw[HE.o];exact⟨⟨⟨_,_,rfl,dn.o.kr,dn.o.tr,dn.o.cE,dn.o.lo⟩,dn.o.rd,dn.o.r1⟩,dn.o.fr.tg (λq hq=>hq)⟩
def Ha(w:z8):(zA (.iface 149 (.agg #[])) 20 149 true).run Tryz.prog w = .ok (.tuple #[.agg #[],.bool true]) w:=xV
def O1(A:Nat)(u:Value)(b:List Eg)(w:z8)(hA:zu w A 0 u)(f:w.frozen? (A,0)=false) :
  CallsD Tryz.prog 55 #[(A,0)] (.panicking ({ v := .iface 149 (.agg #[]),recovered:=false }::b)) w λe j w' =>
   e = .returned (.tuple #[])/\j = .panicking ({ v := .iface 149 (.agg #[]),recovered:=true }::b)/\zu w' A 0 (.pointer none)/\Fr (λq=>q=A) (λq=>q=A) w w':=by
 have ha:=Ha;refine EL func55 rfl λh cs i=>?_
 apply wpS_seq;apply wpS_region;simp[wpOpsS,go_sem,recoverD,i,ha,ntmps55,Fq];refine wpS_of_wp ?_;simp only[xl,zX,QL,List.set_cons_zero,List.set_cons_succ,List.append_toArray,xX,xK,Act.put];have hf:Fr (λq=>q=A) (λq=>q=A) w (w.alloc (.cells #[] 149)):=(Fr.refl _ _).alloc _;have c:=yy hA (.cells #[] 149);have d:(w.alloc (.cells #[] 149)).frozen? (A,0)=false:=((Fr.refl (λ_=>False) w).alloc (F':=λ_=>False) (.cells #[] 149)).frozen (a:=(A,0)) (X _ _ hA) id |>.trans f
 generalize w.alloc (.cells #[] 149)=W at hf c d|-;have g:=Z (zg (yw c (.pointer none)) (hf.set (a:=(A,0)) (.pointer none) (.inl rfl)));clear hf hA f ha;go_wp2;cases h;simp_all [bodyPostS,yN,results55];exact g.o
variable{ops:Array jk}{P:VI}{v':Value}{w2:z8}
def UM{w:z8}{b:Nat}{f:Nat->Option Nat}(h:jR w b n f):jh w b=none:=by
 obtain⟨D,⟨es,a,c,rest⟩,h2⟩:=h;unfold jh;rw[c]
def Uk.snoc{w:z8}{code:List uG}{rs:List (Value×Value)}{i:uG}(h:Uk w code rs)(t:uq w kv i.k)(u:uq w tv i.tg)(hd:∀q,zH kv q->¬zH tv q)
  (hn:∀r∈rs,∀q,zH r.1 q\/zH r.2 q->¬(zH kv q\/zH tv q)):Uk w (code++[i]) (rs++[(kv,tv)]):=by
 have p:=h.len;have key:∀(n:Nat) (r:Value×Value),(rs++[(kv,tv)])[n]? = some r->(n<rs.length/\rs[n]? = some r)\/(n=rs.length/\r=(kv,tv)):=by
  intro n r e;rw[List.getElem?_append]at e;split at e
  .exact .inl ⟨by assumption,e⟩
  .have j:=(zF.1 e).1;simp at j;have s:n=rs.length:=(by omega);subst s;simp at e;exact .inr ⟨rfl,e.symm⟩
 refine⟨by simp[p],λn i' r f j=>?_,λn m r r' f j g l=>?_⟩
 .rcases key n r j with⟨a,b⟩|⟨a,rfl⟩
  .rw[za J]at f;exact h.k n i' r f b
  .subst a;rw[p]at f;simp at f;subst f;exact⟨t,u⟩
 .rcases key n r f with⟨a,b⟩|⟨a,rfl⟩
  .rcases key m r' j with⟨c,d⟩|⟨c,rfl⟩
   .exact h.ne n m r r' b d g l
   .have:=hn r (zW b) g (.inr l);exact⟨λq=>this (.inl q),λq=>absurd (.inr q) this⟩
  .rcases key m r' j with⟨c,d⟩|⟨c,rfl⟩
   .have o:=hn r' (zW d) g;exact⟨λq=>o (.inl q) (.inr l),λq=>absurd (.inr l) (o (.inr q))⟩
   .exact⟨λq=>hd g q l,λ_=>J⟩
def JP:∀(F:Wd) (v:Nat) (k t:List Nat),Hq F k.length t.length=true->2*t.length<=(ua F v k t).length
 |[],v,k,t,h=>by
  simp[Hq]at h;rw[h.2];simp
 |c::F,v,k,t,h=>by
  rw[Hq]at h;rw[ua];split at h
  .rename_i h1;rw[yV h1];simp only[zx,vJ]at h;have:=JP F v k.tail t Mb;exact Da
  .rename_i h1;rw[yz h1];split at h
   .rename_i h2;rw[yV h2];have:=JP F v k t h;exact Da
   .rename_i h2;rw[yz h2];split at h
    .rename_i a;rw[yV a];simp only[zx,vJ]at h;have:=JP F v k t.tail Mb;rw[OS]at this;rw[zy];have e:(vy (t.headD 0)).length=2:=rfl;omega
    .rename_i a;rw[yz a];simp only[zx,vJ]at h;have:=JP F v [] (t.drop (k.length+1)) (by rw[yh];exact h.2);rw[yh]at this;rw[zy,zy,<-JH];omega
def zn8:∀(code:List uG),(∀i∈code,cH i)->(code.map λi=>i.tg.length+1).sum<=(xQ code).length
 |[],_=>zQ _
 |i::r,h=>by
  have h1:=JP _ i.v _ _ (h i (.head _)).ex;have h2:=zn8 r (λx hx=>h x (.tail _ hx));have e:xQ (i::r)=xF i++xQ r:=by simp[xQ]
  rw[e,zy,vE,Oc,xF,zY];omega
def Cl{Q:Exit->Act->z8->Prop}{md:kG}{S:z8->Prop}(e:∀c a d v w,d≠some m->Q (.panic c) (a.put d v) w->Q (.panic c) a w)(hs:vX ops=true)(hd:∀(i:Nat) (o:jk),ops[i]? = some o->o.dst≠some m){w:z8}(hS:S w){fuel:Nat} :
  ∀(is:List Nat) (listed:Array Bool) (a:Act),bJ md ops k is listed=true ->
   takes P ops S (λa'=>qX P md ops Q S k fuel (jF listed is) a' w) is a->qX P md ops Q S k (fuel+is.length) listed a w
 |[],_,_,_,h=>h
 |i::is,listed,a,hB,⟨o,v,b,hy,h⟩=>by
  simp only[bJ,zx,qu,beq_eq_false_iff_ne]at hB;rw[zY,<-kh];exact KI b (Region.noSelect_spec hs) (λc a w=>e c a o.dst v w (hd i o b)) hB.1.1.2 hB.1.2 (fuel+is.length) listed a w (Region.free_spec b hB.1.1.1.1.1) (by simpa using hB.1.1.1.1.2) (KH hB.1.1.1.2) hy hS (Cl e hs hd hS is _ _ hB.2 h)
def rkb{Q:Exit->Act->z8->Prop}{id:Nat}{l:List jk}{a:Act}{w:z8}(m:Nat)(S:z8->Prop)(k:Nat)(is:List Nat)(fuel:Nat)(b:∀c a d v w,d≠some m->Q (.panic c) (a.put d v) w->Q (.panic c) a w)(hS:S w.drew)
  (h:takes P l.toArray S (λa'=>qX P .any l.toArray Q S k fuel (jF (xl l.toArray.size false) is) a' w.drew) is a) (hm:P.follows .mixedOrders=true:=by kernel_rfl)
  (hn:(vX l.toArray && decide (l.length=fuel+is.length) && bJ .any l.toArray k is (xl l.toArray.size false) && l.all (λo=>decide (o.dst≠some m)))=true:=by kernel_rfl):(Vz id l.toArray true).wp P Q a w:=by
 simp only[zx,vJ]at hn;refine wp_region_any hm (QO (S:=S) (k:=k) _ _ _ _ ?_);have hd:∀(i:Nat) (o:jk),l.toArray[i]? = some o->o.dst≠some m:=λi o ho=>by
  have:=zi.1 hn.2 o (zW Dr);simpa using this
 have h1:=Cl (Q:=Q) (md := .any) (ops:=l.toArray) b hn.1.1.1 hd hS is _ a hn.1.2 h;have h2:l.toArray.size=fuel+is.length:=by simpa using hn.1.1.2
 rw[h2];rw[h2]at h1;exact h1
def Kg{fn:Func}{t1 t2:Array Value}{R:xU->z8->Prop}(h:yN fn t1=yN fn t2):∀(ds:List Deferred) (u:FrameMode) (w:z8),UA P fn t1 R ds u w->UA P fn t2 R ds u w
 |[],.returning,w,q=>by unfold UA at q|-;rw[<-h];exact q
 |[],.panicking c,w,q=>q
 |[],.run,w,q=>q
 |d::ds,u,w,q=>by
  unfold UA at q|-;obtain⟨a,i,cap,f,args,b,c,e⟩:=q;refine⟨a,i,cap,f,args,b,c,e.mono ?_⟩;intro e j w' g;cases e with
  |returned v=>exact Kg h ds _ w' g
  |panicked c=>exact Kg h ds _ w' g
  |outgrown=>exact g
def SS{R:xU->z8->Prop}{c:List Eg}{a:Act}{d:Option Nat}{w:z8}(hd:d≠some 2)(h:OU Tryz.prog Tryz.f32 R (.panic c) (a.put d v) w):OU Tryz.prog Tryz.f32 R (.panic c) a w:=by
 have hr:yN Tryz.f32 (a.put d v).tmps=yN Tryz.f32 a.tmps:=by
  have e:(a.put d v).tmps[2]? = a.tmps[2]? := by
   cases d with
   |none=>rfl
   |some t =>
    show(a.tmps.setIfInBounds t v)[2]? = _;rw[Ef,yz (λq=>hd (by rw[q]))]
  unfold yN;simp only[results32];simp[e]
 have EZ:(a.put d v).defers=a.defers:=by cases d<;>rfl
 have h:UA Tryz.prog Tryz.f32 (a.put d v).tmps R (a.put d v).defers (.panicking c) w:=h;rw[EZ]at h;exact Kg hr _ _ _ h
structure RdQ(A Q mb:Nat)(cs:List Wd)(code:List uG)(vC vI:Value)(rs:List (Value×Value))(w0 w:z8):Prop where
 a0:zu w A 0 (Q,0)
 az:w.frozen? (A,0)=false
 p:ug Q ⟨cs,code,0⟩ vC vI rs mb w
 qz:∀j,w.frozen? ⟨Q,j,none⟩=false
 tA:jh w A=some 56
 tQ:jh w Q=some 84
 lA:(w0:Nat)<=A
 lQ:(w0:Nat)<=Q
 lM:(w0:Nat)<=mb
 lC:∀q,zH vC q->(w0:Nat)<=q
 lI:∀q,zH vI q->(w0:Nat)<=q
 lR:∀r∈rs,∀q,zH r.1 q\/zH r.2 q->(w0:Nat)<=q
 dG:zP w0 w
section
variable {A Q R g mb full:Nat} {cs:List Wd} {code:List uG} {l:Wd} {vC vI:Value} {rs:List (Value×Value)} {w0 w w':z8}
def RdQ.row(h:RdQ A Q mb cs code vC vI rs w0 w){r:Value×Value}(hr:r∈rs)(c:zH r.1 q\/zH r.2 q):jh w q=some 3/\q<(w:Nat):=by
 obtain⟨n,hn,e⟩:=ql.1 hr;obtain⟨a,b⟩:=h.p.rows.k n (code[n]'(by have:=h.p.rows.len;simp only at this;omega)) r (zk _) Li;rcases c with q|q
 .exact⟨xA a q,uj a q⟩
 .exact⟨xA b q,uj b q⟩
def RdQ.fr(h:RdQ A Q mb cs code vC vI rs w0 w)(hf:Fr F F' w w')(hF:∀q,F q->(w0:Nat)<=q/\q≠A/\q≠Q/\q≠mb/\¬zH vC q/\¬zH vI q/\jh w q≠some 3):RdQ A Q mb cs code vC vI rs w0 w':=by
 have d:¬F A:=λq=>(hF _ q).2.1 rfl
 have c:¬F Q:=λq=>(hF _ q).2.2.1 rfl
 have f:¬F mb:=λq=>(hF _ q).2.2.2.1 rfl
 have lA:=uO h.tA;have lQ:=uO h.tQ;exact⟨hf.cell h.a0 d,(hf.frozen lA d).trans h.az,⟨hf.cell h.p.q0 c,hf.cell h.p.q1 c,hf.cell h.p.q2 c,hf.own h.p.cC (λq a b=>(hF _ b).2.2.2.2.1 a),hf.own h.p.cI (λq a b=>(hF _ b).2.2.2.2.2.1 a),h.p.rows.fr hf (λq a=>(hF _ a).2.2.2.2.2.2),h.p.mp.fr hf f⟩,λj=>(hf.frozen lQ c).trans (h.qz j),
  (yc (hf.keep A lA d)).trans h.tA,(yc (hf.keep Q lQ c)).trans h.tQ,h.lA,h.lQ,h.lM,h.lC,h.lI,h.lR,h.dG.trans (hf.low (λk e=>(hF k e).1) h.dG.size)⟩
def RdQ.const(h:RdQ A Q mb cs code vC vI rs w0 w)(m:w'.ownsRow 0 9 1 v' (cs.length+1) (cs.map zM++[zM t]))(hf:Fr (zH vC) (zH v') w w') :
  RdQ A Q mb (cs++[t]) code v' vI rs w0 (w'.setCell (Q,0) v')/\Fr (λq=>zH vC q\/q=Q) (λq=>zH v' q\/q=Q) w (w'.setCell (Q,0) v'):=by
 have ty:=λq (o:zH vC q)=>xA h.p.cC o
 have r:¬zH vC A:=λq=>zqv
 have d:¬zH vC Q:=λq=>zqu
 have s:¬zH vC mb:=λq=>by have:=ty _ q;rw[UM h.p.mp]at this;simp at this
 have nI:∀q,zH vI q->¬zH vC q:=λq a b=>by have:=ty _ b;rw[xA h.p.cI a]at this;simp at this
 have nR:∀q,zH vC q->jh w q≠some 3:=λq a b=>by rw[ty _ a]at b;simp at b
 have lA:=uO h.tA;have lQ:=uO h.tQ;have i:∀q,zH v' q->(w0:Nat)<=q:=λq a=>(hf.fp q a).elim (h.lC q) (λb=>zj h.dG.size b)
 have l:¬zH v' Q:=λq=>(hf.fp _ q).elim d J
 have f:Q≠A:=λe=>by have:=h.tA;rw[<-e,h.tQ]at this;simp at this
 have f3:Fr (λq=>zH vC q\/q=Q) (λq=>zH v' q\/q=Q) w (w'.setCell (Q,0) v'):=((hf.wide (G:=λq=>zH vC q\/q=Q) (λ_ q => .inl q)).set _ (.inl (.inr rfl))).tg (λq a=>a.elim (λb=>(hf.fp q b).imp .inl id) (λb => .inl (.inr b)));have c:¬(zH vC A\/A=Q):=λq=>q.elim r (λe=>f e.symm)
 have g:mb≠Q:=λe=>by have:=UM h.p.mp;rw[e,h.tQ]at this;cases this
 have fs:Fr (λq=>q=Q) (λq=>q=Q) w' (w'.setCell (zU Q 0) v'):=(Fr.refl _ _).set _ (.inl rfl);refine⟨⟨f3.cell h.a0 c,(f3.frozen lA c).trans h.az,⟨yw (hf.cell h.p.q0 d) _,?_,?_,?_,f3.own h.p.cI (λq a b=>b.elim (nI q a) (λe=>by have:=xA h.p.cI a;rw[e,h.tQ]at this;simp at this)),h.p.rows.fr f3 (λq a=>a.elim (nR q) (λe=>by rw[e,h.tQ];simp)),h.p.mp.fr f3 (λq=>q.elim s g)⟩,λj=>?_,
  (yc (f3.keep A lA c)).trans h.tA,?_,h.lA,h.lQ,h.lM,i,h.lI,h.lR,h.dG.trans (f3.low (λk n=>n.elim (h.lC k) (λe=>by rw[e];exact h.lQ)) h.dG.size)⟩,f3⟩
 .rw[zo,yz zZ];exact hf.cell h.p.q1 d
 .rw[zo,yz zZ];exact hf.cell h.p.q2 d
 .have:=fs.own m (λq a b=>l (b▸a));simpa using this
 .rw[zO];exact(hf.frozen lQ d).trans (h.qz j)
 .rw[qQ];exact(yc (hf.keep Q lQ d)).trans h.tQ
def SW(code:List uG)(i:uG):∀n,n<=code.length->qo (code++[i]) n=qo code n
 | 0,_=>rfl
 |n+1,h=>by
  funext x;rw[qo,qo,SW code i n J,za J]
def se(code:List uG)(i:uG):qo (code++[i]) (code++[i]).length=λx=>if i.pos=x then some code.length else qo code code.length x:=by
 funext x;rw[zy,gU,qo,SW code i _ (Y _)];simp
def RdQ.more{i:uG}(h:RdQ A Q mb cs code vC vI rs w0 w)(c:uq w kv i.k)(z:uq w tv i.tg)(hd:∀q,zH kv q->¬zH tv q)(o:∀q,zH kv q\/zH tv q->(w0:Nat)<=q)
  (hn:∀r∈rs,∀q,zH r.1 q\/zH r.2 q->¬(zH kv q\/zH tv q)) (hm:jR w1 mb (code.length+1) (λx=>if i.pos=x then some code.length else qo code code.length x)) (h1:w.grownBy w1 (some mb))
  (y:w2.ownsRow 0 87 5 v' (code.length+1) (dI code rs++Jg i (kv,tv))) (h2:Fr (zH vI) (zH v') w1 w2) :
  RdQ A Q mb cs (code++[i]) vC v' (rs++[(kv,tv)]) w0 (w2.setCell (Q,1) v')/\Fr (λq=>q=mb\/zH vI q\/q=Q) (λq=>q=mb\/zH v' q\/q=Q) w (w2.setCell (Q,1) v'):=by
 have f1:Fr (λk=>k=mb) (λk=>k=mb) w w1:=⟨h1.os,h1.tape,h1.output,h1.size,λk c hn=>h1.block k c (λe=>hn (zL e)),λ_ q => .inl q⟩;have f2:Fr (λq=>q=mb\/zH vI q) (λq=>q=mb\/zH v' q) w w2 :=
  ⟨h2.os.trans f1.os,h2.tape.trans f1.tape,h2.output.trans f1.output,zj f1.size h2.size,λk c hn=>(h2.keep k (zD c f1.size) (λq=>hn (.inr q))).trans (f1.keep k c (λq=>hn (.inl q))),λk q=>q.elim (λq => .inl (.inl q)) (λq=>(h2.fp k q).imp .inr (zj f1.size))⟩
 have f3:Fr (λq=>q=mb\/zH vI q\/q=Q) (λq=>q=mb\/zH v' q\/q=Q) w (w2.setCell (Q,1) v') :=
  ((f2.wide (G:=λq=>q=mb\/zH vI q\/q=Q) (λ_ q=>q.elim .inl (λq => .inr (.inl q)))).set _ (.inl (.inr (.inr rfl)))).tg (λq a=>by
   rcases a with a|a|a
   .exact .inl (.inl a)
   .exact(f2.fp q (.inr a)).imp (λb=>b.elim .inl (λb => .inr (.inl b))) id
   .exact .inl (.inr (.inr a)))
 have ty:=λq (l:zH vI q)=>xA h.p.cI l
 have tM:=UM h.p.mp;have v:¬(A=mb\/zH vI A):=λq=>q.elim (λe=>by rw[<-e,h.tA]at tM;cases tM) (λq=>zqv)
 have f:¬(Q=mb\/zH vI Q):=λq=>q.elim (λe=>by rw[<-e,h.tQ]at tM;cases tM) (λq=>zqu)
 have m:A≠Q:=λe=>by have:=h.tA;rw[e,h.tQ]at this;simp at this
 have d:¬(A=mb\/zH vI A\/A=Q):=λq=>q.elim (λa=>v (.inl a)) (λq=>q.elim (λa=>v (.inr a)) m)
 have lA:=uO h.tA;have lQ:=uO h.tQ;have nC:∀q,zH vC q->¬(q=mb\/zH vI q\/q=Q):=λq a b=>by
  have t:=xA h.p.cC a;exact zv5
 have u:∀q,(q=mb\/zH vI q\/q=Q)->jh w q≠some 3:=λq b t=>zv5
 have s:¬zH v' Q:=λq=>(h2.fp _ q).elim (λq=>f (.inr q)) (λq=>by have:=f1.size;omega)
 have B:∀q,zH v' q->q≠mb:=λq a e=>(h2.fp _ a).elim (λb=>by have:=ty q b;rw[e,tM]at this;cases this) (λb=>by have:=h.p.mp.lt;have:=f1.size;omega)
 have fs:Fr (λq=>q=Q) (λq=>q=Q) w2 (w2.setCell (Q,1) v'):=(Fr.refl _ _).set _ (.inl rfl);have n:mb≠Q:=λe=>f (.inl e.symm)
 have g:∀q,zH v' q->(w0:Nat)<=q:=λq a=>(h2.fp q a).elim (h.lI q) (λb=>zj h.dG.size (zj f1.size b))
 refine⟨⟨f3.cell h.a0 d,(f3.frozen lA d).trans h.az,⟨?_,yw (f2.cell h.p.q1 f) _,?_,f3.own h.p.cC nC,?_,?_,?_⟩,λj=>?_,(yc (f3.keep A lA d)).trans h.tA,?_,h.lA,h.lQ,h.lM,h.lC,g,λr hr q l=>?_,h.dG.trans (f3.low (λk c=>?_) h.dG.size)⟩,f3⟩
 .rw[zo,yz zZ];exact f2.cell h.p.q0 f
 .rw[zo,yz zZ];exact f2.cell h.p.q2 f
 .have e:dI (code++[i]) (rs++[(kv,tv)])=dI code rs++Jg i (kv,tv):=BA _ _ _ _ h.p.rows.len;have:=fs.own y (λq a b=>s (b▸a));simp only[zy,gU];rw[e];exact this
 .exact(h.p.rows.snoc c z hd hn).fr f3 u
 .have:=(hm.fr h2 (λq=>by have:=ty _ q;rw[tM]at this;cases this)).fr fs n;simp only;rw[se,zy,gU];exact this
 .rw[zO];exact(f2.frozen lQ f).trans (h.qz j)
 .rw[qQ];exact(yc (f2.keep Q lQ f)).trans h.tQ
 .rcases zS.1 hr with a|a
  .exact h.lR r a q l
  .rw[zJ]at a;subst a;exact o q l
 .rcases c with c|c|c
  .rw[c];exact h.lM
  .exact h.lI k c
  .rw[c];exact h.lQ
structure Cm(A Q R g mb:Nat)(cs:List Wd)(code:List uG)(l:Wd)(full:Nat)(vC vI:Value)(rs:List (Value×Value))(w0 w:z8):Prop where
 q:RdQ A Q mb cs code vC vI rs w0 w
 rd:EE w R g l
 r1:zu w R 1 full
 rz:full=0->w.frozen? (R,1)=false
 tR:jh w R=some 155
 lR:(w0:Nat)<=R
 Jm:g<(w0:Nat)
def Cm.nR(h:Cm A Q R g mb cs code l full vC vI rs w0 w):(w0:Nat)<=R/\R≠A/\R≠Q/\R≠mb/\¬zH vC R/\¬zH vI R/\jh w R≠some 3:=by
 refine⟨h.lR,λe=>?_,λe=>?_,λe=>?_,λe=>?_,λe=>?_,by rw[h.tR];simp⟩
 .have:=h.tR;rw[e,h.q.tA]at this;simp at this
 .have:=h.tR;rw[e,h.q.tQ]at this;simp at this
 .have:=h.tR;rw[e,UM h.q.p.mp]at this;cases this
 .have:=h.tR;rw[xA h.q.p.cC e]at this;simp at this
 .have:=h.tR;rw[xA h.q.p.cI e]at this;simp at this
def Cm.read(h:Cm A Q R g mb cs code l full vC vI rs w0 w)(hr:EE w' R g l')(hf:FrR R w w'):Cm A Q R g mb cs code l' full vC vI rs w0 w' :=
 ⟨h.q.fr hf.toFr (λq e=>by subst e;exact h.nR),hr,hf.r1.trans h.r1,λe=>hf.z1.trans (h.rz e),hf.tp.trans h.tR,h.lR,h.Jm⟩
def Cm.same(h:Cm A Q R g mb cs code l full vC vI rs w0 w)(hf:Fr yH F' w w'):Cm A Q R g mb cs code l full vC vI rs w0 w' :=
 ⟨h.q.fr hf (λq e=>e.elim),h.rd.fr hf id id,hf.cell h.r1 id,λe=>(hf.frozen (uO h.tR) id).trans (h.rz e),(yc (hf.keep R (uO h.tR) id)).trans h.tR,h.lR,h.Jm⟩
def Cm.const(h:Cm A Q R g mb cs code l full vC vI rs w0 w)(a:w'.ownsRow 0 9 1 v' (cs.length+1) (cs.map zM++[zM t]))(hf:Fr (zH vC) (zH v') w w') :
  Cm A Q R g mb (cs++[t]) code l full v' vI rs w0 (w'.setCell (Q,0) v'):=by
 obtain⟨b,f⟩:=h.q.const a hf;have nR:¬(zH vC R\/R=Q):=λq=>q.elim h.nR.2.2.2.2.1 h.nR.2.2.1
 have c:¬(zH vC g\/g=Q):=λq=>by
  have:=h.Jm;rcases q with q|q
  .have:=h.q.lC g q;omega
  .have:=h.q.lQ;omega
 exact⟨b,h.rd.fr f nR c,f.cell h.r1 nR,λe=>(f.frozen (uO h.tR) nR).trans (h.rz e),(yc (f.keep R (uO h.tR) nR)).trans h.tR,h.lR,h.Jm⟩
def Cm.more{i:uG}(h:Cm A Q R g mb cs code l full vC vI rs w0 w)(c:uq w kv i.k)(j:uq w tv i.tg)(hd:∀q,zH kv q->¬zH tv q)(a:∀q,zH kv q\/zH tv q->(w0:Nat)<=q)
  (hn:∀r∈rs,∀q,zH r.1 q\/zH r.2 q->¬(zH kv q\/zH tv q)) (hm:jR w1 mb (code.length+1) (λx=>if i.pos=x then some code.length else qo code code.length x)) (h1:w.grownBy w1 (some mb))
  (b:w2.ownsRow 0 87 5 v' (code.length+1) (dI code rs++Jg i (kv,tv))) (h2:Fr (zH vI) (zH v') w1 w2) :
  Cm A Q R g mb cs (code++[i]) l full vC v' (rs++[(kv,tv)]) w0 (w2.setCell (Q,1) v'):=by
 obtain⟨d,f⟩:=h.q.more c j hd a hn hm h1 b h2;have nR:¬(R=mb\/zH vI R\/R=Q):=λq=>q.elim h.nR.2.2.2.1 (λq=>q.elim h.nR.2.2.2.2.2.1 h.nR.2.2.1)
 have m:¬(g=mb\/zH vI g\/g=Q):=λq=>by
  have:=h.Jm;rcases q with q|q|q
  .have:=h.q.lM;omega
  .have:=h.q.lI g q;omega
  .have:=h.q.lQ;omega
 exact⟨d,h.rd.fr f nR m,f.cell h.r1 nR,λe=>(f.frozen (uO h.tR) nR).trans (h.rz e),(yc (f.keep R (uO h.tR) nR)).trans h.tR,h.lR,h.Jm⟩
def Cm.xnj(h:Cm A Q R g mb cs code l full vC vI rs w0 w)(hr:EE w' R g l')(hf:Fr (· = R) F' w w')(h1:w'.cell? (R,1)=w.cell? (R,1))(h2:jh w' R=jh w R)(h0:full≠0):Cm A Q R g mb cs code l' full vC vI rs w0 w' :=
 ⟨h.q.fr hf (λq e=>by subst e;exact h.nR),hr,h1.trans h.r1,λe=>absurd e h0,h2.trans h.tR,h.lR,h.Jm⟩
def Cm.vld{f2:Nat}(h:Cm A Q R g mb cs code l 0 vC vI rs w0 w):Cm A Q R g mb cs code l f2 vC vI rs w0 (w.setCell (R,1) (f2:Nat)):=by
 have f:Fr (λq=>q=R) (λq=>q=R) w (w.setCell (R,1) f2):=(Fr.refl _ _).set _ (.inl rfl);obtain⟨⟨b,cap,c0,h1,h2,hb,a⟩,c,fz⟩:=h.rd;refine⟨h.q.fr f (λq e=>by subst e;exact h.nR),⟨⟨b,cap,?_,h1,h2,hb.fr f (λd e q=>by cases e;exact c (a.symm.trans q)),a⟩,c,?_⟩,yw h.r1 _,?_,?_,h.lR,h.Jm⟩
 .exact zdu
 .rw[zO];exact fz
 .intro _;rw[zO];exact h.rz rfl
 .rw[qQ];exact h.tR
end
variable{A:Nat}{W:z8}
def YY(l:Wd)(w:z8)(e:xU)(w':z8):Prop :=
 (match qf l with
  |none=>e = .returned (.pointer none)
  |some (cs,code)=>∃Q vC vI rs mb,e = .returned (.pointer (some ⟨Q,0,none⟩))/\ug Q ⟨cs,code,0⟩ vC vI rs mb w'/\(w:Nat)<=Q)/\zP w w'
def zn9(cs:List Wd)(l2:Wd):Option (List Wd×List uG) :=
 match uY 2 l2 with
 |none=>none
 |some (full,l3)=>if full=l3.length/\full≠0 then (match ft full l3.length l3 with|none=>none|some code=>if fg cs code=true then some (cs,code)else none)else none
def znz{l:Wd}(h:NC l=false):qf l=match uY 2 (Hk l) with|none=>none|some (m,a)=>match bO m [] a with|none=>none|some (cs,b)=>zn9 cs b:=by
 unfold qf Sz;rw[h];simp only[Vx,if_false];cases uY 2 (Hk l) with
 |none=>rfl
 |some p =>
  obtain⟨m,a⟩:=p;simp only;cases bO m [] a with
  |none=>rfl
  |some p =>
   obtain⟨cs,b⟩:=p;simp only[zn9];cases uY 2 b with
   |none=>rfl
   |some p =>
    obtain⟨full,c⟩:=p;simp only;by_cases hf:full=c.length/\full≠0
    .rw[yV hf,yV hf];cases ft full c.length c<;>rfl
    .rw[yz hf,yz hf]
def qj.dG(h:qj w)(hb:zP w w'):qj w':=λop a=>(hb.cell (X _ _ (h op a))).trans (h op a)
def zny{b:z8}{b3:yM}{k4 c3:Nat}{z:Wd}(hA:zu b A 0 (.pointer none))(K:b.frozen? (A,0)=false)(tA:jh b A=some 56)(o:(w:Nat)<=A)(hb:zP w b)
  (I:z.length=k4) (hc:k4<=c3) (hm:c3<=maxLen) (s:jE b (some b3) z) (y:b3.block<(w:Nat)) :
  Cm A ((b:Nat)+1) ((b:Nat)+2) b3.block (b:Nat) [] [] z 0 (.slice none 0 0) (.slice none 0 0) [] w
   ((((b.alloc (.map #[] 0)).alloc (.cells #[.slice none 0 0,.slice none 0 0,.map (some (b:Nat))] 84)).setCell (A,0) ((b:Nat)+1,0)).alloc (.cells #[.slice (some b3) k4 c3,.int .i64 0] 155)):=by
 have t:=uO tA;have x:=hb.size;obtain⟨B,hB⟩:=zr (b:Nat);obtain⟨l,k⟩:=zr (b.alloc (.map #[] 0));have sm:(l:Nat)=B+1:=by rw[<-k];simp[hB]
 have fm:Fr yH yH b l:=by rw[<-k];exact(Fr.refl _ _).alloc _
 have M:jR l B 0 (λ_=>none):=by rw[<-k,<-hB];exact jR.made b
 obtain⟨h,d⟩:=zr (l.alloc (.cells #[.slice none 0 0,.slice none 0 0,.map (some B)] 84));have sq:(h:Nat)=B+2:=by rw[<-d];simp[sm]
 have E:Fr yH yH l h:=by rw[<-d];exact(Fr.refl _ _).alloc _
 have u:=λj=>zf l #[.slice none 0 0,.slice none 0 0,.map (some B)] 84 (0,0) j
 have zq:∀j,h.frozen? ⟨B+1,j,none⟩=false:=by intro j;rw[<-d,<-sm];simp
 have tq:jh h (B+1)=some 84:=by rw[<-d,<-sm];exact bI _ _ _
 rw[d,sm]at u;rw[k,hB,d];obtain⟨f,c⟩:=zr (h.setCell (zU A 0) (zU (B+1) 0));have g:=fm.trans E;have fa:Fr (λq=>q=A) (λq=>q=A) h f:=by rw[<-c];exact(Fr.refl _ _).set _ (.inl rfl)
 have D:(f:Nat)=B+2:=by rw[<-c,<-sq];simp[xg]
 have F:∀a,f.frozen? a=h.frozen? a:=λa=>by rw[<-c,zO]
 have ta:∀q,jh f q=jh h q:=λq=>by rw[<-c,qQ]
 have ca:zu f A 0 (zU (B+1) 0):=by rw[<-c];exact yw (g.cell hA id) _
 rw[c];have fr:Fr yH yH f (f.alloc (.cells #[.slice (some b3) k4 c3,.int .i64 0] 155)):=(Fr.refl _ _).alloc _;have v:=λj=>zf f #[.slice (some b3) k4 c3,.int .i64 0] 155 (0,0) j
 have tr:jh (f.alloc (.cells #[.slice (some b3) k4 c3,.int .i64 0] 155)) (B+2)=some 155:=by rw[<-D];exact bI _ _ _
 have G:∀j,(f.alloc (.cells #[.slice (some b3) k4 c3,.int .i64 0] 155)).frozen? ⟨B+2,j,none⟩=false:=by intro j;rw[<-D];simp
 rw[D]at v;have C:¬B+1=A:=J;have H:¬B=A:=J;have L:A<(h:Nat):=J;have p:yD w w (f.alloc (.cells #[.slice (some b3) k4 c3,.int .i64 0] 155)):=(hb.trans (g.low (λ_ q=>q.elim) x)).trans ((fa.low (λq e=>by rw[e];exact o) J).trans (fr.low (λ_ q=>q.elim) J));refine⟨⟨fr.cell ca id,(fr.frozen (show A<_ by omega) id).trans ((F _).trans ((g.frozen t id).trans K)),⟨fr.cell (fa.cell (u 0) C) id,fr.cell (fa.cell (u 1) C) id,fr.cell (fa.cell (u 2) C) id,xx _ _ _ _,xx _ _ _ _,⟨rfl,λn i r _ e=>(by simp at e),λn m r r' e=>(by simp at e)⟩,((M.fr E id).fr fa H).fr fr id⟩,λj=>(fr.frozen (show B+1<_ by omega) id).trans ((F _).trans (zq j)),
  (yc (fr.keep A J id)).trans ((ta A).trans ((yc (g.keep A t id)).trans tA)),(yc (fr.keep (B+1) J id)).trans ((ta _).trans tq),o,J,J,λq e=>(by cases e),λq e=>(by cases e),λr hr=>(by simp at hr),p⟩,⟨⟨b3,c3,by rw[I];exact v 0,J,hm,?_,rfl⟩,J,G 0⟩,v 1,λ_=>G 1,tr,J,y⟩
 exact((s.fr g (λ_ _=>id)).fr fa (λN e q=>by cases e;omega)).fr fr (λ_ _=>id)
def KO{l:Wd}{a:List Eg}{tm:Array Value}(hA:(w:Nat)=A)(ha:zu W A 0 u)(d:W.frozen? (A,0)=false)(c:a.dropWhile (!·.goexit)=[])(hb:zP w W)(hR:qf l=none)(b:tm[2]? = some (.pointer (A,0)):=by rfl) :
  OU Tryz.prog Tryz.f32 (YY l w) (.panic ({ v := .iface 149 (.agg #[]),recovered:=false }::a)) { tmps:=tm,defers:=[{ target := .fn (.func 55) #[(A,0)],args:=#[] }] } W:=by
 subst hA;refine qb (f:=55) (args:=#[(zU (w:Nat) 0)]) zZ kL ?_;refine(O1 (w:Nat) u a W ha d).mono ?_;rintro e g Vk ⟨rfl,rfl,hc,hf⟩;simp[UA,Eu,yN,results32,go_sem,hc,c,b];unfold YY;rw[hR];exact⟨rfl,hb.trans (hf.low (λq e=>by rw[e];exact Y _) hb.size)⟩
def zy8{l:Wd}{tm:Array Value}(hA:(w:Nat)=A)(ha:zu W A 0 u)(hR:∀Vk,zP W Vk->YY l w (.returned u) Vk)(a:tm[2]? = some (.pointer (A,0)):=by rfl) :
  OU Tryz.prog Tryz.f32 (YY l w) .ret { tmps:=tm,defers:=[{ target := .fn (.func 55) #[(A,0)],args:=#[] }] } W:=by
 subst hA;refine qb (f:=55) (args:=#[(w,0)]) zZ kL ?_;refine(B3 (w:Nat) _).mono ?_;rintro e b Vk ⟨rfl,rfl,hb⟩;have hc:zu Vk (w:Nat) 0 u:=(hb.cell (X _ _ ha)).trans ha;simp[UA,Eu,yN,results32,go_sem,hc,a];exact hR Vk hb
def eC{b:yM}{l:Wd}(h:Hb w b l n c)(yjv:NC l=false)(hFO:qj w) :
  zC Tryz.prog 32 #[.slice (some b) n c] w (YY l w):=by
 have uo:∀x,(w:Nat)=x->b.block<x:=λx e=>e▸h.lt
 have hf0:Fr yH yH w (w.alloc (.cells #[.pointer none] 56)):=(Fr.refl _ _).alloc _;have hA:=λj=>zf w #[.pointer none] 56 (0,0) j
 have wL:(w.alloc (.cells #[.pointer none] 56)).frozen? (w,0)=false:=zZ;have bh:(w.alloc (.cells #[.pointer none] 56)).heap.size=(w:Nat)+1:=zZ;obtain⟨W,hcv,hfW,hcW⟩:=CU (w.alloc (.cells #[.pointer none] 56));have c0:zu W (w:Nat) 0 (.pointer none):=hfW.cell (hA 0) id;have z0:W.frozen? (zU (w:Nat) 0)=false:=(hfW.frozen (show (w:Nat)<_ by omega) id).trans wL;have hfr:=hf0.trans hfW;have tA0:jh W (w:Nat)=some 56:=(yc (hfW.keep (w:Nat) J id)).trans (bI _ _ _);have HC:=Z (SM (b:=⟨(w.alloc (.cells #[.pointer none] 56)).heap.size,0,none⟩) (h.at_.fr hfr (λ_ _=>id)) (λj hj=>⟨_,rfl,hcW j _ (by simp[gp,hj])⟩) h.len h.le h.cap);rw[bh]at HC hcv;have HH:=Z (zg h (zg yjv hFO));have HF:=Z hfr;clear h yjv hFO hf0 hA wL hfW hcW hfr uo;go_enter_defers func32,ntmps32;go_wp2_with fail;refine HC.o.mono ?_;rintro e w1 ⟨rfl,rfl⟩;have Vc:=Z (zg c0 (zg z0 tA0));have hgd:qJ.isPrefixOf l=true/\¬65535<n/\¬n<7/\fF (l.drop (n - 4))=Xl (l.take (n - 4)):=by
  have h:=HH.o.2.1;unfold NC at h;rw[HH.o.1.len]at h;simp only[zr1,decide_eq_false_iff_not,Decidable.not_not,Bool.not_eq_false']at h;exact⟨h.1.1.1,h.1.1.2,h.1.2,h.2⟩
 obtain⟨hp,h1,h7,hsm⟩:=hgd;rw[yV hp];have h3:3<=n:=J;obtain⟨k,hk⟩:=zr (n - 3);rw[hk];clear hp;have h1i:¬(65535:Int)<(n:Int):=J;have h2:¬k<4:=J;have h2i:¬(k:Int)<4:=J;obtain⟨wM,Z4,hle,LI,wW⟩:=HH.o.1;have Ig:k<=c - 3:=J;have gM:¬c - 3=k - 4:=J;have h44:k - (k - 4)=4:=J;have OE:=wM.fr HF.o (λ_ _=>id);have e4:(l.drop 3).drop (k - 4)=l.drop (n - 4):=by rw[Xy];congr 1;omega
 have hbT:jE W (some ((Bz b 3 c).add (k - 4))) (l.drop (n - 4)):=zj7;have uR:(l.drop (n - 4)).length=4:=Fb;have hfa:Fr yH yH W (W.alloc (.cells #[.slice (some ((Bz b 3 c).add (k - 4))) 4 (c - 3 - (k - 4)),.int .i64 0] 155)):=(Fr.refl _ _).alloc _;have L:EE (W.alloc (.cells #[.slice (some ((Bz b 3 c).add (k - 4))) 4 (c - 3 - (k - 4)),.int .i64 0] 155)) (W:Nat) b.block (l.drop (n - 4)):=zfd;have Wo:=OE.take (n - 4);have Ib:=Kz (l:=l.drop (n - 4)) J;have Ml:=JC (l.take (n - 4));obtain⟨W1,Ep⟩:=zr (W.alloc (.cells #[.slice (some ((Bz b 3 c).add (k - 4))) 4 (c - 3 - (k - 4)),.int .i64 0] 155));rw[Ep]at hfa L;have HN:=Z (NI (w:=W1.drew) (n:=4) (show EE W1.drew (W:Nat) b.block (l.drop (n - 4)) from⟨L.ex,L.ne,L.fz⟩) J zR);rw[yr (TV uR)]at HN;have HFA:=Z hfa;have ax:=Z (zg Wo (show(l.take (n - 4)).length=n - 4 by rw[uK];omega));have hn4:n - 4<=2000000000:=J;have hlo:=UG b n (n - 4) c J hle LI;have TO:((n - 4:Nat):Int)=(n:Int) - 4:=J;rw[TO]at hlo;clear wM Z4 hle LI wW OE e4 hbT uR hfa L Wo HC;go_wp2_with fail;have hu:yey.wrap ((fF (l.drop (n - 4)):Nat):Int)=(fF (l.drop (n - 4)):Nat):=by rw[oX];omega
 obtain⟨N,hNe⟩:=zr (fF (l.drop (n - 4)));obtain⟨S,hSe⟩:=zr (Xl (l.take (n - 4)));rw[hNe]at HN hu hsm;rw[hSe]at hsm;have HSE:=Z hSe;subst hsm;clear Ib Ml Ep hNe hSe hcv c0 z0 tA0 bh;have EB:vH.wrap ((n:Int) - 4)=(n:Int) - 4:=Yy;have hwt:((n:Int) - 4).toNat=n - 4:=J;have hw0:(0:Int)<=(n:Int) - 4:=J;have hwc:(n:Int) - 4<=(c:Int):=by have:=HH.o.1.le;omega
 refine j5 ?_;refine V1 (λ_=>True) [0,3,4,5,6,7] 4 trivial ?_;refine gX 1 (λu d=>?_);go_simp;refine HN.o.mono ?_;rintro e W2 ⟨rfl,-,ZE⟩;have hfn:Fr yH (λx=>x=(W:Nat)) W W2:=HFA.o.tr ZE.und (λq H=>by subst H;exact .inr (Y _));have HS:=Z (λ(c:Nat)=>NH (cap:=c) (ax.o.1.fr hfn (λ_ _=>id)) ax.o.2 hn4);rw[HSE.o]at HS;have HFN:=Z (HF.o.trans hfn);have Xq:=hfn.cell Vc.o.1 id;have EV:=(hfn.frozen (X _ _ Vc.o.1) id).trans Vc.o.2.1;have tA2:=(yc (hfn.keep (w:Nat) (X _ _ Vc.o.1) id)).trans Vc.o.2.2;refine d.out _ _ trivial λ_=>?_
 clear d u HN ZE hfn;refine VO [2] 2 trivial ?_;refine gX 8 (λu d=>?_);go_simp;refine(HS.o _).mono ?_;rintro e W3 ⟨rfl,rfl⟩;refine d.out _ _ trivial λ_=>?_
 clear d u HS;refine VO [9] 0 trivial ?_;refine Y3 ?_ _;refine je ?_;obtain⟨wM,Z4,hle,LI,wW⟩:=HH.o.1;have dD:jE W2 (some (Bz b 3 c)) (Hk l):=by
  unfold Hk;rw[Z4];exact((wM.fr HFN.o (λ_ _=>id)).drop (n:=3) J).take (n - 7)
 have hl0:(Hk l).length=k - 4:=by unfold Hk;rw[uK,yh,Z4];omega
 have HP:=zny (w:=w) (k4:=k - 4) (c3:=c - 3) Xq EV tA2 (Y _) (HFN.o.low (λ_ q=>q.elim) (Y _)) hl0 J J dD (by rw[Ur];exact wW);rw[Ur]at HP;have DV:=yy (yy Xq (.map #[] 0)) (.cells #[.slice none 0 0,.slice none 0 0,.map (some (W2:Nat))] 84);have hz4:((W2.alloc (.map #[] 0)).alloc (.cells #[.slice none 0 0,.slice none 0 0,.map (some (W2:Nat))] 84)).frozen? (zU (w:Nat) 0)=false :=
  ((((Fr.refl yH W2).alloc (.map #[] 0)).alloc (.cells #[.slice none 0 0,.slice none 0 0,.map (some (W2:Nat))] 84)).frozen (a:=(w,0)) (X _ _ Xq) id).trans EV
 obtain⟨W9,hW9⟩:=zr (((((W2.alloc (.map #[] 0)).alloc (.cells #[.slice none 0 0,.slice none 0 0,.map (some (W2:Nat))] 84)).setCell (zU (w:Nat) 0) (zU ((W2:Nat)+1) 0)).alloc (.cells #[.slice (some (Bz b 3 c)) (k - 4) (c - 3),.int .i64 0] 155)));rw[hW9]at HP;have xng:=UG (Bz b 3 c) k (k - 4) (c - 3) J J J;rw[show((k - 4:Nat):Int)=(k:Int) - 4 by omega]at xng;have Em:=@run_makeMap Tryz.prog;have HPR:=Z HP;have E:=Z (znz HH.o.2.1);have HBL:=Z Z4;have hkw:vH.wrap ((k:Int) - 4)=(k:Int) - 4:=by rw[IntKind.wrap_i64];omega
 have HW9:=Z hW9;clear hW9 Xq EV wM Z4 hle LI wW dD hl0 HP HFN hlo hu EB hwt hw0 hwc hn4 TO HSE tA2;go_wp2_with fail;rw[HW9.o];have hp:=HPR.o;obtain⟨R,hR⟩:=zr ((W2:Nat)+1+1);obtain⟨Q,hQ⟩:=zr ((W2:Nat)+1);obtain⟨M,hM⟩:=zr (W2:Nat);obtain⟨A,hA⟩:=zr (w:Nat);obtain⟨L0,hL0⟩:=zr (Hk l);rw[show (W2:Nat)+2=(W2:Nat)+1+1 from rfl,hR,hQ,hM,hA,hL0]at hp;rw[hL0]at E;have HAe:=Z hA;rw[hR];try rw[hQ]
 try rw[hM]
 try rw[hA]
 have D:=Z hp;have HN:=Z (fW hp.rd 2 zR);clear hp HPR HW9 hR hQ hM hA hL0 xng Em hkw DV hz4 ax HFA HF Vc;refine HN.o.mono ?_;rintro e W3 ⟨H,hf⟩;cases uD:uY 2 L0 with
 |none =>
  rw[uD]at H E;obtain⟨B,rfl,ho⟩:=H;have HO:=Z ho;have HB:=Z (show qf l=none from E.o);have oR:=Z hf;have ha3:=hf.cell D.o.q.a0 (λe=>D.o.nR.2.1 e.symm);have Te:=(hf.frozen (a:=(zU A 0)) (X _ _ D.o.q.a0) (λe=>D.o.nR.2.1 e.symm)).trans D.o.q.az;have dD:=D.o.q.dG.trans (hf.low (λq e=>by rw[e];exact D.o.lR) D.o.q.dG.size);have HB3:=Z dD;clear HN uD hf ho E dD;go_wp2;exact KO HAe.o ha3 Te HO.o HB3.o HB.o
 |some p =>
  obtain⟨m,l1⟩:=p;rw[uD]at H E;obtain⟨rfl,we⟩:=H;have HP3:=Z (D.o.read we hf);clear we hf HN;have um9:m<=65535:=by
   have:=(fQ uD).2;omega
  go_wp2_with fail;go_loopw [58] (λiv wr=>∃(i:Nat) (cs:List Wd) (l2:Wd) (vC:Value),iv = .int .i64 i/\i<=m/\cs.length=i/\Cm A Q R b.block M cs [] l2 0 vC (.slice none 0 0) [] w wr/\bO (m - i) cs l2=bO m [] l1/\∀c∈cs,c.length<=1000) (λiv _=>m - (intOf iv).toNat)
  case atStart=>exact⟨0,[],l1,_,rfl,zQ _,rfl,HP3.o,rfl,λc hc=>by cases hc⟩
  case round =>
   obtain⟨i,cs,l2,vC,rfl,him,QU,hp,hrc,IQ⟩:=hrel;have HCS:=Z IQ;clear IQ;by_cases uo:i<m
   .have vm0:(i:Int)<(m:Int):=(by omega);have hmi:m - i=(m - (i+1))+1:=J;rw[hmi]at hrc;have HP:=Z hp;have HN:=Z (fW hp.rd 2 zR);have HC:=Z hrc;clear hp hrc hmi;go_wp2_with fail;refine HN.o.mono ?_;rintro e W4 ⟨H,hf⟩;cases Df:uY 2 l2 with
    |none =>
     rw[Df]at H;obtain⟨B,rfl,ho⟩:=H;have HO:=Z ho;have HB:=Z (show qf l=none by rw[E.o,<-HC.o,bO,Df]);exact ydy
    |some p =>
     obtain⟨n1,C⟩:=p;rw[Df]at H;obtain⟨rfl,El⟩:=H;have U:=Z (HP.o.read El hf);have HC4:=Z (show(if n1<=1000/\n1<=C.length then bO (m - (i+1)) (cs++[C.take n1]) (C.drop n1)else none)=bO m [] l1 by rw[<-HC.o,bO,Df]);clear El hf HN Df HC;by_cases DX:n1<=1000
     .have vm1:¬(1000:Int)<(n1:Int):=(by omega);have a4:=U.o.q.a0;have q4:=U.o.q.p.q0;have RL:=U.o.same (Fr.refl yH W4).drew;by_cases Ib:n1<=C.length
      .obtain⟨HC5,HT,HPD,HLT⟩:=hdd (show bO (m - (i+1)) (cs++[C.take n1]) (C.drop n1)=bO m [] l1 by rw[<-HC4.o,yV ⟨DX,Ib⟩]) (S8 RL.rd Ib) RL (show(C.take n1).length=n1 by rw[uK];omega);clear RL HC4 Ib HP;go_wp2_with fail;refine rkb 2 (λW':z8=>zu W' A 0 (zU Q 0)/\zu W' Q 0 vC) 13 [0,1,2,3,4,5,6] 7 (λ_ _ _ _ _ hd h=>SS hd h) ⟨a4,q4⟩ ?_;(iterate 7 (refine ty ?_;try simp only[pl]))
       refine yS ?_;refine dJ 7 (λu d=>?_);go_simp;refine HT.o.mono ?_;rintro e W5 ⟨⟨b5,c5,rfl,hby⟩,hr5,OO⟩;have f:=HPD.o.read hr5 OO;have hcv:=KK (P:=Tryz.prog) W5 34 9 5 b5 c5 (C.take n1) underlying34 underlying5 underlying9 (λj hj=>by obtain⟨b',e,h⟩:=hby j hj;cases e;exact h);rw[HLT.o]at hcv;refine d.out _ _ ⟨f.q.a0,f.q.p.q0⟩ λ_=>?_
       clear d u hby hr5 OO;refine dJ 8 (λu d=>?_);go_simp;refine d.out _ _ ⟨f.q.a0,f.q.p.q0⟩ λ_=>?_
       clear d u hcv;refine dJ 9 (λu d=>?_);go_simp;refine d.out _ _ ⟨yy f.q.a0 _,yy f.q.p.q0 _⟩ λ_=>?_
       clear d u;refine dJ 10 (λu d=>?_);rw[yV xV];change kd _ _ _ (W5.alloc (.cells [_].toArray _)) _ _
       refine jf fY [_] 1 f.q.p.cC (by show cs.length+1<=_;omega) ?_;intro v2 W7 DQ PI;have nA:¬zH vC A:=λq=>by have:=xA f.q.p.cC q;rw[f.q.tA]at this;simp at this
       have nQ:¬zH vC Q:=λq=>by have:=xA f.q.p.cC q;rw[f.q.tQ]at this;simp at this
       have a7:=PI.cell f.q.a0 nA;have q7:=PI.cell f.q.p.q0 nQ;have z7:W7.frozen? (Q,0)=false:=(PI.frozen (a:=(Q,0)) (uO f.q.tQ) nQ).trans (f.q.qz 0);obtain⟨va,vc,rfl⟩:=zn DQ;have h7:=f.const (t:=C.take n1) DQ PI;simp only[QU]at h7;have HP7:=Z h7;clear DQ PI nA nQ f h7;refine d.out _ _ ⟨a7,q7⟩ λ_=>?_
       clear d u;refine dJ 11 (λu d=>?_);go_simp;refine d.out _ _ ⟨a7,q7⟩ λ_=>?_
       clear d u;refine dJ 12 (λu d=>?_);go_simp;refine d.out _ _ ⟨a7,q7⟩ λ_=>?_
       clear d u;refine FT 13 (λu d=>?_);go_simp;refine d.out _ _ ?_;clear d u;refine FW ?_ _;clear a7 q7 z7 a4 q4 HT HPD U;go_wp2;go_roundw
       case rel=>exact⟨i+1,cs++[C.take n1],C.drop n1,_,uN,J,by simp[QU],HP7.o,HC5.o,λc hc=>by
        rcases zS.1 hc with q|q
        .exact HCS.o c q
        .rw[zJ]at q;rw[q,HLT.o];exact DX⟩
       case measure=>simp only[intOf];omega
      .have HB:=Z (show qf l=none by rw[E.o,<-HC4.o,yz (λq=>Ib q.2)]);have HT:=Z (CY RL.rd Ib J);have ha3:=RL.q.a0;have Te:=RL.q.az;have HB3:=Z RL.q.dG;clear RL Ib HP;go_wp2_with fail;refine rkb 2 (λW':z8=>zu W' A 0 (zU Q 0)/\zu W' Q 0 vC) 13 [0,1,2,3,4,5,6] 7 (λ_ _ _ _ _ hd h=>SS hd h) ⟨a4,q4⟩ ?_;(iterate 7 (refine ty ?_;try simp only[pl]))
       refine yS ?_;refine dJ 7 (λu d=>?_);go_simp;refine HT.o.mono ?_;rintro e W5 ⟨⟨B,rfl,ho⟩,rfl⟩;show OU Tryz.prog Tryz.f32 (YY l w) (.panic (_::B)) _ _;exact KO HAe.o ha3 Te ho HB3.o HB.o
     .have vm1:(1000:Int)<(n1:Int):=(by omega);have HB:=Z (show qf l=none by rw[E.o,<-HC4.o,yz (λq=>DX q.1)]);have a4:=U.o.q.a0;have az4:=U.o.q.az;have HE:=Z (yw a4 (.pointer none));have EX:=Z (U.o.q.dG.setCell (show (w:Nat)<=(xjy A 0 none).block from U.o.q.lA) (.pointer none));clear DX HC4;exact iU
   .have vm0:¬(i:Int)<(m:Int):=(by omega);have hmi:m - i=0:=J;rw[hmi]at hrc;have HRF:=Z (show qf l=zn9 cs l2 by rw[E.o,<-hrc,bO]);have HP:=Z hp;have HN:=Z (fW hp.rd 2 zR);clear hp hrc hmi E HP3 uD D QU;go_wp2_with fail;refine HN.o.mono ?_;rintro e W4 ⟨H,hf⟩;cases Df:uY 2 l2 with
    |none =>
     rw[Df]at H;obtain⟨B,rfl,ho⟩:=H;have HO:=Z ho;have HB:=Z (show qf l=none by rw[HRF.o,zn9,Df]);exact ydy
    |some p =>
     obtain⟨full,C⟩:=p;rw[Df]at H;obtain⟨rfl,El⟩:=H;have Rp:=HP.o.read El hf;have hfl:full<65536:=(fQ Df).2;have r1:=Rp.r1;have rz:=Rp.rz rfl;have I:=Z (Rp.vld (f2:=full));have HRG:=Z (show qf l=(if full=C.length/\full≠0 then (match ft full C.length C with|none=>none|some code=>if fg cs code=true then some (cs,code)else none)else none)by rw[HRF.o,zn9,Df]);clear Rp El hf HN Df HRF;obtain⟨W6,O⟩:=zr (W4.setCell (zU R 1) full);have HW6:=Z O;rw[O]at I;clear O;go_wp2_with fail;rw[HW6.o];obtain⟨rb,rc,c0,vm2,vm3,-⟩:=I.o.rd.ex;obtain⟨N3,hN3⟩:=zr C.length;rw[hN3]at c0;have c1:=I.o.r1;have a5:=I.o.q.a0;have z5:=I.o.q.az;have HN3:=Z hN3;rw[hN3]at HRG;clear hN3 vm2 vm3 r1 rz;have N6:full=N3/\full≠0\/(full≠N3\/full=N3/\full=0):=J;rcases N6 with⟨Ue,ZE⟩|yjv
     .subst Ue;have e2:((full:Int)=0)=False:=(by simp;omega);have e3:((full:Int)==0)=false:=yJ;have HRI:=Z (show qf l=(match ft full full C with|none=>none|some code=>if fg cs code=true then some (cs,code)else none)by rw[HRG.o,yV ⟨rfl,ZE⟩]);clear HRG;refine j5 ?_;refine V1 (λW':z8=>zu W' R 0 (.slice (some rb) full rc)/\zu W' R 1 full) [0,1,2,3,4,5,6,7,8,9,10,11,12,13,14,15,16] 0 ⟨c0,c1⟩ ?_;refine Y3 ?_ _;refine je ?_;have K:=Z (I.o.same (Fr.refl yH W6).drew);have ON:full<=65535:=J;clear c0 c1 a5 z5 I e2 e3 hfl HW6;go_wp2_with fail;go_loopg [] full (λfu wr2=>∃(code:List uG) (l4:Wd) (vI:Value) (rs:List (Value×Value)),Cm A Q R b.block M cs code l4 full vC vI rs w wr2/\l4.length<=fu/\code.length+fu<=full/\ft full full C=(ft full fu l4).map (λc=>code++c))
      case atStart=>exact⟨[],C,_,[],K.o,by rw[HN3.o];exact Y _,zZ,zZ⟩
      case round =>
       obtain⟨code,l4,vI,rs,hp,hl4,hcf,hri⟩:=hrel;have HP:=Z hp;obtain⟨b4,k4,c0,hk1,hk2,-⟩:=hp.rd.ex;have L:=Z hri;cases l4 with
       |nil =>
        have HRE:=Z (show ft full full C=some code by rw[hri];cases gk<;>simp[ft]);obtain⟨d1,d2,-⟩:=Is full full C code (by rw[HN3.o];exact ON) (by rw[HN3.o];exact Y _) HRE.o;have hct:tgN code<=65535:=by
         have:=zn8 code d2;rw[<-d1,HN3.o]at this;exact zj this ON
        have HVF:=Z (Np (s:=⟨cs,code,0⟩) hp.q.p d2 (HH.o.2.2.dG hp.q.dG) HCS.o (by show code.length<=65535;omega) (by show tgN code<=1000000;omega));have a0:=hp.q.a0;have az:=hp.q.az;clear hp hk1 hk2 hri L d1 d2 hct;go_wp2_with fail;refine HVF.o.mono ?_;rintro e W8 ⟨rfl,hf8⟩;have T:=Z (HP.o.same hf8);clear hf8 HVF a0 az c0;have a0:=T.o.q.a0;have az:=T.o.q.az;cases hv:fg cs code
        .have HB:=Z (show qf l=none by rw[HRI.o,HRE.o];show(if fg cs code=true then _ else none)=none;rw[hv];rfl);have HE:=Z (yw a0 (.pointer none));have EX:=Z (T.o.q.dG.setCell (show (w:Nat)<=(xjy A 0 none).block from T.o.q.lA) (.pointer none));clear hv;exact iU
        .have HB:=Z (show qf l=some (cs,code)by rw[HRI.o,HRE.o];show(if fg cs code=true then some (cs,code)else none)=_;rw[hv];rfl);clear hv;go_wp2;try rw[Gw a0]
         refine zy8 HAe.o a0 (λVk hb=>?_);unfold YY;rw[HB.o];exact⟨⟨Q,vC,vI,rs,M,rfl,T.o.q.p.fr (Fr.of (F:=yH) hb),T.o.q.lQ⟩,T.o.q.dG.trans (hb.mono T.o.q.dG.size)⟩
       |cons c l5 =>
        have PX:(0:Int)<((l5.length+1:Nat):Int):=J;have HN:=Z (yjx (full:=full) hp.rd hp.r1 (by have:=hp.rd.ex;omega) J (HH.o.2.2.dG hp.q.dG) (zD hp.Jm hp.q.dG.size));have y:∃g1,gk=g1+1:=⟨gk - 1,by simp only[zY]at hl4;omega⟩;obtain⟨g1,rfl⟩:=y;clear hp hk1 hk2 hri;go_wp2_with fail;refine HN.o.mono ?_;rintro e W5 ⟨H,hf⟩;cases hx:YA full (c::l5) with
        |none =>
         rw[hx]at H;obtain⟨B,rfl,ho⟩:=H;have HO:=Z ho;have HB:=Z (show qf l=none by rw[HRI.o,L.o,ft,hx];rfl);have ha3:=hf.cell HP.o.q.a0 (λe=>HP.o.nR.2.1 e.symm);have Te:=(hf.frozen (a:=(zU A 0)) (X _ _ HP.o.q.a0) (λe=>HP.o.nR.2.1 e.symm)).trans HP.o.q.az;have HB3:=Z (HP.o.q.dG.trans (hf.low (λq e=>by rw[e];exact HP.o.lR) HP.o.q.dG.size));clear HN hx hf ho;go_wp2;exact KO HAe.o ha3 Te HO.o HB3.o HB.o
        |some p =>
         obtain⟨x,l6⟩:=p;rw[hx]at H;obtain⟨⟨kv,tv,rfl,hk,ht,V,hlo⟩,hr5,Dk,TH⟩:=H;obtain⟨kva,kvb,kvc,rfl⟩:=jo hk;obtain⟨tva,tvb,tvc,rfl⟩:=jo ht;have f:=HP.o.xnj hr5 hf Dk TH ZE;have HX:=Z hx;obtain⟨hpe,-,hpx⟩:=S9 (by simp only[zY]at hl4|-;omega) hx;have Pq:l6.length<=g1:=by
          have h1:=congrArg xD hpe;have h2:=Rt x;rw[zy]at h1;omega
         have znx:∀q,zH (.slice kva kvb kvc) q\/zH (.slice tva tvb tvc) q->(w:Nat)<=q:=λq a=>zj HP.o.q.dG.size (hlo q a)
         have hdj:∀r∈rs,∀q,zH r.1 q\/zH r.2 q->¬(zH (.slice kva kvb kvc) q\/zH (.slice tva tvb tvc) q):=λr hr q a bq=>by
          have:=(HP.o.q.row hr a).2;have:=hlo q bq;omega
         have B7:=Z (show ft full full C=(ft full g1 l6).map (λc=>(code++[x])++c)by rw[L.o,ft,hx];simp[Function.comp_def]);obtain⟨W6',O⟩:∃W',W5.alloc (.cells #[x.op,x.pos,x.v,.slice kva kvb kvc,.slice tva tvb tvc] 87)=W':=⟨_,rfl⟩;have f56:Fr yH yH W5 W6':=(by rw[<-O];exact(Fr.refl _ _).alloc _);have ci:=λj=>zf W5 #[x.op,x.pos,x.v,.slice kva kvb kvc,.slice tva tvb tvc] 87 (0,0) j
         rw[O]at ci;have z:=f.same f56;have hk6:=f56.own hk (λ_ _=>id);have ht6:=f56.own ht (λ_ _=>id);obtain⟨ia,ic,rfl⟩:=zn z.q.p.cI;have hpu:=(z.q.p.mp.keep (w':=W6'.drew) rfl).put x.pos J code.length J (by show code.length<=_;omega);obtain⟨w1,hpu,Um,y⟩:=hpu;have a6:=z.q.a0;have q61:=z.q.p.q1;have q62:=z.q.p.q2;have hI6:=z.q.p.cI;have fm:Fr (· = M) (· = M) W6' w1:=⟨y.os,y.tape,y.output,y.size,λk hk hn=>y.block k hk (λe=>hn (zL e)),λ_ q => .inl q⟩;have Rj:(wr:Nat)<=(W5:Nat):=hf.size;have s5:(W5:Nat)≠M:=(by have:=f.q.p.mp.lt;omega);have i0:=fm.cell (ci 0) s5;have i1:=fm.cell (ci 1) s5;have i2:=fm.cell (ci 2) s5;have i3:=fm.cell (ci 3) s5;have i4:=fm.cell (ci 4) s5;have tM:=UM z.q.p.mp;have aM:A≠M:=λe=>by have:=z.q.tA;rw[e,tM]at this;cases this
         have qM:Q≠M:=λe=>by have:=z.q.tQ;rw[e,tM]at this;cases this
         have vM:∀g,zH (.slice ia code.length ic) g->g≠M:=λg a e=>by have:=xA hI6 a;rw[e,tM]at this;cases this
         have a7:=fm.cell a6 aM;have q71:=fm.cell q61 qM;have q72:=fm.cell q62 qM;have hI7:=fm.own hI6 vM;have HG6:=Z (show W6'.grownBy w1 (some M) from⟨y.os,y.tape,y.output,y.size,y.block⟩);have K:=Z (zg z (zg hk6 (zg ht6 (zg V (zg znx (zg hdj (zg Um Pq)))))));have HI7:=Z hI7;have c61:=ci 1;simp only[gV,qa,qA]at c61 i0 i1 i2 i3 i4;clear hr5 Dk TH HN hx c0 hpx Pq znx hdj f56 ci z hk6 ht6 f hk ht V hlo hI6 hI7 y fm tM Um hf;go_wp2_with fail;try rw[O]
         have sz6:(W6':Nat)=(W5:Nat)+1:=(by rw[<-O];simp);have HS6:=Z (zg sz6 Rj);clear O sz6 hpe Rj;obtain⟨T8,hT8⟩:=zr (W5:Nat);rw[hT8]at c61 i0 i1 i2 i3 i4 s5 HS6;try rw[hT8]
         clear hT8;refine j5 ?_;refine V1 (λW':z8=>zu W' A 0 (zU Q 0)/\zu W' Q 1 (.slice ia code.length ic)/\zu W' Q 2 (.map (some M))/\zu W' T8 1 x.pos) [0,1,2,3,4,5,6,7,8,9,10] 1 ⟨a6,q61,q62,c61⟩ ?_;refine gX 11 (λu d=>?_);go_simp;refine d.out _ _ ⟨a7,q71,q72,i1⟩ λ_=>?_
         clear d u;refine Y3 ?_ _;refine je ?_;clear a6 q61 q62 c61 hpu;go_wp2_with fail;refine j5 ?_;refine DN (λW':z8=>zu W' A 0 (zU Q 0)/\zu W' Q 1 (.slice ia code.length ic)/\zu W' T8 0 x.op/\zu W' T8 1 x.pos/\zu W' T8 2 x.v/\zu W' T8 3 (.slice kva kvb kvc)/\zu W' T8 4 (.slice tva tvb tvc)) 10 [0,1,2,3,4,5] 5 ⟨a7,q71,i0,i1,i2,i3,i4⟩ ?_;refine dJ 6 (λu d=>?_);go_simp;refine d.out _ _ ⟨yy (show w1.drew.cell? _=_ from a7) _,yy (show w1.drew.cell? _=_ from q71) _,yy (show w1.drew.cell? _=_ from i0) _,yy (show w1.drew.cell? _=_ from i1) _,yy (show w1.drew.cell? _=_ from i2) _,yy (show w1.drew.cell? _=_ from i3) _,yy (show w1.drew.cell? _=_ from i4) _⟩ λ_=>?_
         clear d u;refine dJ 7 (λu d=>?_);rw[yV xV];change kd _ _ _ (w1.drew.alloc (.cells [_,_,_,_,_].toArray _)) _ _
         refine jf Rx [_,_,_,_,_] 1 (HI7.o:w1.drew.ownsRow _ _ _ _ _ _) (by show code.length+1<=_;omega) ?_;intro v2 w2 DQ xo5;have G:=xo5.und;have nA:¬zH (.slice ia code.length ic) A:=λq=>by have:=xA K.o.1.q.p.cI q;rw[K.o.1.q.tA]at this;simp at this
         have nQ:¬zH (.slice ia code.length ic) Q:=λq=>by have:=xA K.o.1.q.p.cI q;rw[K.o.1.q.tQ]at this;simp at this
         have nT:¬zH (.slice ia code.length ic) T8:=λq=>by have:=uj HP.o.q.p.cI q;have:=HS6.o.2;omega
         have fm:Fr (· = M) (· = M) W6' w1:=⟨HG6.o.os,HG6.o.tape,HG6.o.output,HG6.o.size,λk hk hn=>HG6.o.block k hk (λe=>hn (zL e)),λ_ q => .inl q⟩;have lQ1:Q<(w1:Nat):=X _ _ q71;have z2:w2.frozen? (Q,1)=false:=(G.frozen (a:=(Q,1)) lQ1 nQ).trans ((fm.frozen (a:=(Q,1)) (uO K.o.1.q.tQ) qM).trans (K.o.1.q.qz 1));obtain⟨h6,hk6,ht6,V,znx,hdj,Um,Pq⟩:=K.o;have HM:=Z (zg (h6.more hk6 ht6 V znx hdj Um HG6.o DQ G) Pq);obtain⟨v2a,v2c,rfl⟩:=zn DQ;have b0:=G.cell a7 nA;have b1:=G.cell q71 nQ;have j0:=G.cell i0 nT;have j1:=G.cell i1 nT;have j2:=G.cell i2 nT;have j3:=G.cell i3 nT;have j4:=G.cell i4 nT;clear h6 hk6 ht6 V znx hdj Um Pq DQ xo5 G nA nQ nT fm lQ1 i0 i1 i2 i3 i4 a7 q71 q72;refine d.out _ _ ⟨b0,b1,j0,j1,j2,j3,j4⟩ λ_=>?_
         clear d u;refine dJ 8 (λu d=>?_);go_simp;refine d.out _ _ ⟨b0,b1,j0,j1,j2,j3,j4⟩ λ_=>?_
         clear d u;refine dJ 9 (λu d=>?_);go_simp;refine d.out _ _ ⟨b0,b1,j0,j1,j2,j3,j4⟩ λ_=>?_
         clear d u;refine FT 10 (λu d=>?_);go_simp;refine d.out _ _ ?_;clear d u;refine FW ?_ _;refine je ?_;clear b0 b1 j0 j1 j2 j3 j4 z2;go_wp2;go_roundg g1
         case rel=>exact⟨code++[x],l6,_,_,HM.o.1,HM.o.2,by rw[zy,gU];omega,B7.o⟩
         case measure=>omega
     .have HB:=Z (show qf l=none by rw[HRG.o,yz J]);have HE:=Z (yw (show W6.drew.cell? (zU A 0)=_ from a5) (.pointer none));have EX:=Z ((show yD w w W6.drew from I.o.q.dG.drew).setCell (show (w:Nat)<=(xjy A 0 none).block from I.o.q.lA) (.pointer none));rcases yjv with Ue|⟨Ue,ZE⟩
      .have e1:((full:Int)=(N3:Int))=False:=(by simp;omega);have e3:((full:Int)==(N3:Int))=false:=yJ;have e4:((full:Int) !=(N3:Int))=true:=yJ;have e5:decide ((full:Int)=(N3:Int))=false:=yJ;refine j5 ?_;refine V1 (λW':z8=>zu W' R 0 (.slice (some rb) N3 rc)/\zu W' R 1 full) [0,1,2,3,4,5,6,7,8,9,10,11,12,13,14,15,16] 0 ⟨c0,c1⟩ ?_;refine Y3 ?_ _;refine je ?_;exact iU
      .subst Ue ZE;refine j5 ?_;refine V1 (λW':z8=>zu W' R 0 (.slice (some rb) 0 rc)/\zu W' R 1 (.int .i64 0)) [0,1,2,3,4,5,6,7,8,9,10,11,12,13,14,15,16] 0 ⟨c0,c1⟩ ?_;refine Y3 ?_ _;refine je ?_;exact iU
def si{b:yM}{l:Wd}(h:Hb w b l n c)(a:qj w) :
  zC Tryz.prog 32 #[.slice (some b) n c] w (YY l w):=by
 cases hb:NC l with
 |true =>
  refine(sT h hb).mono ?_;rintro e w' ⟨rfl,d⟩;refine⟨?_,d⟩;have:qf l=none:=by unfold qf Sz;rw[hb];rfl
  rw[this]
 |false=>exact eC h hb a
variable{gr mi po:Int}{dg:List UInt8}{fi:Nat}
structure sr(P q g mb:Nat)(s:MkS)(vC vI:Value)(rs:List (Value×Value))(mi po gr:Int)(fi ne:Nat)(dg:List UInt8)(cv ov:Value)(w:z8):Prop where
 p0:zu w P 0 (q,0)
 p1:zu w P 1 (g,0)
 prog:ug q s vC vI rs mb w
 gl:g<(w:Nat)
 loc:Hx w g mi po gr fi ((if ne=0 then fi else ne:Nat):Int) (xz (Kp dg))
 g0:zu w g 0 cv
 g1:zu w g 1 ov
def sr.below{P g:Nat}{rs:List (Value×Value)}{ne:Nat}(h:sr P q g mb s vC vI rs mi po gr fi ne dg cv ov w)(hb:zP w w'):sr P q g mb s vC vI rs mi po gr fi ne dg cv ov w':=yb8
def sr.all{P g:Nat}{rs:List (Value×Value)}{ne:Nat}(h:sr P q g mb ⟨(MkS.all f).cs,(MkS.all f).code,n⟩ vC vI rs mi po gr fi ne dg cv ov w):CB P q g mb f vC vI rs mi po gr fi ne dg cv ov w :=
 ⟨h.p0,h.p1,⟨h.prog.q0,h.prog.q1,h.prog.q2,h.prog.cC,h.prog.cI,h.prog.rows,h.prog.mp⟩,h.gl,h.loc,h.g0,h.g1⟩
def ycj(kn:Bool)(r:Option (List Wd×List uG))(mi po gr:Int)(fi ne:Nat)(dg:List UInt8)(Qc Qo:z8->Value->Prop)(er:Nat->Value)(w:z8)(e:xU)(w':z8):Prop :=
 zP w w' /\
 if kn=false then e = .returned (.tuple #[.pointer none,er 8])
 else match r with
  |none=>e = .returned (.tuple #[.pointer none,er 14])
  |some (cs,code)=>∃P q g mb vC vI rs cv ov,e = .returned (.tuple #[.pointer (some ⟨P,0,none⟩),er 0])/\sr P q g mb ⟨cs,code,0⟩ vC vI rs mi po gr fi ne dg cv ov w'/\(∀W,zP w' W->Qc W cv)/\∀W,zP w' W->Qo W ov
def sw{b:yM}{l:Wd}(c o:Value)(ra rb:Bool)(mi po gr:Int)(fi ne:Nat)(dg:ByteArray)(v x:z8->Value->Prop)(w:z8)(hd:dg.size<=1000000)(y:fi<=255)(z:ne<=255)
  (hc:qe w c ra v) (E:qe w o rb x) (j:(∃a n k,c = .slice a n k)/\∃a n k,o = .slice a n k) (B:Zn w) (D:Hb w b l n k) :
  zC Tryz.prog 18 #[.slice (some b) n k,Hv c o mi po gr fi ne dg] w (ycj (xS ra rb mi po gr fi ne dg.data.toList) (qf l) mi po gr fi ne dg.data.toList v x (λn=>if n=0 then .nilIface else aw n) w):=by
 obtain⟨G,I,u,A,H⟩:=Jl hc E j B D;clear hc E j B D;go_enter func18,ntmps18;go_wp2_with fail;refine yo ?_;intro W hW;have hb:zP w W:=Qd;clear hW;refine(C6 c o ra rb mi po gr fi ne dg v x W hd y z (G.o.later hb) (I.o.later hb) u.o (A.o.below hb).tabs.rW).mono ?_;rintro e w1 ⟨qE,Ft⟩;have XE:zP w w1:=hb.trans (qE.mono hb.size);obtain⟨M,h⟩:=zr (xS ra rb mi po gr fi ne dg.data.toList);rw[h]at Ft;have oF:=Z h;clear h;cases M
 .exact zju
 .rw[yV rfl]at Ft;obtain⟨g,cv,ov,rfl,K,Fg,C,c0,c1,s,t⟩:=Ft;obtain⟨HX,HQC,HQO,HC0,HC1⟩:=Jl C s t c0 c1;clear C s t hb qE c0 c1;obtain⟨r,hr⟩:=zr (qf l);have d:=Z (si (H.o.below XE) (A.o.below XE).Sq);unfold YY at d;rw[hr]at d;have HR:=Z hr;clear hr;go_wp2_with fail;refine d.o.mono ?_;rintro e w2 ⟨F,f⟩;have Qq:=XE.trans (f.mono XE.size);clear d;cases r with
  |none =>
   obtain rfl:=F;clear f;go_wp2;go_ret2
   exact A8
  |some p =>
   obtain⟨cs,code⟩:=p;obtain⟨q,vC,vI,rs,mb,rfl,m,L⟩:=F;have HPA:=Z m;clear m;go_wp2;go_ret2
   have LI:=λi=>zf w2 #[(q,0),(g,0)] 59 (0,0) i
   have KP:yD w2 w2 (w2.alloc (.cells #[(zU q 0),(zU g 0)] 59)):=(zv _ _).alloc (Y _) _;have LM:=f.trans (KP.mono f.size);have yiy:Fr yH yH w1 _:=Fr.of LM;refine⟨Qq.trans (KP.mono Qq.size),?_⟩;exact ydk
def tx{b:yM}{l:Wd}(c o:Value)(ra rb:Bool)(mi po gr:Int)(fi ne:Nat)(dg:ByteArray)(y z:z8->Value->Prop)(w:z8)(hd:dg.size<=1000000)(A:fi<=255)(B:ne<=255)
  (hc:qe w c ra y) (F:qe w o rb z) (s:(∃a n k,c = .slice a n k)/\∃a n k,o = .slice a n k) (D:Zn w) (E:Hb w b l n k) :
  zC Tryz.prog 9 #[.slice (some b) n k,Hv c o mi po gr fi ne dg] w (ycj (xS ra rb mi po gr fi ne dg.data.toList) (qf l) mi po gr fi ne dg.data.toList y z (λn => .int .i64 (n:Nat)) w):=by
 obtain⟨G,I,x,C,H⟩:=Jl hc F s D E;clear hc F s D E;go_enter func9,ntmps9;go_wp2_with fail;refine yo ?_;intro W hW;have hb:zP w W:=Qd;clear hW;refine(sw c o ra rb mi po gr fi ne dg y z W hd A B (G.o.later hb) (I.o.later hb) x.o (C.o.below hb) (H.o.below hb)).mono ?_;rintro e w1 ⟨i,f⟩;have d:zP w w1:=hb.trans (i.mono hb.size);have h:=C.o.below d;obtain⟨L,m⟩:=zr (xS ra rb mi po gr fi ne dg.data.toList);rw[m]at f;have oF:=Z m;clear m;cases L
 .rw[yV rfl]at f;subst f;have j:=Z (C4 8 w1 h.tabs.err);clear hb i h;go_wp2_with fail;refine j.o.mono ?_;rintro e w2 ⟨rfl,qY⟩;have Qq:=d.trans (qY.mono d.size);clear j qY;go_wp2;go_ret2
  refine⟨Qq,?_⟩;rw[yV oF.o];rfl
 .rw[yz zZ]at f;obtain⟨r,hr⟩:=zr (qf l);rw[hr]at f;have HR:=Z hr;clear hr;cases r with
  |none =>
   subst f;have j:=Z (C4 14 w1 h.tabs.err);clear hb i h;go_wp2_with fail;refine j.o.mono ?_;rintro e w2 ⟨rfl,qY⟩;have Qq:=d.trans (qY.mono d.size);clear j qY;go_wp2;go_ret2
   exact A8
  |some p =>
   obtain⟨cs,code⟩:=p;obtain⟨P,q,g,mb,vC,vI,rs,cv,ov,rfl,t,u,v⟩:=f;have j:=Z (UK w1);have K:=Z t;have HQ:=Z (zg u v);clear hb i h t u v;go_wp2_with fail;refine j.o.mono ?_;rintro e w2 ⟨rfl,qY⟩;have Qq:=d.trans (qY.mono d.size);have iD:=Z (K.o.below qY);clear j;go_wp2;go_ret2
   exact yb5
def gg(rs:List Int)(i:Nat):Nat:=((rs.take i).flatMap enc).length
section
variable {rs:List Int}
def tu(h:i<rs.length):gg rs (i+1)=gg rs i+(enc (zt rs i)).length:=by
 unfold gg;rw[yj h,yn,zy];have e:zt rs i=rs[i]:=zu4;rw[e];simp
def fX(h:i<=j):gg rs i<=gg rs j:=by
 unfold gg;have e:rs.take i=(rs.take j).take i:=by rw[List.take_take,Nat.min_eq_left h]
 rw[e];have:=Xx i (rs.take j);conv=>rhs;rw[<-this,yn,zy]
 omega
def znv(i n:Nat):gg rs (i+n)=gg rs i+(((rs.drop i).take n).flatMap enc).length:=by
 unfold gg;rw[List.take_add,yn,zy]
def F4:∀(n:Nat) (l:List Int),l.length<=n->((xy l).1.flatMap enc).length<=((l.take (xy l).2).flatMap enc).length
 | 0,l,h=>zfk
 |n+1,[],h=>A6
 |n+1,c::t,h=>by
  rw[xy.eq_def];simp only;split
  .next hc =>
   split
   .simp
   .next d u =>
    split
    .next hd =>
     have:=F4 n u Gx;rw[hc,hd];exact zg1
    .simp
  .have:=F4 n t Gx;exact zg1
def znu(h:zt rs i≠-1):i<rs.length:=yu λq=>h (by unfold zt;simp[ze,qT (yfd q)])
def znq{num:Bool}(h:zt rs i≠-1):(qv rs num i).1.length+gg rs i<=gg rs (qv rs num i).2:=by
 have hi:=znu h;have h1:=tu hi;unfold qv;split
 .show(enc (zt rs i)).length+gg rs i<=gg rs (i+1);omega
 .next a =>
  have a:zt rs i=39:=Classical.not_not.1 a;rw[a]at h1;split
  .have:=fX (rs:=rs) (show i+1<=i+2 by omega);show(enc 39).length+gg rs i<=gg rs (i+2);omega
  split
  .show(enc 39).length+gg rs i<=gg rs (i+1);omega
  .have h2:=F4 _ (rs.drop (i+1)) (Y _);have b:=znv (rs:=rs) (i+1) (xy (rs.drop (i+1))).2;show((xy (rs.drop (i+1))).1.flatMap enc).length+gg rs i<=gg rs (i+1+(xy (rs.drop (i+1))).2);omega
end
def SA(rs:List Int)(m:jH):Prop:=∀num i f j,m num i = .ok (f,j)->f.tb+gg rs i<=gg rs j
def Fo.xyk(f:Fo)(t:Wd):(f.ye t).tb<=f.tb+t.length:=by
 cases a:f.xJ with
 |none =>
  rw[qy f t a,Fo.fM];exact Gq
 |some s =>
  obtain⟨pre,h1,h2,b⟩:=vW f s a;rw[b,Fo.fM,show f.tb=(pre.app (.text s .nil)).tb from congrArg _ h1,Fo.fM];simp only[Fo.tb,zy];omega
section
variable {rs:List Int}
def xyj{num:Bool}(hm:∀m,msg=some m->SA rs m)(h:bH rs msg num i = .ok (f,j)):f.tb+gg rs i<=gg rs j:=by
 unfold bH at h;obtain⟨k,a,h1,h2⟩:=zG h;obtain⟨u,b,e,d⟩:=zG h2;obtain⟨w,q⟩:=NF h1;have r:=(yR e).2;have s:=ya rs a;cases msg with
 |none=>cases d
 |some m =>
  obtain⟨g,c,l,n⟩:=zG (show(m num b).then _=_ from d);obtain⟨u2,z,o,p⟩:=zG n;have x:=hm m rfl _ _ _ _ l;have t:=(yR o).2;have v:=ya rs z;cases p;have y:=fX (rs:=rs) (show i<=b by omega);have A:=fX (rs:=rs) (show c<=yt rs z by omega);exact Gq
def nG{num:Bool}(hm:∀m,msg=some m->SA rs m):∀(n:Nat) (acc:Fo) (i j:Nat) (f:Fo),q9 rs msg num n acc i = .ok (f,j)->f.tb+gg rs i<=acc.tb+gg rs j
 | 0,acc,i,j,f,h=>xc
 |n+1,acc,i,j,f,h=>by
  rw[q9]at h;split at h
  .cases h;exact Yc
  .obtain⟨g,q,h1,h2⟩:=zG h;have g2:=xyj hm h1;have k2:=nG hm n _ _ _ _ h2;rw[Fo.fM]at k2;omega
def xyg(hm:∀m,msg=some m->SA rs m)(h:gC rs msg i = .ok (f,j)):f.tb+gg rs i<=gg rs j:=by
 unfold gC at h;obtain⟨u,a,h1,h2⟩:=zG h;obtain⟨nm,b,y,g⟩:=zG h2;have B:=(yR h1).2;have C:=ya rs a;obtain⟨-,D⟩:=JD y;have E:=ya rs b;clear h h1 h2 y;split at g
 .obtain⟨u,z,k,e⟩:=zG g;have:=(yR k).2;cases e;exact zg9
 .obtain⟨N,c,k,e⟩:=zG g;have F:=jl k;have G:=ya rs (yt rs b+1);have H:=ya rs c;clear g k;split at e
  .obtain⟨u,z,v,w⟩:=zG e;have:=(yR v).2;cases w;exact zg9
  .split at e
   .cases e
   .next form x =>
    obtain⟨u,d,v,w⟩:=zG e;obtain⟨o,l,A,n⟩:=zG w;obtain⟨bs,q,p,r⟩:=zG n;obtain⟨u,z,s,t⟩:=zG r;have:=(yR v).2;have:=ya rs d;obtain⟨K,_⟩:=ND A;have b2:=nG hm _ _ _ _ _ p;have I:=(yR s).2;cases t;have L:=fX (rs:=rs) (show i<=l by omega);have M:=fX (rs:=rs) (show q<=j by omega);simp only[Fo.tb]at b2|-;omega
def Cn{num:Bool}(hm:∀m,msg=some m->SA rs m):∀(n:Nat) (acc:Fo) (i j:Nat) (f:Fo),vV rs msg num n acc i = .ok (f,j)->f.tb+gg rs i<=acc.tb+gg rs j
 | 0,acc,i,j,f,h=>xc
 |n+1,acc,i,j,f,h=>by
  rw[vV]at h;split at h
  .cases h;exact Yc
  next a =>
  split at h
  .obtain⟨g,q,h1,h2⟩:=zG h;have g2:=xyg hm h1;have k2:=Cn hm n _ _ _ _ h2;rw[Fo.fM]at k2;omega
  split at h
  .have k2:=Cn hm n _ _ _ _ h;have:=fX (rs:=rs) (show i<=i+1 by omega);rw[Fo.fM]at k2;simp only[Fo.tb]at k2;omega
  .have t2:=Fo.xyk acc (qv rs num i).1;have k2:=Cn hm n _ _ _ _ h;have b:=znq (num:=num) (λq=>a (.inl q));omega
def nF:∀n,SA rs (gH rs n)
 | 0,num,i,f,j,h=>by
  rw[gH]at h;simpa[Fo.tb]using Cn (λm e=>gJ) _ _ _ _ _ h
 |n+1,num,i,f,j,h=>by
  rw[gH]at h;simpa[Fo.tb]using Cn (λm e=>by cases e;exact nF n) _ _ _ _ _ h
end
def yjq(r:Int):(enc r).length=(yA r).length:=by
 have b:(yA r).length=(TQ r).length:=by unfold yA;simp
 rw[b];unfold enc Y1;by_cases hv:Dz r=true
 .have a:=hv;unfold Dz at a;simp at a;obtain⟨n,rfl⟩:∃n:Nat,r=n:=⟨r.toNat,J⟩;simp only[hv,if_true,VH];by_cases c1:n<0x80
  .rw[yV c1,Lib.encodeRuneZ_one J J];rfl
  .rw[yz c1];by_cases c2:n<0x800
   .rw[yV c2,Lib.encodeRuneZ_two J J];rfl
   .rw[yz c2];by_cases c3:n<0x10000
    .rw[yV c3,Lib.encodeRuneZ_three J];rfl
    .rw[yz c3,Lib.encodeRuneZ_four J J];rfl
 .have a:=hv;unfold Dz at a;simp at a;have c:TQ r=[239,191,189]:=by
   unfold TQ;rw[yz J,yz J,yz J,yz J]
  rw[c];simp only[hv,if_false,Vx];rfl
def nD:∀(l:List Int),(l.flatMap enc).length=((l.map yA).flatten).length
 |[]=>rfl
 |a::l=>by
  rw[zh,vE,zr4,zy,zy,nD l,yjq]
def nE:∀(n:Nat) (l:List UInt8),l.length<=n->((qV l).1.flatten).length<=l.length
 | 0,l,h=>by
  have:l=[]:=zN J;subst this;rw[kN];exact Yc
 |n+1,[],_=>by rw[kN];exact Y _
 |n+1,a::r,h=>by
  by_cases hs:xY (a::r)=0
  .rw[ZA hs];exact zQ _
  .rw[jV zZ hs,zr4,zy];have:=nE n ((a::r).drop (xY (a::r))) (by rw[yh];simp at h|-;omega);have e:=congrArg xD (Xx (xY (a::r)) (a::r));rw[zy]at e;omega
def znk(l:List UInt8):((xz l).flatMap enc).length<=l.length:=by
 rw[nD,G0 l.length l (Y _)];exact nE _ _ (Y _)
def yjk(h:xw l = .ok f):f.tb<=1000:=by
 unfold xw at h;split at h
 .cases h
 split at h
 .cases h
 next h1 _ =>
 cases hp:gu (xz l) with
 |error e=>rw[hp]at h;cases h
 |ok x =>
  rw[hp]at h;cases h;unfold gu at hp;obtain⟨g,q,h2,a⟩:=zG (show _=yzx (x.1,x.2)from hp);have hf:=nF 5 _ _ _ _ h2;have hb:=znk l;have he:gg (xz l) q<=((xz l).flatMap enc).length:=by
   have:=fX (rs:=xz l) (show q<=q+(xz l).length by omega);have e:gg (xz l) (q+(xz l).length)=((xz l).flatMap enc).length:=(by unfold gg;rw[yr J]);omega
  split at a
  .cases a;have:gg (xz l) 0=0:=rfl;omega
  .cases a
def eE(s:MkS):Prop:=∀t∈s.cs,t.length<=1000
def bz(s:MkS):Nat:=(qZ s.cs).length+s.pos
def Xr(s:MkS)(op v:Nat)(k tg:List Nat):bz (s.put op v k tg)=bz s+(xF ⟨op,s.pos,v,k,tg⟩).length/\(eE s->eE (s.put op v k tg)):=by
 refine⟨?_,λh=>h⟩;unfold bz MkS.put;simp only;omega
def Co(s:MkS)(t:Wd):bz (s.const t)<=bz s+2+t.length/\(eE s->t.length<=1000->eE (s.const t)):=by
 unfold MkS.const;split
 .exact⟨J,λh _=>h⟩
 .refine⟨?_,λh a x hx=>?_⟩
  .unfold bz;simp only[qZ,yn,zy,zh,xu6,jJ];rw[show(vy t.length).length=2 from rfl];omega
  .rcases zS.1 hx with q|q
   .exact h x q
   .rw[zJ]at q;rw[q];exact a
def Sa(l:List Nat)(s:MkS):bz (l.foldl (λs i=>MkS.xH s i 0) s)=bz s/\(l.foldl (λs i=>MkS.xH s i 0) s).cs=s.cs:=by
 rw[bN];obtain⟨-,h2,a⟩:=ke (l.map λi=>(i,0)) s;unfold bz;rw[h2,a];exact⟨rfl,rfl⟩
def O2:∀(f:Fo) (s:MkS) (acc:List Nat),(∀k∈f.keys,k.length<=17)->bz (MkS.vN f s acc).1<=bz s+19*f.keys.length/\(MkS.vN f s acc).2.length<=acc.length+f.keys.length/\(eE s->eE (MkS.vN f s acc).1)
 |.xR k _ _ r,s,acc,g=>by
  have h1:=g k (.head _);have h2:∀q∈r.keys,q.length<=17:=λq i=>g q (.tail _ i)
  rw[MkS.vN,show(Fo.xR k _ _ r).keys=k::r.keys from rfl];simp only[zY];split
  .obtain⟨a,b,c⟩:=O2 r s acc h2;exact⟨J,J,c⟩
  .obtain⟨a,b,c⟩:=O2 r (s.const k) (acc++[s.num k]) h2;obtain⟨d,e⟩:=Co s k;simp only[zy,gU]at b;exact⟨J,J,λh=>c (e h J)⟩
 |.nil,s,acc,_=>⟨Y _,Y _,id⟩
 |.text _ _,s,acc,_=>⟨Y _,Y _,id⟩
 |.hash _,s,acc,_=>⟨Y _,Y _,id⟩
 |.put _ _ _,s,acc,_=>⟨Y _,Y _,id⟩
 |.num _ _ _,s,acc,_=>⟨Y _,Y _,id⟩
 |.br _ _ _ _ _ _ _,s,acc,_=>⟨Y _,Y _,id⟩
def O3:∀(f:Fo) (s:MkS) (acc:List (Wd×Nat)),bz (MkS.vq f s acc).1<=bz s+7*f.keys.length/\(eE s->eE (MkS.vq f s acc).1)
 |.xR k _ _ r,s,acc=>by
  rw[MkS.vq,show(Fo.xR k _ _ r).keys=k::r.keys from rfl];simp only[zY];split
  .obtain⟨a,b⟩:=O3 r (s.put 7 (yg k.tail) [] [0]) (acc++[(k,s.code.length)]);obtain⟨c,d⟩:=Xr s 7 (yg k.tail) [] [0];have hx:(xF ⟨7,s.pos,yg k.tail,[],[0]⟩).length=7:=(by simp[xF,uW,ua,vy,j7]);exact⟨J,λh=>b (d h)⟩
  .obtain⟨a,b⟩:=O3 r s acc;exact⟨J,b⟩
 |.nil,s,acc=>⟨Y _,id⟩
 |.text _ _,s,acc=>⟨Y _,id⟩
 |.hash _,s,acc=>⟨Y _,id⟩
 |.put _ _ _,s,acc=>⟨Y _,id⟩
 |.num _ _ _,s,acc=>⟨Y _,id⟩
 |.br _ _ _ _ _ _ _,s,acc=>⟨Y _,id⟩
def eH(s:MkS)(op:Nat)(t:Wd)(h:op=1\/op=2\/op=3):bz (s.one op t)<=bz s+5+t.length/\(eE s->t.length<=1000->eE (s.one op t)):=by
 obtain⟨a,b⟩:=Co s t;obtain⟨c,d⟩:=Xr (s.const t) op 0 [s.num t] [];have hx:(xF ⟨op,(s.const t).pos,0,[s.num t],[]⟩).length=3:=zux;unfold MkS.one;exact⟨J,λh1 h2=>d (b h1 h2)⟩
def yjj(s:MkS)(i j:Nat):bz (s.xH i j)=bz s/\(s.xH i j).cs=s.cs:=⟨rfl,rfl⟩
def xyf(n o:Wd)(bs:Fo)(s0:MkS)(k:Wd)(s:MkS):bz (MkS.kZ n o bs s0 k s)=bz s/\(MkS.kZ n o bs s0 k s).cs=s.cs:=by
 rw[Xc];obtain⟨-,h2,a⟩:=ke (QC n o bs s0 k) s;unfold bz;rw[h2,a];exact⟨rfl,rfl⟩
def UN:∀(f:Fo) (e:Wd->MkS->MkS) (s:MkS) (ls:List Nat),(∀k s,bz (e k s)=bz s/\(e k s).cs=s.cs)->f.fit->f.tb<=1000->eE s->eE (MkS.ur f e s ls).1/\bz (MkS.ur f e s ls).1+23*f.keys.length<=bz s+f.uB
 |.nil,_,s,_,_,_,_,h=>⟨h,by simp[MkS.ur,Fo.keys,Fo.uB]⟩
 |.text t r,e,s,ls,hb,hf,g,h=>by
  simp only[Fo.tb]at g;obtain⟨a,b⟩:=eH s 1 t (.inl rfl);obtain⟨c,d⟩:=UN r e (s.one 1 t) ls hb hf J (b h J);exact⟨c,by simp only[Fo.keys,Fo.uB,MkS.ur,yF];omega⟩
 |.hash r,e,s,ls,hb,hf,g,h=>by
  simp only[Fo.tb]at g;obtain⟨a,b⟩:=Xr s 6 0 [] [];obtain⟨c,d⟩:=UN r e (s.put 6 0 [] []) ls hb hf g (b h);have hx:(xF ⟨6,s.pos,0,[],[]⟩).length=1:=I6;exact A1
 |.put n _ r,e,s,ls,hb,hf,g,h=>by
  simp only[Fo.tb]at g;have hn:=hf.1.1;obtain⟨a,b⟩:=eH s 2 n (.inr (.inl rfl));obtain⟨c,d⟩:=UN r e (s.one 2 n) ls hb hf.2 g (b h J);exact A1
 |.num n _ r,e,s,ls,hb,hf,g,h=>by
  simp only[Fo.tb]at g;have hn:=hf.1.1;obtain⟨a,b⟩:=eH s 3 n (.inr (.inr rfl));obtain⟨c,d⟩:=UN r e (s.one 3 n) ls hb hf.2 g (b h J);exact A1
 |.br n _ f o _ bs r,e,s,ls,hb,hf,g,h=>by
  simp only[Fo.tb]at g;obtain⟨f1,f2,f3,f4,f5,f6⟩:=hf;have hn:=f1.1;obtain⟨a,b⟩:=Co s n;have l:∀k∈bs.keys,k.length<=17:=λk l=>(f4 k l).1
  have j:=b h J;rw[MkS.ur];split
  .obtain⟨k1,k2,k3⟩:=O2 bs (s.const n) [s.num n] l;obtain⟨y,hy⟩:=MkS.Q7 bs (s.const n) (s.num n) [];obtain⟨p1,p2⟩:=Xr (MkS.vN bs (s.const n) [s.num n]).1 10 0 (MkS.vN bs (s.const n) [s.num n]).2 (zX (MkS.vN bs (s.const n) [s.num n]).2.length 0);have hS:MkS.kT n bs s=(MkS.vN bs (s.const n) [s.num n]).1.put 10 0 (MkS.vN bs (s.const n) [s.num n]).2 (zX (MkS.vN bs (s.const n) [s.num n]).2.length 0):=rfl;have hx:(xF ⟨10,(MkS.vN bs (s.const n) [s.num n]).1.pos,0,(MkS.vN bs (s.const n) [s.num n]).2,zX (MkS.vN bs (s.const n) [s.num n]).2.length 0⟩).length<=7+4*bs.keys.length:=by
    rw[hy,N1];rw[hy]at k2;simp at k2;omega
   obtain⟨g1,g2⟩:=UN bs (MkS.bL n bs s) (MkS.kT n bs s) [] (λk x=>yjj _ _ _) f5 J (by rw[hS];exact p2 (k3 j));obtain⟨z,q⟩:=Sa (MkS.ur bs (MkS.bL n bs s) (MkS.kT n bs s) []).2 (MkS.ur bs (MkS.bL n bs s) (MkS.kT n bs s) []).1;obtain⟨r1,r2⟩:=UN r e ((MkS.ur bs (MkS.bL n bs s) (MkS.kT n bs s) []).2.foldl (λs i=>MkS.xH s i 0) (MkS.ur bs (MkS.bL n bs s) (MkS.kT n bs s) []).1) ls hb f6 J (by unfold eE;rw[q];exact g1);have w:bz (MkS.kT n bs s)<=bz s+25+23*bs.keys.length:=(by rw[hS];omega);exact⟨r1,zuj⟩
  .obtain⟨p1,p2⟩:=Xr (s.const n) 4 (yg o) [s.num n] [];have h2:(xF ⟨4,(s.const n).pos,yg o,[s.num n],[]⟩).length=7:=(by simp[xF,uW,ua,vy,j7]);obtain⟨k1,k2⟩:=O3 bs ((s.const n).put 4 (yg o) [s.num n] []) [];have u:∀p,(xF ⟨if f=2 then 9 else 8,p,0,[],zX 6 0⟩).length=13:=λp=>by split<;>simp[xF,uW,ua,vy]
   obtain⟨q1,q2⟩:=Xr (MkS.vq bs ((s.const n).put 4 (yg o) [s.num n] []) []).1 (if f=2 then 9 else 8) 0 [] (zX 6 0);rw[u]at q1;have hS:MkS.kY n o f bs s=(MkS.vq bs ((s.const n).put 4 (yg o) [s.num n] []) []).1.put (if f=2 then 9 else 8) 0 [] (zX 6 0):=rfl;obtain⟨g1,g2⟩:=UN bs (MkS.kZ n o bs s) (MkS.kY n o f bs s) [] (λk x=>xyf n o bs s k x) f5 J (by rw[hS];exact q2 (k2 (p2 j)));obtain⟨z,q⟩:=Sa (MkS.ur bs (MkS.kZ n o bs s) (MkS.kY n o f bs s) []).2 (MkS.ur bs (MkS.kZ n o bs s) (MkS.kY n o f bs s) []).1;obtain⟨u1,u2⟩:=Xr ((MkS.ur bs (MkS.kZ n o bs s) (MkS.kY n o f bs s) []).2.foldl (λs i=>MkS.xH s i 0) (MkS.ur bs (MkS.kZ n o bs s) (MkS.kY n o f bs s) []).1) 5 0 [] [];have v:∀p,(xF ⟨5,p,0,[],[]⟩).length=1:=λp=>by simp[xF,uW,ua]
   rw[v]at u1;obtain⟨r1,r2⟩:=UN r e (((MkS.ur bs (MkS.kZ n o bs s) (MkS.kY n o f bs s) []).2.foldl (λs i=>MkS.xH s i 0) (MkS.ur bs (MkS.kZ n o bs s) (MkS.kY n o f bs s) []).1).put 5 0 [] []) ls hb f6 J (u2 (by unfold eE;rw[q];exact g1));have w:bz (MkS.kY n o f bs s)<=bz s+38+7*bs.keys.length:=(by rw[hS];omega);exact⟨r1,zuj⟩
 |.xR k a m r,e,s,ls,hb,hf,g,h=>by
  simp only[Fo.tb]at g;obtain⟨b1,b2⟩:=hb k s;obtain⟨g1,g2⟩:=UN m (λ_ s=>s) (e k s) [] (λ_ _=>⟨rfl,rfl⟩) hf.1 J (by unfold eE;rw[b2];exact h);obtain⟨p1,p2⟩:=Xr (MkS.Z7 m (e k s)) 11 0 [] [0];have hx:(xF ⟨11,(MkS.Z7 m (e k s)).pos,0,[],[0]⟩).length=3:=by simp[xF,uW,ua,vy]
  rw[go_leg];obtain⟨r1,r2⟩:=UN r e ((MkS.Z7 m (e k s)).put 11 0 [] [0]) (ls++[(MkS.Z7 m (e k s)).code.length]) hb hf.2 J (p2 g1);have hm:bz (MkS.Z7 m (e k s))<=bz (e k s)+m.uB:=by
   have:bz (MkS.Z7 m (e k s))=bz (MkS.ur m (λ_ s=>s) (e k s) []).1:=rfl;omega
  refine⟨r1,?_⟩;rw[show(Fo.xR k a m r).keys=k::r.keys from rfl];simp only[Fo.uB,zY];omega
def td(h:xw l = .ok f)(hc:fG f=none):qf (qG (MkS.all f))=some ((MkS.all f).cs,(MkS.all f).code):=by
 obtain⟨h1,h2,e,g,p⟩:=JN h hc;obtain⟨-,k,b⟩:=Qz h hc;obtain⟨-,j⟩:=CZ h hc;obtain⟨c1,c2⟩:=UN f (λ_ s=>s) MkS.start [] (λ_ _=>⟨rfl,rfl⟩) b (yjk h) (λt c=>by simp[MkS.start]at c);obtain⟨p1,p2⟩:=Xr (MkS.Z7 f MkS.start) 0 0 [] [];have hx:(xF ⟨0,(MkS.Z7 f MkS.start).pos,0,[],[]⟩).length=1:=I6;have a:bz (MkS.all f)<=f.uB+1:=by
  have m:bz (MkS.all f)=bz ((MkS.Z7 f MkS.start).put 0 0 [] []):=rfl;have n:bz (MkS.Z7 f MkS.start)=bz (MkS.ur f (λ_ s=>s) MkS.start []).1:=rfl;have o:bz MkS.start=0:=rfl;omega
 have i:=SP.all f rfl;have d:(qG (MkS.all f)).length=11+(qZ (MkS.all f).cs).length+(xQ (MkS.all f).code).length:=by
  simp[qG,jZ,qJ,j7,vy];omega
 unfold bz at a;exact cO _ (zlq e g J (λt c=>p2 c1 t c) J) (CT h hc)
variable{E:jd Unit}
def Lu{b:yM}{l:Wd}{c:Value}(h:gO w)(hA:V8 w c o)(hr:um t = .ok f)(hx:qG (MkS.all f)=l)(p:Hb w b l n k) :
  zC Tryz.prog 9 #[.slice (some b) n k,zn3 c o] w λe w'=>zP w w'/\∃P q g mb vC vI rs,e = .returned (.tuple #[.pointer (some ⟨P,0,none⟩),.int .i64 0])/\JI P q g mb f vC vI rs sP w':=by
 refine(tx c o true true 45 46 44 3 0 ⟨#[]⟩ _ _ w zR zR zR (ZG Kj Ca c w hA.c zR fK.1 h.rt h.cmp.names bP.1) (ZG Nw Cc o w hA.o zR fK.2 h.rt h.cmp.names bP.2) ⟨hA.c.slice,hA.o.slice⟩ h.cmp p).mono ?_;rintro e w1 ⟨i,d⟩;obtain⟨r1,r2⟩:=UB hr;obtain⟨v1,v2,v3,v4,v5⟩:=JN r1 r2;rw[yz (by rw[Gh];decide),<-hx,td r1 r2]at d;obtain⟨P,q,g,mb,vC,vI,rs,cv,ov,rfl,a,j,m⟩:=d;have a:=a.all;exact⟨i,P,q,g,mb,vC,vI,rs,rfl,a.p0,a.p1,a.prog,nX a (j w1 (zv _ _)) (m w1 (zv _ _)),v1,CT r1 r2,v3,v4,v5⟩
def oe{z:Nat}{fm:Wd->Option (Wd×Bool)}{s:Wd}(h:CF E f z fm s k)(h2:CF E f z fm t j):s=t/\k=j:=by
 unfold CF at h h2;rcases h with⟨a1,a2⟩|⟨a1,a2,a3⟩
 .rcases h2 with⟨b1,b2⟩|⟨b1,_⟩
  .split at a2
   .next he =>
    exact zug
   .next he =>
    exact zug
  .exact absurd a1 b1
 .rcases h2 with⟨b1,_⟩|⟨_,b2,b3⟩
  .exact absurd b1 a1
  .exact⟨a2.trans b2.symm,a3.trans b3.symm⟩

abbrev zI(c:UInt8):Int:=((c.toNat:Nat):Int)
def eI:∀k:Fin 128,enc (k.val:Int)=[uC k.val]:=zR
def ycg{c:UInt8}(h:c.toNat<=127):enc (zI c)=[c]:=by
 have:=eI ⟨c.toNat,J⟩;simpa using this
def Z0:∀l:Wd,(∀c∈l,c.toNat<=127)->(l.map zI).flatMap enc=l
 |[],_=>rfl
 |c::t,h=>by
  rw[vE,zh,ycg (h c zZ),Z0 t (λx hx=>h x (by simp[hx]))];rfl
def tZ{c d:UInt8}(h:c≠d):zI c≠zI d:=λe=>h (Y6 (by simp only[zI]at e;omega))
variable{acc:Fo}{rs:List Int}
def EU{r:List Int}{x:Int}(h:rs.drop i=x::r):zt rs i=x:=by
 have:rs[i]? = some x:=by
  have h2:(rs.drop i)[0]? = some x:=by rw[h];rfl
  rw[TR]at h2;exact h2
 unfold zt;rw[ze,this];rfl
def xyd(h:rs.drop i=[]):zt rs i = -1:=by
 have:rs.length<=i:=List.drop_eq_nil_iff.1 h;unfold zt;rw[ze,qT this];rfl
def O4{r:List Int}{x:Int}(h:rs.drop i=x::r):rs.drop (i+1)=r:=by
 rw[<-Xy,h];rfl
def JR{r:List Int}(a:List Int)(h:rs.drop i=a++r):rs.drop (i+a.length)=r:=by
 rw[<-Xy,h];simp
def xo6{l:List Int}(h:rs.drop i=l)(k:Nat):zt rs (i+k)=l.getD k (-1):=by
 unfold zt;rw[ze,ze,<-h,TR]
def znj(S r:List Int)(h:rs.drop i=S++r)(hS:S.all gm=true)(hr:gm (r.headD (-1))=false):yt rs i=i+S.length:=by
 unfold yt;rw[h];congr 1;clear h;induction S with
 |nil =>
  cases r with
  |nil=>rfl
  |cons x r=>rw[List.headD_cons]at hr;rw[xK,wQ,hr];rfl
 |cons x S a =>
  rw[vh,zx]at hS;rw[xX,wQ,hS.1];simp only[if_true,zY];rw[a hS.2]
def nH{F:Int->Nat->Bool}(hF:∀k,k<n->F (zt rs (i+k)) k=true)(he:F (zt rs (i+n)) n=false):∀f k,k<=n->n<f+k->U1 F rs i f k=n
 | 0,k,h1,h2=>J
 |f+1,k,h1,h2=>by
  rw[U1];by_cases a:k=n
  .subst a;rw[yz (by rw[he];decide)]
  .rw[yV (hF k J),nH hF he f (k+1) J J]
def ycf{F:Int->Nat->Bool}(N r:List Int)(h:rs.drop i=N++r)(hF:∀k,k<N.length->F (N.getD k (-1)) k=true)(he:F (r.headD (-1)) N.length=false):runN F rs i=N.length:=by
 have b:N.length<=rs.length:=zvg;refine nH (λk a=>?_) ?_ _ 0 (zQ _) J
 .rw[xo6 h,ze,za a,<-ze];exact hF k a
 .rw[xo6 h,ze,xq (Y _),Nat.sub_self];cases r<;>simpa using he
def nL(N r:List Int)(h:rs.drop i=N++r):ui rs i N.length=N.flatMap enc:=by
 unfold ui;rw[h];simp
def YE(N:List Int)(c:Int):Bool := !N.isEmpty && ((xB N.length).all λk=>jt (N.getD k (-1)) k) && !jt c N.length
def zng(N r:List Int)(h:rs.drop i=N++r)(a:YE N (r.headD (-1))=true):kO rs i = .ok (N.flatMap enc,i+N.length):=by
 unfold YE at a;simp only[zx,qu,zi,Y0]at a;have hn:ky rs i=N.length:=ycf N r h (λk b=>a.1.2 k b) a.2;unfold kO;rw[hn,yz (by cases N<;>simp at a|-),nL N r h]
def O5(N:List Int)(W:Wd){r:List Int}(h:rs.drop i=N++r)(b:YE N (r.headD (-1))=true)(a:N.flatMap enc=W)(hn:i+N.length=n):kO rs i = .ok (W,n):=by
 rw[zng N r h b,a,hn]
def bG(D:List Int)(c:Int):Bool := !D.isEmpty && decide (D.length<=9) && D.all vF && (decide (D.length=1) ||D.headD 0 !=48) && !vF c
def nM(D r:List Int)(h:rs.drop i=D++r)(c:bG D (r.headD (-1))=true):qO rs i = .ok (D.flatMap enc,i+D.length):=by
 unfold bG at c;simp only[zx,qu,zi,vJ,vR]at c;obtain⟨⟨⟨⟨h1,h2⟩,d⟩,b⟩,e⟩:=c;have f:zt rs i=D.headD 0:=by
  cases D with
  |nil=>simp at h1
  |cons x D=>exact EU h
 have hn:qk rs i=D.length:=by
  refine ycf D r h (λk a=>?_) (by unfold gx;rw[e];simp);have hm:vF (D.getD k (-1))=true:=by
   rw[ze,zk a];exact d _ (yf a)
  unfold gx;rw[hm,f];rcases b with b|b
  .have:k=0:=(by omega);subst this;simp
  .rw[b];simp;omega
 unfold qO;rw[hn,yz (by cases D<;>simp at h1|-),nL D r h]
def UO{r:List Int}{x:Int}(h:rs.drop i=x::r):uA rs x i = .ok ((),i+1):=by
 unfold uA;rw[yV (EU h)]
def FL{r:List Int}{x:Int}(h:rs.drop i=x::r)(hx:gm x=false):yt rs i=i:=znj [] _ h rfl hx
def Py{r:List Int}{x:Int}(h:rs.drop i=32::x::r)(hx:gm x=false):yt rs i=i+1:=znj [32] _ h zR hx
def xo7{r:List Int}{l z:Nat}{m:jH}{num:Bool}{k:Wd}(a:YV rs num i = .ok (k,j))(hb:rs.drop (yt rs j)=123::r)(b:l=yt rs j+1)(hm:m num l = .ok (f,z))(c:zt rs z=125):bH rs (some m) num i = .ok (.xR k i f .nil,yt rs (z+1)):=by
 subst b;unfold bH;rw[a,then_ok,UO hb,then_ok];show(m num (yt rs j+1)).then _=_;rw[hm,then_ok];unfold uA;rw[yV c];rfl
def znf{m:Option jH}{num:Bool}(h:zt rs i=125)(ha:acc.len≠0):q9 rs m num (n+1) acc i = .ok (acc,i):=by
 rw[q9,yV ⟨h,ha⟩]
def znd{m:Option jH}{num:Bool}(h:zt rs i≠125)(hf:bH rs m num i = .ok (f,j)):q9 rs m num (n+1) acc i=q9 rs m num n (acc.app f) j:=by
 rw[q9,yz (by intro q;exact h q.1),hf,then_ok]
def go_end{m:Option jH}{num:Bool}(h:zt rs i = -1\/zt rs i=125):vV rs m num (n+1) acc i = .ok (acc,i):=by
 rw[vV,yV h]
def go_arg{r:List Int}{m:Option jH}{num:Bool}(h:rs.drop i=123::r)(hf:gC rs m i = .ok (f,j)):vV rs m num (n+1) acc i=vV rs m num n (acc.app f) j:=by
 rw[vV,yz (by rw[EU h];decide),yV (EU h),hf,then_ok]
def go_hash{r:List Int}{m:Option jH}(h:rs.drop i=35::r):vV rs m true (n+1) acc i=vV rs m true n (acc.app (.hash .nil)) (i+1):=by
 rw[vV,yz (by rw[EU h];decide),yz (by rw[EU h];decide),yV ⟨EU h,rfl⟩]
def O6(n:Nat)(h:XJ n):enc (n:Int)=(if n<0x80 then [uC n]else if n<0x800 then [uC (0xC0+n / 64),uC (0x80+n % 64)]
   else if n<0x10000 then [uC (0xE0+n / 4096),uC (0x80+n / 64 % 64),uC (0x80+n % 64)]else [uC (0xF0+n / 262144),uC (0x80+n / 4096 % 64),uC (0x80+n / 64 % 64),uC (0x80+n % 64)]):=by
 have hv:Dz (n:Int)=true:=by unfold Dz;unfold XJ at h;simp;omega
 unfold enc Y1;simp only[hv,if_true,VH];repeat' split
 all_goals rfl
def EH(h:k<256):(uC k).toNat=k:=by rw[Ev,OQ J]
def yjg(n:Nat)(h:XJ n)(t:Wd):b8 (enc (n:Int)++t)=(n,(enc (n:Int)).length):=by
 obtain⟨h1,h2⟩:=h;rw[O6 n ⟨h1,h2⟩];unfold b8 jI;by_cases c1:n<128
 .rw[yV c1];have a:=EH (k:=n) J;simp only[xX,xK,Yb,a];rw[yV c1];rfl
 rw[yz c1];by_cases c2:n<2048
 .rw[yV c2];have a:=EH (k:=192+n / 64) J;have b:=EH (k:=128+n % 64) J;simp only[xX,xK,Yb,Fk,zY,a,b];rw[yz J,yV J,yV J];simp;omega
 rw[yz c2];by_cases c3:n<65536
 .rw[yV c3];have a:=EH (k:=224+n / 4096) J;have b:=EH (k:=128+n / 64 % 64) J;have c:=EH (k:=128+n % 64) J;simp only[xX,xK,Yb,Fk,zY,a,b,c];rw[yz J,yz J,yV J,yV J];simp;omega
 .rw[yz c3];have a:=EH (k:=240+n / 262144) J;have b:=EH (k:=128+n / 4096 % 64) J;have c:=EH (k:=128+n / 64 % 64) J;have d:=EH (k:=128+n % 64) J;simp only[xX,xK,Yb,Fk,zY,a,b,c,d];rw[yz J,yz J,yz J,yV (by omega),yV (by omega)];simp;omega
def FM(u:Int):Prop:=∃n:Nat,XJ n/\u=n
def UP{u:Int}(h:FM u):enc u≠[]:=by
 obtain⟨n,h1,rfl⟩:=h;rw[O6 n h1];repeat' split
 all_goals simp
def znb{u:Int}(h:FM u)(t:Wd):xY (enc u++t)=(enc u).length/\((b8 (enc u++t)).1:Int)=u:=by
 have h0:=UP h;obtain⟨n,h1,rfl⟩:=h;have hd:=yjg n h1 t;obtain⟨a,r,hr⟩:∃a r,enc (n:Int)++t=a::r:=by
  cases hx:enc (n:Int) with
  |nil=>exact absurd hx h0
  |cons a r=>exact⟨a,r++t,rfl⟩
 rw[hr]at hd|-;refine⟨?_,by rw[hd]⟩;rcases Jv a r with⟨k1,k2⟩|⟨k1,k2,k3⟩
 .rw[hd]at k2;obtain⟨d,b⟩:=Prod.mk.inj k2;have c:(enc (n:Int)).length=1->n<128:=by
   rw[O6 n h1];repeat' split
   all_goals simp_all
  have:=c b;omega
 .rw[k1,hd]
def Se:∀(us:List Int),(∀u∈us,FM u)->xz (us.flatMap enc)=us/\(qV (us.flatMap enc)).2=(us.flatMap enc).length
 |[],_=>Aq
 |u::us,h=>by
  have a:=h u zZ;obtain⟨h1,h2⟩:=Se us (λv hv=>h v (by simp[hv]));obtain⟨b,c⟩:=znb a (us.flatMap enc);have h0:=UP a;have d:=yv.2 h0;rw[zh,jO (by simp[h0]) J,jV (by simp[h0]) J,b,c];simp[h1,h2]
def qF:Nat->Wd
 | 0=>MA
 | 1=>Ma
 |_=>PN
def qB(num:Bool)(c:UInt8):Bool:=c==39 ||(c==123 ||(c==125 ||(c==35 && num)))
def kg(a:Wd):Wd:=a.flatMap λc=>if c=39 then [39,39]else [c]
def fZ(a:Wd):Wd:=if (a.any λc=>c !=39)=true then 39::(kg a++[39])else kg a
def TP(num:Bool):Nat->Wd->Wd
 | 0,_=>[]
 |n+1,s=>if s=[]then []else if s.takeWhile (qB num)=[]then s.take 1++TP num n (s.drop 1)else fZ (s.takeWhile (qB num))++TP num n (s.drop (s.takeWhile (qB num)).length)
def Kf(num:Bool)(s:Wd):Wd:=TP num s.length s
def prG(num:Bool):Nat->Wd->Wd
 | 0,_=>[]
 |n+1,s=>if s=[]then []else fZ (s.takeWhile (qB num))++((s.drop (s.takeWhile (qB num)).length).takeWhile (λc => !qB num c)++prG num n ((s.drop (s.takeWhile (qB num)).length).drop ((s.drop (s.takeWhile (qB num)).length).takeWhile (λc => !qB num c)).length))
def Cp(num:Bool):∀(n m:Nat) (s:Wd),s.length<=n->s.length<=m->TP num n s=TP num m s
 | 0,m,s,h,_=>by
  have:s=[]:=zN J;subst this;cases m<;>simp[TP]
 |n+1,0,s,_,h=>by
  have:s=[]:=zN J;subst this;simp[TP]
 |n+1,m+1,s,h1,h2=>by
  rw[TP,TP];by_cases hs:s=[]
  .rw[yV hs,yV hs]
  have a:=yv.2 hs;rw[yz hs,yz hs];by_cases ha:s.takeWhile (qB num)=[]
  .rw[yV ha,yV ha,Cp num n m (s.drop 1) yJ yJ]
  .have:=yv.2 ha;rw[yz ha,yz ha,Cp num n m _ yJ yJ]
def yjf(num:Bool):Kf num []=[]:=rfl
def yjd{num:Bool}{c:UInt8}(h:qB num c=false)(t:Wd):Kf num (c::t)=c::Kf num t:=by
 unfold Kf;rw[zY,TP,yz zZ,yV (by rw[dU (by simp[h])])];rfl
def nN{num:Bool}{s:Wd}(h:s.takeWhile (qB num)≠[]):Kf num s=fZ (s.takeWhile (qB num))++Kf num (s.drop (s.takeWhile (qB num)).length):=by
 have hs:s≠[]:=λe=>by subst e;exact h rfl
 have:=yv.2 h;have hp:=yv.2 hs;unfold Kf;obtain⟨n,hn⟩:∃n,s.length=n+1:=⟨s.length - 1,J⟩;rw[hn,TP,yz hs,yz h];congr 1;exact Cp num _ _ _ yJ (Y _)
def F5{num:Bool}:∀(b r:Wd),(∀c∈b,qB num c=false)->Kf num (b++r)=b++Kf num r
 |[],r,_=>rfl
 |c::b,r,h=>by
  rw[xX,yjd (h c qI),F5 b r (λd hd=>h d (uk _ hd))];rfl
def O7(num:Bool):∀(n:Nat) (s:Wd),s.length<=n->prG num n s=Kf num s
 | 0,s,h=>by
  have:s=[]:=zN J;subst this;rfl
 |n+1,s,h=>by
  rw[prG];by_cases hs:s=[]
  .rw[yV hs,hs];rfl
  have q:=yv.2 hs;rw[yz hs];obtain⟨a,ha⟩:=zr (s.takeWhile (qB num));obtain⟨r,hr⟩:=zr (s.drop a.length);obtain⟨b,hb⟩:=zr (r.takeWhile (λc => !qB num c));obtain⟨u,o⟩:=zr (r.drop b.length);have d:s=a++r:=by
   have h1:=ZB (p:=qB num) (l:=s);have h2:s.dropWhile (qB num)=r:=by
    rw[<-hr,<-ha];conv=>rhs;arg 2;rw[<-h1]
    rw[oY]
   rw[h2,ha]at h1;exact h1.symm
  have k:r=b++u:=by
   have h1:=ZB (p:=λc => !qB num c) (l:=r);have h2:r.dropWhile (λc => !qB num c)=u:=by
    rw[<-o,<-hb];conv=>rhs;arg 2;rw[<-h1]
    rw[oY]
   rw[h2,hb]at h1;exact h1.symm
  have g:∀c∈b,qB num c=false:=λc hc=>by
   rw[<-hb]at hc;have:=yfb (l:=r) (p:=λc => !qB num c);rw[zi]at this;simpa using this c hc
  rw[ha,hr,hb,o];have i:a≠[]\/b≠[]:=by
   by_cases h1:a=[]
   .refine .inr λh2=>?_
    subst h1;rw[xK]at d;subst d;cases e:s with
    |nil=>exact hs e
    |cons c t =>
     rw[e]at ha hb;by_cases m:qB num c=true
     .rw[vZ m]at ha;cases ha
     .rw[vZ (by simpa using m)]at hb;rw[h2]at hb;cases hb
   .exact .inl h1
  have j:u.length<=n:=by
   have h1:=congrArg xD d;have h2:=congrArg xD k;rw[zy]at h1 h2;rcases i with f|f
   .have:=yv.2 f;omega
   .have:=yv.2 f;omega
  rw[O7 num n u j];have h2:Kf num r=b++Kf num u:=by rw[k,F5 b u g]
  by_cases h1:a=[]
  .subst h1;rw[xK]at d;rw[d,h2];rfl
  .rw[nN (s:=s) (by rw[ha];exact h1),ha,hr,h2]
def Y4(dec:Nat->Wd)(val:Wd->Nat)(num:Bool):Fo->Wd
 |.nil=>[]
 |.text t r=>Kf num t++Y4 dec val num r
 |.hash r=>35::Y4 dec val num r
 |.put n _ r=>123::(n++125::Y4 dec val num r)
 |.num n _ r=>123::(n++([44,32,110,117,109,98,101,114,125]++Y4 dec val num r))
 |.br n _ f o _ bs r=>123::(n++([44,32]++(qF f++44::((if 0<val o then [32,111,102,102,115,101,116,58]++dec (val o)else [])++(Y4 dec val (decide (f≠0)) bs++125::Y4 dec val num r)))))
 |.xR k _ m r=>32::(k++([32,123]++(Y4 dec val num m++125::Y4 dec val num r)))
def nO(a:Wd):(kg a).length<=2*a.length:=by
 induction a with
 |nil=>exact Y _
 |cons c t b =>
  unfold kg at b|-;have h2:(if c=39 then [39,39]else [c]:Wd).length<=2:=by split<;>simp
  exact zq1
def zo0(a:Wd)(h:a≠[]):(fZ a).length<=4*a.length:=by
 have:=nO a;have:=yv.2 h;unfold fZ;split
 .simp;omega
 .omega
def O8(num:Bool):∀(n:Nat) (s:Wd),(TP num n s).length<=4*s.length
 | 0,s=>zQ _
 |n+1,s=>by
  rw[TP];split
  .simp
  next hs =>
  have b:=yv.2 hs;split
  .have:=O8 num n (s.drop 1);simp at this|-;omega
  next ha =>
  have h1:=O8 num n (s.drop (s.takeWhile (qB num)).length);have h2:=zo0 _ ha;have a:(s.takeWhile (qB num)).length<=s.length:=(KX _).length_le;simp at h1|-;omega
end Go.Proofs.YtpggmjffejgakaaGreatDoor
