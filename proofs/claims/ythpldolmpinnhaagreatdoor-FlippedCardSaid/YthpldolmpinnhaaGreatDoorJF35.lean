import Derived.Test.YthpldolmpinnhaaGreatDoorJF34
set_option maxHeartbeats 64000000
open List renaming mem_singleton→z7,getElem?_eq_some_iff→z8,getElem?_append_left→zy,prefix_refl→zx,getElem?_eq_getElem→zv,getElem?_append_right→zu,mem_of_getElem?→zg,mem_cons_of_mem→zf,mem_append→zZ,lookup_cons→zX,mem_map→zV,idxOf_lt_length_of_mem→zU,mem_cons_self→zQ,length_append→zJ,replicate→zG,idxOf_eq_length→zF,mem_filter→zH,prefix_append→zM,getElem_idxOf→zN,cons_append→zO,all_eq_true→zP,tail_cons→zS,range→zW,map_cons→za,length_singleton→ze,mem_iff_getElem→zi,idxOf_le_length→zl,mem_replicate→zm,append_assoc→zr,length_tail→zh,length_cons→zw,nodup_cons→yy,nil_append→yx,idxOf_cons→yv,foldl_map→yq
open Nat renaming le_refl→zk,zero_le→zY,le_trans→zc,lt_of_lt_of_le→zo,le_add_right→yz
open Go.Lib renaming hid→zj
open Prod.mk renaming inj→zD,injEq→zt
open Option.some renaming inj→zE,injEq→zL
open Go.Value.slice renaming injEq→zI
open Go.Addr.mk renaming injEq→zR
open Option renaming map_some→zn
open And renaming intro→yu
open Go.Proofs.Tryz
namespace Go.Proofs.YthpldolmpinnhaaGreatDoor
open Go Go.RowKit
set_option maxRecDepth 10000
section
variable {τ:Type} {w0 W:World} {A0 b q mb g k:Nat} {G:Nat->Prop} {s:MkS} {vC vI gv:Value} {rs:List (Value×Value)} {E:qL τ} {F S:τ->Nat->Prop} {Inv:τ->World->Prop} {r:bo τ} {x:j8}
def iX(s:MkS)(x:j8)(u:Wd)(_:τ)(_:World)(e:Ending):Prop:=e = .returned (.int .i64 ((VM s x u:Nat):Int))
theorem iV{α:Type}[BEq α][LawfulBEq α]{l:List α}{a:α}{i:Nat}(hi:i<l.length)(h:a ∉ l.take i)(he:l[i]=a):l.idxOf a=i:=by
 have h1:l=l.take i++l[i]::l.drop (i+1):=by rw[←List.drop_eq_getElem_cons hi,List.take_append_drop]
 rw[h1,List.idxOf_append,if_neg h,he,List.idxOf_cons_self,List.length_take];omega
theorem iU{α:Type}{l:List α}{a:α}{i:Nat}(hi:i<l.length)(h:a ∉ l.take i)(he:l[i]≠a):a ∉ l.take (i+1):=by
 rw[List.take_succ_eq_append_getElem hi,zZ,z7];exact fun q=>q.elim h (fun e=>he e.symm)
theorem P5(hE:bd w0 A0 b G q mb g s vC vI rs gv E F S Inv)(hf:Fr G G w0 W)(hR:vw b A0 q g gv G F S Inv r W)(hk:s.code[k]? = some x){t:Wd}(hc:Y2 s x=some t){I ic:Nat}(Ka:vI = .slice (some ⟨I,0,none⟩) s.code.length ic)(qY:x.k.tail.all (fun j=>decide (j<s.cs.length))=true)(Dj:x.k.length<=1000000) :
  Calls prog 136 #[.pointer (some ⟨b,0,none⟩),.pointer (some ⟨I,k*5,none⟩)] W (Xn F S Inv r.gs W (iX s x) (L5 E t r.gs)):=by
 obtain⟨j,hj,ht⟩:=Z1 hc;have hp:=hE.prog W hf;obtain⟨I1,ic1,kv,tv,q1,lt,i0,-,i3,-,kr,-⟩:=hp.ins hk;have YR:=zE (hp.q1.symm.trans q1);rw[Ka] at YR;simp only[zI,zL,zR,and_true,true_and] at YR;rw[←YR.1] at i3;obtain⟨C,cc,q0,cj,Qi⟩:=hp.nQ ht;obtain⟨K,kc,rfl,kj,ye2⟩:=kr.at_ hj;have h3:=hE.n3 t (zg ht);obtain⟨v,st,cs,hO,vH,fL,hi,ZO,Yw,hS,hA,hF⟩:=hR;have Lc:EI b A0 q g gv G F S Inv r v st cs W:=⟨hO,vH,fL,hi,ZO,Yw,hS,hA,hF⟩;have Xp:B0 b q j t W:=⟨hO.cell.1,C,s.cs.length,cc,q0,cj,Qi,hE.n2⟩;have Bk:=zj (ig hE.get b q j t r.gs W hO.cell.2.2.1 Xp hi (by omega));obtain⟨z,hZ⟩:=xX x.k.length;rw[hZ] at i3 ye2 Dj;obtain⟨res,vV⟩:=xX (L5 E t r.gs);rw[vV] at Bk ⊢;have k3:(0:Int)<(z:Int):=by omega
 have HE:=zj hE;have HF:=zj hf;have Iz:=zj Lc;have HK:=zj hk;have HVI:=zj Ka;have nR:=zj qY;have HZ:=zj hZ;clear hE hf Lc hk Ka qY hp hO vH fL hi ZO Yw hS hA hF kr hj ht hc Xp vV q1 i0 q0 cj lt Qi YR hZ;go_enter func136,ntmps136;go_wp2_with fail;refine Bk.out.mono ?_;intro e w1 hq
 cases res with
 | error er =>
  obtain⟨c,s'⟩:=er;obtain⟨⟨uE,rfl,hold⟩,hI⟩:=hq;have HQ:=zj (show Xn F S Inv r.gs W (iX s x) (.error (c,s'):Except (Nat×τ) (Wd×τ)) (.panicked ({ v:=qW c,recovered:=false }::uE)) w1 from⟨⟨uE,rfl,hold⟩,hI⟩);clear hold hI Bk;go_wp2;exact⟨rfl,HQ.out⟩
 | ok p =>
  obtain⟨u,s'⟩:=p;obtain⟨⟨hu,rfl⟩,hI⟩:=hq;obtain⟨h1,h2⟩:=Iz.out.asked HE.out hI;have hp:=HE.out.prog w1 (HF.out.trans h2);obtain⟨I1,ic1,kv,tv,q1,lt,i0,-,i3',-,kr,-⟩:=hp.ins HK.out;have YR:=zE (hp.q1.symm.trans q1);rw[HVI.out] at YR;simp only[zI,zL,zR,and_true,true_and] at YR;rw[←YR.1] at i3';obtain⟨K2,kc2,VA,ye3,ye4,Hk⟩:=xl kr (by rw[HZ.out];omega);have Wt:x.k.length<=kc2:=by
   rcases kr.2 with⟨hv,hn⟩|⟨g2,uG,cur,hv,_,_,hh,_⟩
   ·rw[HZ.out] at hn;omega
   ·rw[VA] at hv;cases hv;exact hh
  rw[VA,HZ.out] at i3';rw[HZ.out] at Wt;have b0:=h1.o.cell.1;have HI:=zj hI;have HP:=zj hp;have Th:=zj Hk;obtain⟨y,rfl⟩:∃ y,z=y+1:=⟨z - 1,by omega⟩;have l4:1<=kc2:=by omega
  have l5:((y:Int)+1) - 1=(y:Int):=by omega
  obtain⟨L,hL⟩:=xX (x.k.tail.map (fun j=>s.cs[j]?));have hLl:L.length=y:=by rw[←hL,List.length_map,zh,HZ.out];omega
  have htI:VM s x u=L.idxOf (some u):=by unfold VM;rw[hL]
  have HL:=zj (yu hL (yu hLl htI));have qP:(⟨u.toArray⟩:ByteArray).size=u.length:=size_mk _;clear h1 h2 hI Bk hp q1 lt i0 kr YR VA Hk ye3 ye4 kj i3 hL hLl htI;by_cases rf:kc2=1
  ·obtain rfl:y=0:=by omega
   subst rf;have HQ:=zj (show VM s x u=0 by
    obtain⟨a,b,c⟩:=HL.out;rw[c,List.eq_nil_of_length_eq_zero b];rfl)
   go_wp2_with fail;go_loopw [20] (fun iv wr=>iv = .int .i64 0/\wr=w1) (fun _ _=>0)
   case atStart=>exact⟨rfl,rfl⟩
   case round =>
    obtain⟨rfl,rfl⟩:=hrel;go_wp2;go_ret;exact⟨by unfold iX;rw[HQ.out];rfl,HI.out⟩
  ·go_wp2_with fail;go_loopw [20] (fun iv wr=>∃ i:Nat,iv = .int .i64 (i:Nat)/\i<=y/\some u ∉ L.take i/\Fr xH xH w1 wr) (fun iv _=>y - (intOf iv).toNat)
   case atStart=>exact⟨0,rfl,zY _,by simp,Fr.refl _ _⟩
   case round =>
    obtain⟨i,rfl,hiy,Hl,Zu⟩:=hrel;have JE:=zj Zu;have HN:=zj Hl;by_cases xD:i<y
    ·obtain⟨hL,hLl,htI⟩:=HL.out;have UN:i<L.length:=by omega
     have hkt:i<x.k.tail.length:=by rw[zh,HZ.out];omega
     have PI:x.k.tail[i]<s.cs.length:=of_decide_eq_true (zP.1 nR.out _ (List.getElem_mem hkt));have hki:x.k[i+1]? = some x.k.tail[i]:=by rw[List.getElem_tail,zv]
     obtain⟨jj,hjj⟩:=xX (x.k.tail[i]);rw[hjj] at PI hki;obtain⟨c,GX⟩:∃ c,s.cs[jj]? = some c:=⟨_,zv PI⟩;have hLi:L[i]=some c:=by
      have:L[i]? = some (some c):=by rw[←hL,List.getElem?_map,zv hkt,hjj,zn,GX]
      rw[zv UN] at this;exact zE this
     obtain⟨C2,cc2,q0,cj,Qi⟩:=HP.out.nQ GX;have q0':=Zu.cell q0 id;have cj':=Zu.cell cj id;have b0':=Zu.cell b0 id;have i3b:=Zu.cell i3' id;have kj':wr.cell? ⟨K2,i+1,none⟩=some (.int .i64 jj):=Zu.cell (by rw[Th.out _ (by rw[HZ.out];omega)];simp[Zg,hki]) id;obtain⟨mm,MA⟩:=xX s.cs.length;rw[MA] at q0' Qi;have f1:(i:Int)<(y:Int):=by omega
     have f2:(1:Int)+(i:Int)<(y:Int)+1:=by omega
     have f3:(0:Int)<=1+(i:Int):=by omega
     have f4:IntKind.i64.wrap (1+(i:Int))=1+(i:Int):=by rw[IntKind.wrap_i64];omega
     have f5:(1+(i:Int)).toNat=i+1:=by omega
     have f6:(jj:Int)<(mm:Int):=by omega
     have xf8:(⟨c.toArray⟩:ByteArray).size=c.length:=size_mk _;clear Zu Hl q0 cj Qi GX hjj hki PI hkt hL hLl htI MA;by_cases hcu:c=u
     ·subst hcu;have HS:=zj (show VM s x c=i by rw[HL.out.2.2];exact iV UN HN.out hLi);clear hLi UN;go_wp2_with fail;refine rt (fun W':World=>W'.cell? ⟨b,0,none⟩=some (.pointer (some ⟨q,0,none⟩))/\W'.cell? ⟨q,0,none⟩=some (.slice (some ⟨C2,0,none⟩) mm cc2)/\W'.cell? ⟨I,k*5+3,none⟩=some (.slice (some ⟨K2,0,none⟩) (y+1) kc2)/\W'.cell? ⟨K2,i+1,none⟩=some (.int .i64 jj)/\W'.cell? ⟨C2,jj,none⟩=some (xk c)) (zW 19) 0 ⟨b0',q0',i3b,kj',cj'⟩ ?_;(iterate 19 (refine ty ?_;try simp only[pl]))
      refine xq ?_;refine bX ?_ _;go_wp2;go_ret;exact⟨by unfold iX;rw[HS.out];rfl,Xn.more HE.out.get HI.out (JE.out.drew) (fun _ q=>q.elim)⟩
     ·have nJ:=zj (iU UN HN.out (by rw[hLi];exact fun e=>hcu (zE e)));have xf9:(c==u)=false:=by simpa using hcu
      clear hLi UN;go_wp2_with fail;refine rt (fun W':World=>W'.cell? ⟨b,0,none⟩=some (.pointer (some ⟨q,0,none⟩))/\W'.cell? ⟨q,0,none⟩=some (.slice (some ⟨C2,0,none⟩) mm cc2)/\W'.cell? ⟨I,k*5+3,none⟩=some (.slice (some ⟨K2,0,none⟩) (y+1) kc2)/\W'.cell? ⟨K2,i+1,none⟩=some (.int .i64 jj)/\W'.cell? ⟨C2,jj,none⟩=some (xk c)) (zW 19) 0 ⟨b0',q0',i3b,kj',cj'⟩ ?_;(iterate 19 (refine ty ?_;try simp only[pl]))
      refine xq ?_;refine bX ?_ _;go_wp2;exact⟨⟨i+1,congrArg (Value.int .i64) (by omega),by omega,nJ.out,JE.out.drew⟩,by simp only[intOf];omega⟩
    ·obtain rfl:i=y:=by omega
     have HS:=zj (show VM s x u=i by
      obtain⟨hL,hLl,htI⟩:=HL.out;rw[htI];have h:=HN.out;rw[List.take_of_length_le (by omega)] at h;rw[zF h,hLl])
     have i3b:=Zu.cell i3' id;have f1:¬((i:Int)<(i:Int)):=by omega
     clear Zu Hl;go_wp2;go_ret;exact⟨by unfold iX;rw[HS.out];first|rfl|simp,Xn.more HE.out.get HI.out JE.out (fun _ q=>q.elim)⟩
end
theorem qT.dm{q mb k:Nat}{s:MkS}{vC vI:Value}{rs:List (Value×Value)}{w:World}{x:j8}(h:qT q s vC vI rs mb w)(hk:s.code[k]? = some x):∃ I ic kv tv,rs[k]? = some (kv,tv)/\vI = .slice (some ⟨I,0,none⟩) s.code.length ic/\zn3 q k x I s.code.length ic kv tv w:=by
 have hil:=(z8.1 hk).1;obtain⟨⟨kv,tv⟩,hr⟩:∃ r,rs[k]? = some r:=⟨_,zv (by have:=h.rows.len;omega)⟩;obtain⟨h1,h2⟩:=h.rows.k k x _ hk hr;obtain⟨I,ic,Ka,-,hI,I4⟩:=xl h.cI (by omega);have c:∀ j,j<5->w.cell? ⟨I,k*5+j,none⟩=(Gu x (kv,tv))[j]? := fun j hj=>by rw[I4 _ (by omega),Vq _ _ h.rows.len k j x _ hk hr hj]
 exact⟨I,ic,kv,tv,hr,Ka,⟨by rw[h.q1,Ka],hil,c 0 (by omega),c 2 (by omega),c 3 (by omega),c 4 (by omega),h1,h2⟩⟩
section
variable {τ:Type} {w0 W:World} {A0 b q mb g k:Nat} {G:Nat->Prop} {s:MkS} {vC vI gv:Value} {rs:List (Value×Value)} {E:qL τ} {F S:τ->Nat->Prop} {Inv:τ->World->Prop} {r:bo τ} {x:j8}
def zr2(b A0 q g:Nat)(gv:Value)(G:Nat->Prop)(F S:τ->Nat->Prop)(Inv:τ->World->Prop)(s:MkS)(x:j8)(r:bo τ)(res:Except (Nat×τ) (Wd×τ))(W:World)(e:Ending)(w':World):Prop :=
 (match res with
  | .ok (u,s')=>(∀ p,x.tg[VM s x u]? = some p->e = .returned (.int .i64 (JL s p)))/\vw b A0 q g gv G F S Inv { r with gs:=s' } w'
  | .error (n,s')=>zg0 n e/\EH Inv S b { r with gs:=s' } w')/\Fr G G W w'
theorem Le(hE:bd w0 A0 b G q mb g s vC vI rs gv E F S Inv)(hf:Fr G G w0 W)(hR:vw b A0 q g gv G F S Inv r W)(hk:s.code[k]? = some x)(uI:x.op=10){t:Wd}(hc:Y2 s x=some t)(qY:x.k.tail.all (fun j=>decide (j<s.cs.length))=true)(Dj:x.k.length<=1000000)(JM:∀ u,∃ p,x.tg[VM s x u]? = some p) :
  Calls prog 87 #[.pointer (some ⟨b,0,none⟩),.int .i64 (k:Nat)] W (zr2 b A0 q g gv G F S Inv s x r (L5 E t r.gs) W):=by
 have hp:=hE.prog W hf;obtain⟨I,ic,kv,tv,ZM,Ka,q1,lt,i0,-,-,i4,-,tr⟩:=hp.dm hk;obtain⟨p0,hp0⟩:=JM [];obtain⟨T,tc,htv,-,ye8⟩:=tr.at_ hp0;obtain⟨v,st,cs,hO,vH,fL,hi,ZO,Yw,hS,hA,hF⟩:=hR;have Lc:EI b A0 q g gv G F S Inv r v st cs W.drew:=⟨hO,vH,fZ.fr ((Fr.refl xH W).drew) (fun _ q=>q.elim) (fun _ q => .inl q) fL,hE.get.fr hi ((Fr.refl xH W).drew) (fun _ q=>q.elim),ZO,Yw,hS,hA,hF⟩;have hRA:vw b A0 q g gv G F S Inv r W.drew:=⟨v,st,cs,Lc.o,Lc.row,Lc.en,Lc.inv,Lc.sb,Lc.sv,Lc.ds,Lc.da,Lc.df⟩;have eT:Fr G G w0 W.drew:=hf.drew;have HCH:=zj (P5 hE eT hRA hk hc Ka qY Dj);have b0:=hO.cell.1;have Zk:=hE.n1;obtain⟨n,hN⟩:=xX s.code.length;obtain⟨z,hZ⟩:=xX x.tg.length;obtain⟨res,vV⟩:=xX (L5 E t r.gs);rw[vV] at HCH ⊢;have HI4:=zj (fun (w:World) (h:qT q s vC vI rs mb w)=>show w.cell? ⟨I,k*5+4,none⟩=some (.slice (some ⟨T,0,none⟩) z tc)/\∀ j y,x.tg[j]? = some y->w.cell? ⟨T,j,none⟩=some (.int .i64 (y:Nat)) from by
  obtain⟨I',ic',p9,tv',zr4,zg5,q1',-,-,-,-,i4',-,tr'⟩:=h.dm hk;rw[Ka] at zg5;simp only[zI,zL,zR,and_true,true_and] at zg5;rw[ZM] at zr4
  cases zr4;rw[←zg5.1] at i4';refine⟨by rw[i4',htv,hZ],fun j y hj=>?_⟩;obtain⟨T',tc',zr5,ep,-⟩:=tr'.at_ hj;rw[htv] at zr5
  cases zr5;exact ep)
 have i4W:=(HI4.out W hp).1;have tjW:=(HI4.out W hp).2;rw[hN] at q1 lt Zk;rw[uI] at i0;have k1:(k:Int)<(n:Int):=by omega
 have HE:=zj hE;have HF:=zj eT;have Iz:=zj Lc;have HTB:=zj JM;have HX4:=zj (fun p hp=>(hE.n4 x (zg hk)).2 p hp);obtain⟨TG,hTG⟩:=xX x.tg;rw[hTG] at tjW hZ HI4;have HZ:=zj hZ;have HTG:=zj hTG;clear hE hf Lc hRA hk uI hc qY hp hO vH fL hi ZO Yw hS hA hF hN hZ tr ZM Ka i4 ye8 JM vV hp0 eT hTG htv;go_enter func87,ntmps87;go_wp2_with fail;refine rt (fun W':World=>W'.cell? ⟨b,0,none⟩=some (.pointer (some ⟨q,0,none⟩))/\W'.cell? ⟨I,k*5+4,none⟩=some (.slice (some ⟨T,0,none⟩) z tc)/\∀ j y,TG[j]? = some y->W'.cell? ⟨T,j,none⟩=some (.int .i64 (y:Nat))) (zW 10) 5 ⟨b0,i4W,tjW⟩ ?_;(iterate 10 (refine ty ?_;try simp only[pl]))
 refine xq ?_;refine kR 10 (fun J hJ=>?_);go_simp;refine HCH.out.mono ?_;intro e w1 hq
 cases res with
 | error er =>
  obtain⟨c,s'⟩:=er;obtain⟨⟨uE,rfl,hold⟩,hI⟩:=hq;obtain⟨h1,h2⟩:=Iz.out.asked HE.out hI;have HQ:=zj (show zr2 b A0 q g gv G F S Inv s x r (.error (c,s'):Except (Nat×τ) (Wd×τ)) W (.panicked ({ v:=qW c,recovered:=false }::uE)) w1 from⟨⟨⟨uE,rfl,hold⟩,h1.inv,fun k hk=>(h1.ds k hk).1⟩,h2.und⟩);clear hold hI HCH h1 h2;exact⟨rfl,HQ.out⟩
 | ok p =>
  obtain⟨u,s'⟩:=p;obtain⟨Od,hI⟩:=hq;obtain rfl:=Od;obtain⟨h1,h2⟩:=Iz.out.asked HE.out hI;have Va:=HE.out.prog w1 (HF.out.trans h2);obtain⟨i4b,rT⟩:=HI4.out w1 Va;have b0b:=h1.o.cell.1;obtain⟨p,Uv⟩:=HTB.out u;obtain⟨ix,Im⟩:=xX (VM s x u);rw[Im] at Uv ⊢;have zg6:TG[ix]? = some p:=by rw[←HTG.out];exact Uv
  have k3:(ix:Int)<(z:Int):=by have:=(z8.1 zg6).1;have:=HZ.out;omega
  have Qa:=zj (FG q mb s.code.length p (dV s.code s.code.length) w1 Va.q2 Va.mp (HX4.out p (zg Uv)));have tj1:=rT ix p zg6;have JE:=zj (show Fr G G W w1 from h2.und);have fX:=zj h1;obtain⟨jv,Bp⟩:=xX (JL s p);rw[show Om (dV s.code s.code.length p)=jv from Bp] at Qa;have HJV:=zj Bp;have Bf:=zj (yu Uv Im);clear hI HCH h1 h2 Va Bp Uv Im b0 i4W tjW;refine hJ.out _ _ ⟨b0b,i4b,rT⟩ fun _=>?_
  clear hJ J;refine Vv [11,12] 2 ⟨b0b,i4b,rT⟩ ?_;refine ty ?_;try simp only[pl]
  refine Qt (v := .int .i64 (p:Nat)) rfl (by rfl) ?_ ?_
  ·intro w' tM;have t1:=tM.2.2 ix p zg6;go_simp
  try simp only[pl]
  refine xq ?_;refine kR 13 (fun J hJ=>?_);go_simp;refine Qa.out.mono ?_;rintro e w3 ⟨rfl,rfl⟩;refine hJ.out _ _ ⟨b0b,i4b,rT⟩ fun _=>?_
  clear hJ J;refine Vv [14] 0 ⟨b0b,i4b,rT⟩ ?_;refine ty ?_;try simp only[pl]
  refine xq ?_;refine bX ?_ _;go_wp2;go_ret;refine⟨⟨fun p' hp'=>?_,⟨_,_,_,fX.out.o,fX.out.row,fX.out.en,fX.out.inv,fX.out.sb,fX.out.sv,fX.out.ds,fX.out.da,fX.out.df⟩⟩,JE.out⟩;rw[Bf.out.2,Bf.out.1] at hp'
  cases hp';rw[HJV.out];rfl
end
def iQ(s:MkS):Prop:=∀ x∈s.code,(x.op=7->0<x.tg.length)/\(x.op=10->x.k.length<=1000000/\x.k.tail.all (fun j=>decide (j<s.cs.length))=true/\x.k.tail.length<x.tg.length)
section
variable {τ:Type} {w0 W:World} {A0 b q mb g k:Nat} {G:Nat->Prop} {s:MkS} {vC vI gv:Value} {rs:List (Value×Value)} {E:qL τ} {F S:τ->Nat->Prop} {Inv:τ->World->Prop} {r:bo τ} {x:j8}
def VmI(w0:World)(b A0 q g:Nat)(gv:Value)(G:Nat->Prop)(F S:τ->Nat->Prop)(Inv:τ->World->Prop)(m _:Nat)(r:bo τ)(W:World):Prop :=
 vw b A0 q g gv G F S Inv r W/\Fr G G w0 W/\r.out.length+m*5000<=900000000/\r.stk.length+m<=900000
def VmJ(w0:World)(b A0 q g:Nat)(gv:Value)(G:Nat->Prop)(F S:τ->Nat->Prop)(Inv:τ->World->Prop)(r:bo τ)(W:World):Prop :=
 vw b A0 q g gv G F S Inv r W/\r.out.length<=900000000
theorem Li{n k m:Nat}(hl:n+(m+1)*5000<=k):n+m*5000<=k:=by
 rw[Nat.succ_mul] at hl;exact zc (Nat.add_le_add_left (yz _ _) n) hl
theorem Br{n k m:Nat}(hl:n+(m+1)<=k):n+m<=k:=by omega
theorem Tw{n k m:Nat}(hl:n+(m+1)*5000<=k):n<=k:=by omega
theorem Ra{m:Nat}(hf:Fr G G w0 W)(hl:r.out.length+(m+1)*5000<=900000000)(hs:r.stk.length+(m+1)<=900000){r':bo τ}{e:Ending}{w':World}(h1:e = .returned (.int .i64 ((k+1:Nat):Int)))(h2:VmQ b A0 q g gv G F S Inv r (k+1) r' w')(h3:Fr G G W w') :
  Oj G (VmI w0 b A0 q g gv G F S Inv m) (VmJ w0 b A0 q g gv G F S Inv) (EH Inv S b) (.go (k+1) r') W e w' :=
 ⟨⟨h1,h2.1,hf.trans h3,by have:=h2.2.1;omega,by have:=h2.2.2;omega⟩,h3⟩
theorem rW{m:Nat}(hf:Fr G G w0 W)(hl:r.out.length+(m+1)*5000<=900000000)(hs:r.stk.length+(m+1)<=900000){r':bo τ}{e:Ending}{w':World}(h1:e = .returned (.int .i64 ((k+1:Nat):Int)))(h2:vw b A0 q g gv G F S Inv r' w')(h3:Fr G G W w')(a1:r'.out=r.out)(a2:r'.stk=r.stk) :
  Oj G (VmI w0 b A0 q g gv G F S Inv m) (VmJ w0 b A0 q g gv G F S Inv) (EH Inv S b) (.go (k+1) r') W e w':=by
 have k2:r.out.length+m*5000<=900000000:=Li hl;have k3:r.stk.length+m<=900000:=Br hs;exact⟨⟨h1,h2,hf.trans h3,by simp only[a1];exact k2,by simp only[a2];exact k3⟩,h3⟩
theorem FC{m p:Nat}(hf:Fr G G w0 W)(hl:r.out.length+(m+1)*5000<=900000000)(hs:r.stk.length+(m+1)<=900000){r':bo τ}{e:Ending}{w':World}(h1:e = .returned (.int .i64 (JL s p)))(h2:vw b A0 q g gv G F S Inv r' w')(h3:Fr G G W w')(a1:r'.out=r.out)(a2:r'.stk=r.stk) :
  Oj G (VmI w0 b A0 q g gv G F S Inv m) (VmJ w0 b A0 q g gv G F S Inv) (EH Inv S b) (Mt s (some p) r') W e w':=by
 have k2:r.out.length+m*5000<=900000000:=Li hl;have k1:r.out.length<=900000000:=Tw hl;have k3:r.stk.length+m<=900000:=Br hs;refine⟨?_,h3⟩;simp only[Mt];subst h1;unfold JL
 cases dV s.code s.code.length p with
 | none=>exact⟨rfl,h2,by simp only[a1];exact k1⟩
 | some k'=>exact⟨rfl,h2,hf.trans h3,by simp only[a1];exact k2,by simp only[a2];exact k3⟩
def yey(r:bo τ)(k:Nat){α:Type}(fn:α->τ->bo τ)(res:Except (Nat×τ) (α×τ)):Tz (bo τ):=match res with | .error (n,s') => .err n { r with gs:=s' } | .ok (a,s') => .go (k+1) (fn a s')
theorem P6{m:Nat}{α:Type}{fn:α->τ->bo τ}(hf:Fr G G w0 W)(hl:r.out.length+(m+1)*5000<=900000000)(hs:r.stk.length+(m+1)<=900000){res:Except (Nat×τ) (α×τ)}{e:Ending}{w':World}(h:Oo b A0 q g gv G F S Inv r k fn res W e w'){o:Tz (bo τ)}
  (ho:o=yey r k fn res) :
  Oj G (VmI w0 b A0 q g gv G F S Inv m) (VmJ w0 b A0 q g gv G F S Inv) (EH Inv S b) o W e w':=by
 subst ho;obtain⟨h1,h2⟩:=h
 cases res with
 | error er=>exact⟨h1,h2⟩
 | ok a=>exact Ra hf hl hs h1.1 h1.2 h2
theorem Z2{α:Type}{l:List α}{t:α}(h:l.getLast? = some t):l=l.dropLast++[t]:=by
 obtain⟨ys,rfl⟩:=List.getLast?_eq_some_iff.1 h;simp
theorem iK{x:j8}{i:Nat}{r:bo τ}(h:Mt s x.tg[i]? r ≠ .bad):∃ p,x.tg[i]? = some p:=by
 cases hp:x.tg[i]? with
 | none=>rw[hp] at h;exact absurd rfl h
 | some p=>exact⟨p,rfl⟩
theorem re(hE:bd w0 A0 b G q mb g s vC vI rs gv E F S Inv)(hT:iQ s){m:Nat}(hI:VmI w0 b A0 q g gv G F S Inv (m+1) k r W)(hb:jR E s k r ≠ .bad) :
  Calls prog 87 #[.pointer (some ⟨b,0,none⟩),.int .i64 (k:Nat)] W (Oj G (VmI w0 b A0 q g gv G F S Inv m) (VmJ w0 b A0 q g gv G F S Inv) (EH Inv S b) (jR E s k r) W):=by
 obtain⟨hR,hf,hl,hs⟩:=hI;have CZ:∀ {w w':World},Fr xH xH w w'->Fr G G w w':=fun h=>(h.tg (F'':=xH) (fun k hk=>hk.elim)).wide (fun k hk=>hk.elim)
 have fU:r.stk.length<=900000:=by omega
 have VV:r.stk.length<=1000000:=by omega
 have Hq:r.out.length<=900000000:=by omega
 cases hk:s.code[k]? with
 | none=>exact absurd (by simp only[jR,hk]) hb
 | some x =>
  have vH:jR E s k r=ui E s x k r:=by simp only[jR,hk]
  rw[vH] at hb ⊢;have Jc:x.op=0\/x.op=1\/x.op=2\/x.op=3\/x.op=4\/x.op=5\/x.op=6\/x.op=7\/x.op=8\/x.op=9\/x.op=10\/x.op=11\/12<=x.op:=by omega
  rcases Jc with uI|uI|uI|uI|uI|uI|uI|uI|uI|uI|uI|uI|uI
  ·rw[show ui E s x k r = .fin r by unfold ui;rw[uI];rfl];obtain⟨v,st,cs,hO,o7⟩:=hR;refine(step_end hO (hE.prog W hf) hk uI hE.n1).mono ?_;rintro e w' ⟨rfl,rfl⟩;exact⟨⟨rfl,⟨v,st,cs,hO,o7⟩,Hq⟩,Fr.refl _ _⟩
  ·cases hc:Y2 s x with
   | none=>exact absurd (by unfold ui;rw[uI];simp only[hc]) hb
   | some t =>
    rw[show ui E s x k r = .go (k+1) { r with out:=r.out++t } by unfold ui;rw[uI];simp only[hc]];exact(ib hE hf hR hk uI hc Hq).mono fun e w' h=>Ra hf hl hs h.1 h.2.1 h.2.2
  ·cases hc:Y2 s x with
   | none=>exact absurd (by unfold ui;rw[uI];simp only[hc]) hb
   | some t =>
    refine(iZ hE hf hR hk uI hc Hq).mono fun e w' h=>P6 hf hl hs h ?_
    unfold ui;rw[uI];simp only[hc];generalize YL E t r.gs=z;rcases z with⟨n,g'⟩|⟨⟨t,num⟩,g'⟩<;>rfl
  ·cases hc:Y2 s x with
   | none=>exact absurd (by unfold ui;rw[uI];simp only[hc]) hb
   | some t =>
    refine(La hE hf hR hk uI hc Hq).mono fun e w' h=>P6 hf hl hs h ?_
    unfold ui;rw[uI];simp only[hc];generalize YM E t r.gs=z;rcases z with⟨n,g'⟩|⟨v,g'⟩<;>rfl
  ·cases hc:Y2 s x with
   | none=>exact absurd (by unfold ui;rw[uI];simp only[hc]) hb
   | some t =>
    refine(Ot hE hf hR hk uI hc fU).mono fun e w' h=>P6 hf hl hs h ?_
    unfold ui;rw[uI];simp only[hc];generalize YM E t r.gs=z;rcases z with⟨n,g'⟩|⟨v,g'⟩<;>rfl
  ·cases hc:r.stk.getLast? with
   | none=>exact absurd (by unfold ui;rw[uI];simp only[hc]) hb
   | some t =>
    rw[show ui E s x k r = .go (k+1) { r with stk:=r.stk.dropLast } by unfold ui;rw[uI];simp only[hc]];exact(On hE hf hR hk uI (Z2 hc) VV).mono fun e w' h=>Ra hf hl hs h.1 h.2.1 h.2.2
  ·cases hc:r.stk.getLast? with
   | none=>exact absurd (by unfold ui;rw[uI];simp only[hc]) hb
   | some t =>
    rw[show ui E s x k r = .go (k+1) { r with out:=r.out++E.wr t.2 } by unfold ui;rw[uI];simp only[hc]];exact(To hE hf hR hk uI (Z2 hc) VV Hq).mono fun e w' h=>Ra hf hl hs h.1 h.2.1 h.2.2
  ·cases hc:r.stk.getLast? with
   | none=>exact absurd (by unfold ui;rw[uI];simp only[hc]) hb
   | some t =>
    rw[show ui E s x k r=if dU t.1 x.v then Mt s x.tg[0]? r else .go (k+1) r by unfold ui;rw[uI];simp only[hc]] at hb ⊢;obtain⟨p,hp⟩:∃ p,x.tg[0]? = some p:=⟨_,zv ((hT x (zg hk)).1 uI)⟩;rw[hp];refine(Ow hE hf hR hk uI hp (Z2 hc) VV).mono fun e w' h=>?_
    by_cases DH:dU t.1 x.v=true
    ·rw[if_pos DH];exact FC hf hl hs (by rw[h.1,if_pos DH]) (hR.quiet hE h.2) (CZ h.2) rfl rfl
    ·rw[if_neg DH];exact rW hf hl hs (by rw[h.1,if_neg DH]) (hR.quiet hE h.2) (CZ h.2) rfl rfl
  ·cases hc:r.stk.getLast? with
   | none=>exact absurd (by unfold ui;rw[uI];simp only[hc]) hb
   | some t =>
    rw[show ui E s x k r=Mt s x.tg[E.sort false t.2.2]? r by unfold ui;rw[uI];simp only[hc]] at hb ⊢;obtain⟨p,hp⟩:=iK hb;rw[hp];exact(Tr hE hf hR hk uI (Z2 hc) hp VV).mono fun e w' h=>FC hf hl hs h.1 (hR.quiet hE h.2) (CZ h.2) rfl rfl
  ·cases hc:r.stk.getLast? with
   | none=>exact absurd (by unfold ui;rw[uI];simp only[hc]) hb
   | some t =>
    rw[show ui E s x k r=Mt s x.tg[E.sort true t.2.2]? r by unfold ui;rw[uI];simp only[hc]] at hb ⊢;obtain⟨p,hp⟩:=iK hb;rw[hp];exact(Tt hE hf hR hk uI (Z2 hc) hp VV).mono fun e w' h=>FC hf hl hs h.1 (hR.quiet hE h.2) (CZ h.2) rfl rfl
  ·cases hc:Y2 s x with
   | none=>exact absurd (by unfold ui;rw[uI];simp only[hc]) hb
   | some t =>
    obtain⟨a1,a2,a3⟩:=(hT x (zg hk)).2 uI;have JM:∀ u,∃ p,x.tg[VM s x u]? = some p:=fun u=>⟨_,zv (Nat.lt_of_le_of_lt (by unfold VM;exact zc zl (by simp)) a3)⟩
    refine(Le hE hf hR hk uI hc a2 a1 JM).mono fun e w' h=>?_
    rw[show ui E s x k r=(match L5 E t r.gs with | .error (e,g) => .err e { r with gs:=g } | .ok (t,g)=>Mt s x.tg[VM s x t]? { r with gs:=g }) by unfold ui;rw[uI];simp only[hc,a2,if_true];generalize L5 E t r.gs=z;rcases z with⟨n,g'⟩|⟨u,g'⟩<;>rfl];obtain⟨h1,h2⟩:=h
    cases hw:L5 E t r.gs with
    | error er =>
     rw[hw] at h1;exact⟨h1,h2⟩
    | ok p =>
     obtain⟨u,s'⟩:=p;rw[hw] at h1;obtain⟨p,hp⟩:=JM u;show Oj _ _ _ _ (Mt s x.tg[VM s x u]? { r with gs:=s' }) _ _ _;rw[hp];exact FC hf hl hs (h1.1 p hp) h1.2 h2 rfl rfl
  ·rw[show ui E s x k r=Mt s x.tg[0]? r by unfold ui;rw[uI];rfl] at hb ⊢;obtain⟨p,hp⟩:=iK hb;rw[hp];exact(step_goto hE hf hR hk uI hp).mono fun e w' h=>FC hf hl hs h.1 (hR.quiet hE h.2) (CZ h.2) rfl rfl
  ·refine absurd ?_ hb;unfold ui;split<;>first|rfl|omega
end
def Fo.Bs:Bool->Fo->Prop
 | _,.nil=>True
 | b,.text _ r=>r.Bs b
 | b,.hash r=>b=true/\r.Bs b
 | b,.put _ _ r=>r.Bs b
 | b,.num _ _ r=>r.Bs b
 | b,.br _ _ f _ _ bs r=>bs.uv=true/\bs.keys.Nodup/\qz∈bs.keys/\bs.Bs (decide (f≠0))/\r.Bs b
 | b,.uf _ _ m r=>m.vG=true/\m.Bs b/\r.Bs b
def Rc(x:j8):Nat×Nat×Nat×List Nat×Nat:=(x.op,x.pos,x.v,x.k,x.tg.length)
theorem Y8(s:MkS)(i j n:Nat):(s.u7 i j).code[n]? = if i=n then (s.code[n]?).map (fun x=>{ x with tg:=x.tg.set j s.pos }) else s.code[n]? := by
 simp only[MkS.u7];rw[List.getElem?_modify];by_cases h:i=n
 ·simp[h]
 ·simp[h]
theorem iJ(s:MkS)(i j:Nat):(s.u7 i j).code.length=s.code.length:=by simp[MkS.u7]
theorem xM(s:MkS)(op v:Nat)(k tg:List Nat):(s.put op v k tg).code=s.code++[⟨op,s.pos,v,k,tg⟩]:=rfl
theorem ZS(s:MkS):qI fun s'=>∀ (i:Nat) (x:j8),s.code[i]? = some x->∃ y,s'.code[i]? = some y/\Rc y=Rc x:=by
 refine⟨fun a op v k tg h i x hx=>?_,fun a t h i x hx=>?_,fun a i j h n x hx=>?_⟩
 ·obtain⟨y,h1,h2⟩:=h i x hx;exact⟨y,by rw[xM,zy (z8.1 h1).1];exact h1,h2⟩
 ·rw[(vz a t).2.1];exact h i x hx
 ·obtain⟨y,h1,h2⟩:=h n x hx;rw[Y8];split
  ·exact⟨_,by rw[h1];rfl,by rw[←h2];simp[Rc]⟩
  ·exact⟨y,h1,h2⟩
theorem Z3(c:List Wd):qI fun s=>c <+: s.cs:=by
 refine⟨fun a op v k tg h=>h,fun a t h=>?_,fun a i j h=>h⟩;unfold MkS.const;split
 ·exact h
 ·exact h.trans (zM _ _)
def Jq(s:MkS):Prop:=(∀ (i j:Nat) (x y:j8),i<j->s.code[i]? = some x->s.code[j]? = some y->x.pos<y.pos)/\∀ x∈s.code,x.pos<s.pos
theorem iG(x:j8):0<(uq x).length:=by simp[uq]
theorem Wz:qI Jq:=by
 refine⟨fun s op v k tg h=>?_,fun s t h=>?_,fun s i j h=>?_⟩
 ·have hp:=iG ⟨op,s.pos,v,k,tg⟩;refine⟨fun i j x y hij hx hy=>?_,fun x hx=>?_⟩
  ·rw[xM] at hx hy;rw[List.getElem?_append] at hx hy;split at hy
   ·rw[if_pos (by omega)] at hx;exact h.1 i j x y hij hx hy
   ·have hj:j - s.code.length=0:=by
     have:=(z8.1 hy).1;simp at this;omega
    rw[hj] at hy;simp at hy;subst hy;rw[if_pos (by omega)] at hx;exact h.2 x (zg hx)
  ·show x.pos<s.pos+_;rw[xM,zZ,z7] at hx;rcases hx with hx|rfl
   ·have:=h.2 x hx;omega
   ·show s.pos<_;omega
 ·obtain⟨-,z2,z3⟩:=vz s t;unfold Jq;rw[z2,z3];exact h
 ·have jm:∀ (n:Nat) (x:j8),(s.u7 i j).code[n]? = some x->∃ y,s.code[n]? = some y/\y.pos=x.pos:=by
   intro n x hx;rw[Y8] at hx;split at hx
   ·cases hc:s.code[n]? with
    | none=>rw[hc] at hx;cases hx
    | some y=>rw[hc] at hx;cases hx;exact⟨y,rfl,rfl⟩
   ·exact⟨x,hx,rfl⟩
  refine⟨fun a b x y hab hx hy=>?_,fun x hx=>?_⟩
  ·obtain⟨x',h1,h2⟩:=jm a x hx;obtain⟨y',h3,h4⟩:=jm b y hy;rw[←h2,←h4];exact h.1 a b x' y' hab h1 h3
  ·obtain⟨n,hn,e⟩:=zi.1 hx;obtain⟨x',h1,h2⟩:=jm n x (by rw[zv hn,e]);rw[←h2];exact h.2 x' (zg h1)
theorem iF{s:MkS}(h:Jq s){k:Nat}{x:j8}(hx:s.code[k]? = some x):dV s.code s.code.length x.pos=some k:=by
 have key:∀ n,k<n->n<=s.code.length->dV s.code n x.pos=some k:=by
  intro n;induction n with
  | zero=>intro h;omega
  | succ n ih =>
   intro h1 h2;simp only[dV];by_cases hk:k=n
   ·subst hk;simp[hx]
   ·obtain⟨y,hy⟩:∃ y,s.code[n]? = some y:=⟨_,zv (by omega)⟩;have:=h.1 k n x y (by omega) hx hy;rw[hy];rw[if_neg (by simp;omega)];exact ih (by omega) (by omega)
 exact key _ (z8.1 hx).1 (zk _)
def uk(l:List (Nat×Nat))(s:MkS):MkS:=l.foldl (fun s p=>s.u7 p.1 p.2) s
theorem qF:∀ (l:List (Nat×Nat)) (s:MkS),(uk l s).code.length=s.code.length/\(uk l s).pos=s.pos/\(uk l s).cs=s.cs
 | [],s=>⟨rfl,rfl,rfl⟩
 | p::l,s=>by
  obtain⟨a,b,c⟩:=qF l (s.u7 p.1 p.2);exact⟨a.trans (iJ _ _ _),b,c⟩
theorem dG:∀ (l:List (Nat×Nat)) (s:MkS) (n:Nat),(∀ p∈l,p.1≠n)->(uk l s).code[n]? = s.code[n]?
 | [],s,n,_=>rfl
 | p::l,s,n,h=>by
  show(uk l (s.u7 p.1 p.2)).code[n]? = _;rw[dG l _ n (fun q hq=>h q (zf _ hq)),Y8,if_neg (h p (zQ ..))]
def slot(s:MkS)(p:Nat×Nat):Option Nat:=(s.code[p.1]?).bind fun x=>x.tg[p.2]?
theorem Wy(s:MkS)(i j:Nat)(p:Nat×Nat):slot (s.u7 i j) p=if (i,j)=p/\(slot s p).isSome then some s.pos else slot s p:=by
 unfold slot;rw[Y8];by_cases h1:i=p.1
 ·rw[if_pos h1]
  cases hc:s.code[p.1]? with
  | none=>simp
  | some x =>
   simp only[zn,Option.bind_some];rw[List.getElem?_set];by_cases h2:j=p.2
   ·rw[if_pos h2];have:(i,j)=p:=by rw[h1,h2]
    by_cases h3:j<x.tg.length
    ·rw[if_pos h3,if_pos ⟨this,by rw[←h2,zv h3];rfl⟩]
    ·have h4:x.tg[p.2]? = none:=List.getElem?_eq_none (by omega);rw[if_neg h3,h4,if_neg (by simp)]
   ·rw[if_neg h2,if_neg (fun q=>h2 (by rw[←q.1]))]
 ·rw[if_neg h1,if_neg (fun q=>h1 (by rw[←q.1]))]
theorem fM:∀ (l:List (Nat×Nat)) (s:MkS) (p:Nat×Nat),slot (uk l s) p=if p∈l/\(slot s p).isSome then some s.pos else slot s p
 | [],s,p=>by simp[uk]
 | q::l,s,p=>by
  show slot (uk l (s.u7 q.1 q.2)) p=_;rw[fM l,Wy];have hp:(s.u7 q.1 q.2).pos=s.pos:=rfl;rw[hp];by_cases h1:(slot s p).isSome
  ·by_cases h2:(q.1,q.2)=p
   ·have:p∈q::l:=by rw[←h2];exact zQ ..
    simp[h1,h2,this]
   ·have h3:¬q=p:=fun e=>h2 (by rw[←e])
    have h4:¬p=q:=fun e=>h3 e.symm
    simp[h1,h2,h4]
  ·have h5:slot s p=none:=by simpa using h1
   simp[h5]
theorem FE(s:MkS)(op v:Nat)(k tg:List Nat)(p:Nat×Nat)(h:p.1<s.code.length):slot (s.put op v k tg) p=slot s p:=by
 unfold slot;rw[xM,zy h]
theorem G6{s s':MkS}{p:Nat×Nat}(h:s'.code[p.1]? = s.code[p.1]?):slot s' p=slot s p:=by unfold slot;rw[h]
def Steps{σ:Type}(F:Nat->σ->Tz σ)(k:Nat)(r:σ)(k':Nat)(r':σ):Prop:=∃ n,n+k<=k'/\∀ fuel,Qg F (fuel+n) k r=Qg F fuel k' r'
section
variable {σ:Type} {F:Nat->σ->Tz σ}
theorem Steps.refl(k:Nat)(r:σ):Steps F k r k r:=⟨0,by omega,fun _=>rfl⟩
theorem Steps.trans{k k1 k2:Nat}{r r1 r2:σ}(h:Steps F k r k1 r1)(h2:Steps F k1 r1 k2 r2):Steps F k r k2 r2:=by
 obtain⟨n,hk,hn⟩:=h;obtain⟨m,CX,hm⟩:=h2;exact⟨m+n,by omega,fun fuel=>by rw[←Nat.add_assoc,hn,hm]⟩
theorem Steps.one{k k':Nat}{r r':σ}(h:F k r = .go k' r')(hk:k<k':=by omega):Steps F k r k' r':=⟨1,by omega,fun fuel=>by rw[Qg,h]⟩
end
section
variable {τ:Type} {F:Nat->bo τ->Tz (bo τ)}
def JN(F:Nat->bo τ->Tz (bo τ))(k:Nat)(r:bo τ)(k':Nat)(stk:List (vq×vq)):Except (Nat×τ) (Wd×τ)->Prop
 | .ok (o,g)=>Steps F k r k' ⟨o,stk,g⟩
 | .error (n,g)=>∃ m r',m+k<=k'/\(∀ fuel,Qg F (fuel+m) k r=some (.error (n,r')))/\r'.gs=g
theorem JN.after{k k1 k':Nat}{r r1:bo τ}{stk:List (vq×vq)}{res:Except (Nat×τ) (Wd×τ)}(h:Steps F k r k1 r1)(h2:JN F k1 r1 k' stk res):JN F k r k' stk res:=by
 cases res with
 | ok p=>exact h.trans h2
 | error e =>
  obtain⟨n,hk,hn⟩:=h;obtain⟨m,r',CX,hm,hg⟩:=h2;exact⟨m+n,r',by omega,fun fuel=>by rw[←Nat.add_assoc,hn,hm],hg⟩
theorem JN.err{k k' n:Nat}{r r':bo τ}{stk:List (vq×vq)}(h:F k r = .err n r')(hk:k<k':=by omega):JN F k r k' stk (.error (n,r'.gs)):=⟨1,r',by omega,fun fuel=>by rw[Qg,h],rfl⟩
theorem JN.far{k k1 k':Nat}{r:bo τ}{stk:List (vq×vq)}{e:Nat×τ}{yex:List (vq×vq)}(h:JN F k r k1 stk (.error e))(hk:k1<=k'):JN F k r k' yex (.error e):=by
 obtain⟨m,r',h1,h2,h3⟩:=h;exact⟨m,r',by omega,h2,h3⟩
end
theorem go_msg:∀ (f:Fo),f.vG=true->∀ (bg:Wd->MkS->MkS) (s:MkS) (ls:List Nat),MkS.qx f bg s ls=(MkS.dS f s,ls)
 | .nil,_,_,_,_=>rfl
 | .text t r,h,bg,s,ls=>go_msg r h bg _ ls
 | .hash r,h,bg,s,ls=>go_msg r h bg _ ls
 | .put n a r,h,bg,s,ls=>go_msg r h bg _ ls
 | .num n a r,h,bg,s,ls=>go_msg r h bg _ ls
 | .br n a f o c bs r,h,bg,s,ls=>by
  rw[MkS.dS,MkS.qx,MkS.qx];split
  ·dsimp only;rw[go_msg r h bg,go_msg r h (fun _ s=>s)]
  ·dsimp only;rw[go_msg r h bg,go_msg r h (fun _ s=>s)]
 | .uf k a m r,h,bg,s,ls=>by cases h
theorem ZI(l:List Nat)(s:MkS):l.foldl (fun s i=>MkS.u7 s i 0) s=uk (l.map fun i=>(i,0)) s:=by
 unfold uk;rw[yq]
def Re(ks:List Wd)(t:Nat)(key:Wd):List (Nat×Nat):=((zW 6).filter fun c=>decide (Kq.getD c []=key\/key=qz/\Kq.getD c [] ∉ ks)).map fun c=>(t,c)
theorem P7(ks:List Wd)(t:Nat)(key:Wd)(s:MkS):MkS.IM ks t key s=uk (Re ks t key) s:=by
 unfold uk Re MkS.IM;rw[yq,List.foldl_filter];congr 1;funext s c;simp only[decide_eq_true_eq]
def Jk(n:Wd)(bs:Fo)(s:MkS)(k:Wd):List (Nat×Nat):=[((MkS.gM n bs s).1.code.length,MkS.place bs.keys k)]
theorem fN(n:Wd)(bs:Fo)(s:MkS)(k:Wd)(x:MkS):MkS.b7 n bs s k x=uk (Jk n bs s k) x:=rfl
def Y9(n o:Wd)(bs:Fo)(s:MkS)(k:Wd):List (Nat×Nat) :=
 match (MkS.kI n o bs s).2.lookup k with
 | some i=>[(i,0)]
 | none=>Re bs.keys (MkS.kI n o bs s).1.code.length k
theorem jw(n o:Wd)(bs:Fo)(s:MkS)(k:Wd)(x:MkS):MkS.jU n o bs s k x=uk (Y9 n o bs s k) x:=by
 unfold MkS.jU Y9
 cases h:(MkS.kI n o bs s).2.lookup k with
 | some i=>rfl
 | none=>exact P7 _ _ _ _
theorem Yz(n:Wd)(bs:Fo)(s:MkS):(MkS.gM n bs s).1.code=s.code/\(MkS.gM n bs s).1.pos=s.pos:=by
 obtain⟨_,_,_,d,e⟩:=MkS.Q9 bs (s.const n) [s.num n];obtain⟨_,z2,z3⟩:=vz s n;exact⟨d.trans z2,e.trans z3⟩
theorem bF:∀ (f:Fo) (s:MkS) (acc:List (Wd×Nat)),s.code <+: (MkS.qJ f s acc).1.code/\acc <+: (MkS.qJ f s acc).2/\∀ p∈(MkS.qJ f s acc).2,p∈acc\/s.code.length<=p.2/\p.2<(MkS.qJ f s acc).1.code.length
 | .uf k a m r,s,acc=>by
  rw[MkS.qJ];split
  ·obtain⟨h1,h2,h3⟩:=bF r (s.put 7 (xE k.tail) [] [0]) (acc++[(k,s.code.length)]);have hl:(s.put 7 (xE k.tail) [] [0]).code.length=s.code.length+1:=by simp[xM]
   have:=h1.length_le;refine⟨(show s.code <+: (s.put 7 (xE k.tail) [] [0]).code from zM _ _).trans h1,(zM _ _).trans h2,fun p hp=>?_⟩;rcases h3 p hp with q|q
   ·rw[zZ,z7] at q;rcases q with q|rfl
    ·exact .inl q
    ·exact .inr ⟨zk _,by show s.code.length<_;omega⟩
   ·exact .inr ⟨by omega,q.2⟩
  ·exact bF r s acc
 | .nil,s,acc=>⟨zx _,zx _,fun p hp => .inl hp⟩
 | .text _ _,s,acc=>⟨zx _,zx _,fun p hp => .inl hp⟩
 | .hash _,s,acc=>⟨zx _,zx _,fun p hp => .inl hp⟩
 | .put _ _ _,s,acc=>⟨zx _,zx _,fun p hp => .inl hp⟩
 | .num _ _ _,s,acc=>⟨zx _,zx _,fun p hp => .inl hp⟩
 | .br _ _ _ _ _ _ _,s,acc=>⟨zx _,zx _,fun p hp => .inl hp⟩
theorem Yy{l:List (Wd×Nat)}{k:Wd}{i:Nat}(h:l.lookup k=some i):(k,i)∈l:=by
 induction l with
 | nil=>cases h
 | cons p l ih =>
  obtain⟨a,b⟩:=p;rw[zX] at h
  cases hk:k==a
  ·rw[hk] at h;exact zf _ (ih h)
  ·rw[hk] at h;cases h;rw[beq_iff_eq] at hk;subst hk;exact zQ ..
theorem iD{l l':List (Wd×Nat)}{k:Wd}{i:Nat}(h:l.lookup k=some i)(hp:l <+: l'):l'.lookup k=some i:=by
 obtain⟨t,rfl⟩:=hp;induction l with
 | nil=>cases h
 | cons p l ih =>
  obtain⟨a,b⟩:=p;rw[zX] at h;rw[zO,zX]
  cases hk:k==a
  ·rw[hk] at h;exact ih h
  ·rw[hk] at h;exact h
theorem Wx{l:List (Wd×Nat)}{k:Wd}(h:l.lookup k=none)(i:Nat):(l++[(k,i)]).lookup k=some i:=by
 induction l with
 | nil=>rw[yx,zX,beq_self_eq_true]
 | cons p l ih =>
  obtain⟨a,b⟩:=p;rw[zX] at h;rw[zO,zX]
  cases hk:k==a
  ·rw[hk] at h;exact ih h
  ·rw[hk] at h;cases h
theorem EL{l:List (Wd×Nat)}{k k':Wd}(h:l.lookup k=none)(hn:k≠k')(i:Nat):(l++[(k',i)]).lookup k=none:=by
 induction l with
 | nil =>
  rw[yx,zX,show(k==k')=false from beq_eq_false_iff_ne.2 hn];rfl
 | cons p l ih =>
  obtain⟨a,b⟩:=p;rw[zX] at h;rw[zO,zX]
  cases hk:k==a
  ·rw[hk] at h;exact ih h
  ·rw[hk] at h;cases h
theorem KP(n o:Wd)(bs:Fo)(s:MkS):s.code.length+1<=(MkS.kI n o bs s).1.code.length/\(∀ (i:Nat) (x:j8),s.code[i]? = some x->(MkS.kI n o bs s).1.code[i]? = some x)/\∀ k,∀ p∈Y9 n o bs s k,s.code.length+1<=p.1/\p.1<=(MkS.kI n o bs s).1.code.length:=by
 obtain⟨h1,h2,h3⟩:=bF bs ((s.const n).put 4 (xE o) [s.num n] []) [];have hl:((s.const n).put 4 (xE o) [s.num n] []).code.length=s.code.length+1:=by simp[xM,(vz s n).2.1]
 have hle:=h1.length_le;rw[hl] at hle h3;refine⟨hle,fun i x hx=>?_,fun k p hp=>?_⟩
 ·obtain⟨t,ht⟩:=h1;show(MkS.qJ bs ((s.const n).put 4 (xE o) [s.num n] []) []).1.code[i]? = some x;rw[←ht,zy (by rw[hl];have:=(z8.1 hx).1;omega),xM,(vz s n).2.1,zy (z8.1 hx).1];exact hx
 ·unfold Y9 at hp;split at hp
  ·next i hi =>
   rw[z7] at hp;subst hp;rcases h3 _ (Yy hi) with q|q
   ·cases q
   ·exact⟨q.1,Nat.le_of_lt q.2⟩
  ·obtain⟨c,_,rfl⟩:=zV.1 hp;exact⟨hle,zk _⟩
theorem go_facts:∀ (f:Fo) (sl:Wd->List (Nat×Nat)) (bg:Wd->MkS->MkS),(∀ k x,bg k x=uk (sl k) x)->∀ (s:MkS) (ls:List Nat),
  s.code.length<=(MkS.qx f bg s ls).1.code.length/\(∀ e∈(MkS.qx f bg s ls).2,e∈ls\/s.code.length<=e/\e<(MkS.qx f bg s ls).1.code.length)/\(∀ e∈ls,e∈(MkS.qx f bg s ls).2) /\
  ∀ i,i<s.code.length->(∀ k,∀ p∈sl k,p.1≠i)->(MkS.qx f bg s ls).1.code[i]? = s.code[i]?
 | .nil,sl,bg,hb,s,ls=>⟨zk _,fun e he => .inl he,fun e he=>he,fun _ _ _=>rfl⟩
 | .text t r,sl,bg,hb,s,ls=>by
  have hl:(s.one 1 t).code=s.code++[⟨1,(s.const t).pos,0,[s.num t],[]⟩]:=by rw[MkS.one,xM,(vz s t).2.1]
  exact go_more (x:=⟨1,(s.const t).pos,0,[s.num t],[]⟩) hl (go_facts r sl bg hb (s.one 1 t) ls)
 | .hash r,sl,bg,hb,s,ls=>go_more rfl (go_facts r sl bg hb (s.put 6 0 [] []) ls)
 | .put n a r,sl,bg,hb,s,ls=>by
  have hl:(s.one 2 n).code=s.code++[⟨2,(s.const n).pos,0,[s.num n],[]⟩]:=by rw[MkS.one,xM,(vz s n).2.1]
  exact go_more hl (go_facts r sl bg hb (s.one 2 n) ls)
 | .num n a r,sl,bg,hb,s,ls=>by
  have hl:(s.one 3 n).code=s.code++[⟨3,(s.const n).pos,0,[s.num n],[]⟩]:=by rw[MkS.one,xM,(vz s n).2.1]
  exact go_more hl (go_facts r sl bg hb (s.one 3 n) ls)
 | .br n a f o c bs r,sl,bg,hb,s,ls=>by
  rw[MkS.qx];split
  ·have hS:(MkS.ky n bs s).code=s.code++[⟨10,(MkS.gM n bs s).1.pos,0,(MkS.gM n bs s).2,zG (MkS.gM n bs s).2.length 0⟩]:=by rw[MkS.ky,xM,(Yz n bs s).1]
   have hlen:(MkS.ky n bs s).code.length=s.code.length+1:=by rw[hS];simp
   obtain⟨a1,a2,a3,a4⟩:=go_facts bs (Jk n bs s) (MkS.b7 n bs s) (fN n bs s) (MkS.ky n bs s) [];dsimp only;rw[ZI];refine go_join (n:=s.code.length) ?_ ?_ (go_facts r sl bg hb _ ls)
   ·rw[(qF _ _).1];omega
   ·intro i hi;rw[dG _ _ _ (fun p hp=>?_),a4 i (by omega) (fun k p hp=>?_),hS,zy hi]
    ·rw[Jk,z7] at hp;subst hp;show(MkS.gM n bs s).1.code.length≠i;rw[(Yz n bs s).1];omega
    ·obtain⟨e,he,rfl⟩:=zV.1 hp;rcases a2 e he with q|q
     ·cases q
     ·show e≠i;omega
  ·obtain⟨b1,b2,b3⟩:=KP n o bs s;have hS:(MkS.qH n o f bs s).code=(MkS.kI n o bs s).1.code++[⟨if f=2 then 9 else 8,(MkS.kI n o bs s).1.pos,0,[],zG 6 0⟩]:=by rw[MkS.qH,xM]
   have hlen:(MkS.qH n o f bs s).code.length=(MkS.kI n o bs s).1.code.length+1:=by rw[hS];simp
   obtain⟨a1,a2,a3,a4⟩:=go_facts bs (Y9 n o bs s) (MkS.jU n o bs s) (jw n o bs s) (MkS.qH n o f bs s) [];dsimp only;rw[ZI];refine go_join (n:=s.code.length) ?_ ?_ (go_facts r sl bg hb _ ls)
   ·rw[xM,zJ,(qF _ _).1];omega
   ·intro i hi;obtain⟨x,hx⟩:∃ x,s.code[i]? = some x:=⟨_,zv hi⟩;rw[xM,zy (by rw[(qF _ _).1];omega),dG _ _ _ (fun p hp=>?_),a4 i (by omega) (fun k p hp=>?_),hS,zy (by omega),b2 i x hx,hx]
    ·have:=b3 k p hp;omega
    ·obtain⟨e,he,rfl⟩:=zV.1 hp;rcases a2 e he with q|q
     ·cases q
     ·show e≠i;omega
 | .uf k a m r,sl,bg,hb,s,ls=>by
  rw[MkS.qx];rw[hb];obtain⟨a1,a2,a3,a4⟩:=go_facts m (fun _=>[]) (fun _ s=>s) (fun _ _=>rfl) (uk (sl k) s) [];rw[(qF _ _).1] at a1 a2 a4;obtain⟨c1,c2,c3,c4⟩:=go_facts r sl bg hb ((MkS.qx m (fun _ s=>s) (uk (sl k) s) []).1.put 11 0 [] [0]) (ls++[(MkS.qx m (fun _ s=>s) (uk (sl k) s) []).1.code.length]);rw[xM,zJ] at c1 c2 c4;simp only[zw,List.length_nil] at c1 c2 c4;refine⟨by omega,fun e he=>?_,fun e he=>c3 e (List.mem_append_left _ he),fun i hi hp=>?_⟩
  ·rcases c2 e he with q|q
   ·rw[zZ,z7] at q;rcases q with q|rfl
    ·exact .inl q
    ·exact .inr ⟨by omega,by omega⟩
   ·exact .inr ⟨by omega,q.2⟩
  ·rw[c4 i (by omega) hp,zy (by omega),a4 i hi (fun _ _ q=>by cases q),dG _ _ _ (fun p h=>hp k p h)]
where
 go_join {n:Nat} {s s':MkS} {ls:List Nat} {r:MkS×List Nat} {sl:Wd->List (Nat×Nat)} (h1:s.code.length<=s'.code.length) (h2:∀ i,i<s.code.length->s'.code[i]? = s.code[i]?)
   (h:s'.code.length<=r.1.code.length/\(∀ e∈r.2,e∈ls\/s'.code.length<=e/\e<r.1.code.length)/\(∀ e∈ls,e∈r.2)/\∀ i,i<s'.code.length->(∀ k,∀ p∈sl k,p.1≠i)->r.1.code[i]? = s'.code[i]?) :
   s.code.length<=r.1.code.length/\(∀ e∈r.2,e∈ls\/s.code.length<=e/\e<r.1.code.length)/\(∀ e∈ls,e∈r.2)/\∀ i,i<s.code.length->(∀ k,∀ p∈sl k,p.1≠i)->r.1.code[i]? = s.code[i]? := by
  obtain⟨a,b,c,d⟩:=h;exact⟨by omega,fun e he=>(b e he).imp id (fun q=>⟨by omega,q.2⟩),c,fun i hi hp=>(d i (by omega) hp).trans (h2 i hi)⟩
 go_more {s s':MkS} {x:j8} {ls:List Nat} {r:MkS×List Nat} {sl:Wd->List (Nat×Nat)} (hx:s'.code=s.code++[x])
   (h:s'.code.length<=r.1.code.length/\(∀ e∈r.2,e∈ls\/s'.code.length<=e/\e<r.1.code.length)/\(∀ e∈ls,e∈r.2)/\∀ i,i<s'.code.length->(∀ k,∀ p∈sl k,p.1≠i)->r.1.code[i]? = s'.code[i]?) :
   s.code.length<=r.1.code.length/\(∀ e∈r.2,e∈ls\/s.code.length<=e/\e<r.1.code.length)/\(∀ e∈ls,e∈r.2)/\∀ i,i<s.code.length->(∀ k,∀ p∈sl k,p.1≠i)->r.1.code[i]? = s.code[i]? :=
  go_join (n:=0) (by rw[hx];simp) (fun i hi=>by rw[hx,zy hi]) h
theorem gU{P:MkS->Prop}(I:qI P)(l:List (Nat×Nat))(s:MkS)(h:P s):P (uk l s):=MkS.fK P _ (fun s p hs=>I.u7 s p.1 p.2 hs) l s h
theorem go_inv{P:MkS->Prop}(I:qI P)(f:Fo){sl:Wd->List (Nat×Nat)}{bg:Wd->MkS->MkS}(hb:∀ k x,bg k x=uk (sl k) x)(s:MkS)(ls:List Nat)(h:P s):P (MkS.qx f bg s ls).1 :=
 I.go f bg s ls (fun k s hs=>by rw[hb];exact gU I _ _ hs) h
theorem EM{P:MkS->Prop}(I:qI P)(f:Fo)(s:MkS)(h:P s):P (MkS.dS f s):=I.go f _ s [] (fun _ _ h=>h) h
theorem QC(s:MkS):∀ (i:Nat) (x:j8),s.code[i]? = some x->∃ y,s.code[i]? = some y/\Rc y=Rc x:=fun i x h=>⟨x,h,rfl⟩
theorem gQ(f:Fo)(s:MkS):s.code.length<=(MkS.dS f s).code.length/\∀ i,i<s.code.length->(MkS.dS f s).code[i]? = s.code[i]? := by
 obtain⟨a,_,_,d⟩:=go_facts f (fun _=>[]) (fun _ s=>s) (fun _ _=>rfl) s [];exact⟨a,fun i hi=>d i hi (fun _ _ q=>by cases q)⟩
theorem Ri(n:Wd)(a:Nat)(o:Wd)(c:Nat)(bs r:Fo)(s:MkS)(hr:r.vG=true) :
  MkS.dS (.br n a 0 o c bs r) s=MkS.dS r (uk ((MkS.qx bs (MkS.b7 n bs s) (MkS.ky n bs s) []).2.map fun i=>(i,0)) (MkS.qx bs (MkS.b7 n bs s) (MkS.ky n bs s) []).1):=by
 rw[MkS.dS,MkS.qx,if_pos rfl,go_msg r hr,←ZI]
theorem Rl(n:Wd)(a f:Nat)(o:Wd)(c:Nat)(bs r:Fo)(s:MkS)(hf:f≠0)(hr:r.vG=true) :
  MkS.dS (.br n a f o c bs r) s=MkS.dS r ((uk ((MkS.qx bs (MkS.jU n o bs s) (MkS.qH n o f bs s) []).2.map fun i=>(i,0)) (MkS.qx bs (MkS.jU n o bs s) (MkS.qH n o f bs s) []).1).put 5 0 [] []):=by
 rw[MkS.dS,MkS.qx,if_neg hf,go_msg r hr,←ZI]
theorem Bt(n:Wd)(bs:Fo)(s:MkS):(MkS.ky n bs s).code=s.code++[⟨10,s.pos,0,(MkS.gM n bs s).2,zG (MkS.gM n bs s).2.length 0⟩]:=by
 rw[MkS.ky,xM,(Yz n bs s).1,(Yz n bs s).2]
theorem Bh(n o:Wd)(f:Nat)(bs:Fo)(s:MkS):(MkS.qH n o f bs s).code=(MkS.kI n o bs s).1.code++[⟨if f=2 then 9 else 8,(MkS.kI n o bs s).1.pos,0,[],zG 6 0⟩]:=rfl
theorem Rm(n o:Wd)(bs:Fo)(s:MkS):(MkS.kI n o bs s).1.code[s.code.length]? = some ⟨4,s.pos,xE o,[s.num n],[]⟩:=by
 obtain⟨⟨t,ht⟩,_⟩:=bF bs ((s.const n).put 4 (xE o) [s.num n] []) [];rw[MkS.kI,←ht,xM,(vz s n).2.1,(vz s n).2.2];rw[zr,zu (zk _)];simp
theorem Bw:∀ (f:Fo),f.vG=true->∀ (s:MkS),((MkS.dS f s).code.length=s.code.length/\(MkS.dS f s).pos=s.pos)\/∃ x,(MkS.dS f s).code[s.code.length]? = some x/\x.pos=s.pos:=by
 have key:∀ (r:Fo) (s s':MkS) (x:j8),s'.code[s.code.length]? = some x->x.pos=s.pos->∃ x,(MkS.dS r s').code[s.code.length]? = some x/\x.pos=s.pos:=by
  intro r s s' x hx hp;exact⟨x,by rw[(gQ r s').2 _ (z8.1 hx).1];exact hx,hp⟩
 have ri:∀ (s s':MkS) (op v:Nat) (k tg:List Nat),s'.code=s.code->s'.pos=s.pos->(s'.put op v k tg).code[s.code.length]? = some ⟨op,s.pos,v,k,tg⟩:=by
  intro s s' op v k tg h1 h2;rw[xM,h1,h2,zu (zk _)];simp
 intro f hf s
 cases f with
 | nil=>exact .inl ⟨rfl,rfl⟩
 | text t r=>exact .inr (key r s (s.one 1 t) _ (ri s (s.const t) _ _ _ _ (vz s t).2.1 (vz s t).2.2) rfl)
 | hash r=>exact .inr (key r s (s.put 6 0 [] []) _ (ri s s _ _ _ _ rfl rfl) rfl)
 | put n a r=>exact .inr (key r s (s.one 2 n) _ (ri s (s.const n) _ _ _ _ (vz s n).2.1 (vz s n).2.2) rfl)
 | num n a r=>exact .inr (key r s (s.one 3 n) _ (ri s (s.const n) _ _ _ _ (vz s n).2.1 (vz s n).2.2) rfl)
 | br n a f o c bs r =>
  right;by_cases h0:f=0
  ·subst h0;rw[Ri n a o c bs r s hf];have h1:(MkS.ky n bs s).code[s.code.length]? = some ⟨10,s.pos,0,(MkS.gM n bs s).2,zG (MkS.gM n bs s).2.length 0⟩:=by
    rw[Bt,zu (zk _)];simp
   obtain⟨y,h2,h3⟩:=gU (ZS (MkS.ky n bs s)) ((MkS.qx bs (MkS.b7 n bs s) (MkS.ky n bs s) []).2.map fun i=>(i,0)) _ (go_inv (ZS (MkS.ky n bs s)) bs (fN n bs s) _ [] (QC _)) _ _ h1;exact key r s _ y h2 (by simp only[Rc,zt] at h3;exact h3.2.1)
  ·rw[Rl n a f o c bs r s h0 hf];have h1:(MkS.qH n o f bs s).code[s.code.length]? = some ⟨4,s.pos,xE o,[s.num n],[]⟩:=by
    have:=(KP n o bs s).1;rw[Bh,zy (by omega)];exact Rm n o bs s
   obtain⟨y,h2,h3⟩:=(ZS (MkS.qH n o f bs s)).put _ 5 0 [] [] (gU (ZS (MkS.qH n o f bs s)) ((MkS.qx bs (MkS.jU n o bs s) (MkS.qH n o f bs s) []).2.map fun i=>(i,0)) _ (go_inv (ZS (MkS.qH n o f bs s)) bs (jw n o bs s) _ [] (QC _))) _ _ h1;exact key r s _ y h2 (by simp only[Rc,zt] at h3;exact h3.2.1)
 | uf k a m r=>cases hf
theorem C0:∀ (f:Fo) (sl:Wd->List (Nat×Nat)) (bg:Wd->MkS->MkS),(∀ k x,bg k x=uk (sl k) x)->f.uv=true->∀ (s:MkS) (ls:List Nat) (q:Nat×Nat),q.1<s.code.length->(∀ k∈f.keys,q ∉ sl k)->slot (MkS.qx f bg s ls).1 q=slot s q
 | .uf k a m r,sl,bg,hb,hl,s,ls,q,hq,hk=>by
  rw[MkS.qx,hb];obtain⟨a1,a2⟩:=gQ m (uk (sl k) s);rw[(qF _ _).1] at a1 a2;show slot (MkS.qx r bg ((MkS.dS m (uk (sl k) s)).put 11 0 [] [0]) _).1 q=_;rw[C0 r sl bg hb hl _ _ q (by rw[xM,zJ];omega) (fun k' h'=>hk k' (zf _ h')),FE _ _ _ _ _ _ (by omega),G6 (a2 _ hq),fM,if_neg (fun e=>hk k (zQ ..) e.1)]
 | .nil,_,_,_,_,_,_,_,_,_=>rfl
 | .text _ _,_,_,_,h,_,_,_,_,_=>by cases h
 | .hash _,_,_,_,h,_,_,_,_,_=>by cases h
 | .put _ _ _,_,_,_,h,_,_,_,_,_=>by cases h
 | .num _ _ _,_,_,_,h,_,_,_,_,_=>by cases h
 | .br _ _ _ _ _ _ _,_,_,_,h,_,_,_,_,_=>by cases h
theorem FH:∀ (f:Fo) (s:MkS) (acc:List (Wd×Nat)),∀ p∈(MkS.qJ f s acc).2,p∈acc\/p.1.head? = some 61
 | .uf k a m r,s,acc,p,hp=>by
  rw[MkS.qJ] at hp;split at hp
  ·next hk =>
   rcases FH r _ _ p hp with q|q
   ·rw[zZ,z7] at q;rcases q with q|rfl
    ·exact .inl q
    ·exact .inr hk
   ·exact .inr q
  ·exact FH r s acc p hp
 | .nil,_,_,_,hp => .inl hp
 | .text _ _,_,_,_,hp => .inl hp
 | .hash _,_,_,_,hp => .inl hp
 | .put _ _ _,_,_,_,hp => .inl hp
 | .num _ _ _,_,_,_,hp => .inl hp
 | .br _ _ _ _ _ _ _,_,_,_,hp => .inl hp
theorem EN:∀ (f:Fo) (s:MkS) (acc:List (Wd×Nat)),(∀ p∈acc,p.2<s.code.length)->(∀ p∈acc,∀ q∈acc,p.2=q.2->p=q)->∀ p∈(MkS.qJ f s acc).2,∀ q∈(MkS.qJ f s acc).2,p.2=q.2->p=q
 | .uf k a m r,s,acc,h1,h2=>by
  rw[MkS.qJ];split
  ·refine EN r _ _ (fun p hp=>?_) (fun p hp q hq e=>?_)
   ·rw[xM,zJ];rw[zZ,z7] at hp;rcases hp with hp|rfl
    ·have:=h1 p hp;simp;omega
    ·simp
   ·rw[zZ,z7] at hp hq;rcases hp with hp|rfl
    ·rcases hq with hq|rfl
     ·exact h2 p hp q hq e
     ·have:=h1 p hp;simp only at e;omega
    ·rcases hq with hq|rfl
     ·have:=h1 q hq;simp only at e;omega
     ·rfl
  ·exact EN r s acc h1 h2
 | .nil,_,_,_,h2=>h2
 | .text _ _,_,_,_,h2=>h2
 | .hash _,_,_,_,h2=>h2
 | .put _ _ _,_,_,_,h2=>h2
 | .num _ _ _,_,_,_,h2=>h2
 | .br _ _ _ _ _ _ _,_,_,_,h2=>h2
section
variable {τ:Type} {E:qL τ} {s:MkS}
def eqP(v:vq)(k:Wd):Bool:=decide (k.head? = some 61) && dU v (xE k.tail)
theorem qe{k:Nat}{x:j8}(h:s.code[k]? = some x)(r:bo τ):jR E s k r=ui E s x k r:=by unfold jR;rw[h]
theorem QE(h:Jq s){k:Nat}{x:j8}(hx:s.code[k]? = some x){p:Nat}(hp:x.pos=p)(r:bo τ):Mt s (some p) r = .go k r:=by
 subst hp;simp only[Mt,iF h hx]
theorem fO{x y:j8}(h:Rc y=Rc x):y.op=x.op/\y.pos=x.pos/\y.v=x.v/\y.k=x.k/\y.tg.length=x.tg.length:=by
 simpa[Rc] using h
theorem EO(v z:vq):∀ (bs:Fo) (s0:MkS) (acc:List (Wd×Nat)),bs.uv=true->bs.keys.Nodup->(∀ k∈bs.keys,acc.lookup k=none)->(∀ (i:Nat) (x:j8),s0.code.length<=i->(MkS.qJ bs s0 acc).1.code[i]? = some x->∃ y,s.code[i]? = some y/\Rc y=Rc x) ->
  match bs.keys.find? (eqP v) with
  | none=>∀ (o:Wd) (g:τ) (stk:List (vq×vq)),stk.getLast? = some (v,z)->Steps (jR E s) s0.code.length ⟨o,stk,g⟩ (MkS.qJ bs s0 acc).1.code.length ⟨o,stk,g⟩
  | some k=>∃ i x,(MkS.qJ bs s0 acc).2.lookup k=some i/\(MkS.qJ bs s0 acc).1.code[i]? = some x/\x.op=7/\x.tg.length=1/\dU v x.v=true /\
    ∀ (o:Wd) (g:τ) (stk:List (vq×vq)),stk.getLast? = some (v,z)->Steps (jR E s) s0.code.length ⟨o,stk,g⟩ i ⟨o,stk,g⟩
 | .uf k a m r,s0,acc,hl,hd,ha,hs=>by
  have ni:=yy.1 (show(k::r.keys).Nodup from hd);rw[show(Fo.uf k a m r).keys=k::r.keys from rfl,List.find?_cons];rw[MkS.qJ] at hs ⊢;by_cases hk:k.head? = some 61
  ·rw[if_pos hk] at hs ⊢;obtain⟨⟨t,ht⟩,h2,h3⟩:=bF r (s0.put 7 (xE k.tail) [] [0]) (acc++[(k,s0.code.length)]);have hx:(MkS.qJ r (s0.put 7 (xE k.tail) [] [0]) (acc++[(k,s0.code.length)])).1.code[s0.code.length]? = some ⟨7,s0.pos,xE k.tail,[],[0]⟩:=by
    rw[←ht,xM,zr,zu (zk _)];simp
   obtain⟨y,hy,PA⟩:=hs _ _ (zk _) hx;obtain⟨e1,e2,e3,e4,e5⟩:=fO PA;have hp:eqP v k=dU v (xE k.tail):=by unfold eqP;simp[hk]
   cases gY:dU v (xE k.tail)
   ·rw[hp,gY];have ih:=EO v z r (s0.put 7 (xE k.tail) [] [0]) (acc++[(k,s0.code.length)]) hl ni.2 (fun k' h'=>EL (ha k' (zf _ h')) (fun e=>ni.1 (by rw[←e];exact h')) _) (fun i x hi=>hs i x (by rw[xM] at hi;simp at hi;omega));have hlen:(s0.put 7 (xE k.tail) [] [0]).code.length=s0.code.length+1:=by rw[xM];simp
    rw[hlen] at ih;have vH:∀ (o:Wd) (g:τ) (stk:List (vq×vq)),stk.getLast? = some (v,z)->Steps (jR E s) s0.code.length ⟨o,stk,g⟩ (s0.code.length+1) ⟨o,stk,g⟩:=by
     intro o g stk Xy;refine Steps.one ?_;rw[qe hy];unfold ui;rw[e1];simp only[Xy,e3,gY];rfl
    dsimp only;split at ih
    ·next hf=>rw[hf];exact fun o g stk Xy=>(vH o g stk Xy).trans (ih o g stk Xy)
    ·next k' hf =>
     rw[hf];obtain⟨i,x,h1,h2,h3,h4,h5,h6⟩:=ih;exact⟨i,x,h1,h2,h3,h4,h5,fun o g stk Xy=>(vH o g stk Xy).trans (h6 o g stk Xy)⟩
   ·rw[hp,gY];exact⟨s0.code.length,_,iD (Wx (ha k (zQ ..)) _) h2,hx,rfl,rfl,gY,fun o g stk Xy=>Steps.refl _ _⟩
  ·rw[if_neg hk] at hs ⊢;have hp:eqP v k=false:=by unfold eqP;simp[hk]
   rw[hp];exact EO v z r s0 acc hl ni.2 (fun k' h'=>ha k' (zf _ h')) hs
 | .nil,s0,acc,_,_,_,_=>fun o g stk _=>Steps.refl _ _
 | .text _ _,_,_,h,_,_,_=>by cases h
 | .hash _,_,_,h,_,_,_=>by cases h
 | .put _ _ _,_,_,h,_,_,_=>by cases h
 | .num _ _ _,_,_,h,_,_,_=>by cases h
 | .br _ _ _ _ _ _ _,_,_,h,_,_,_=>by cases h
end
def zzb{τ:Type}(E:qL τ)(f:Fo):Prop:=f.vG=true->∀ (b:Bool),f.Bs b->∀ (s0 s:MkS),
 (∀ i,s0.code.length<=i->i<(MkS.dS f s0).code.length->s.code[i]? = (MkS.dS f s0).code[i]?)->(MkS.dS f s0).cs <+: s.cs->Jq s->(∃ x,s.code[(MkS.dS f s0).code.length]? = some x/\x.pos=(MkS.dS f s0).pos) ->
 ∀ (k:Wd) (x:vq) (o:Wd) (g:τ) (stk:List (vq×vq)),(b=true->∃ n,stk.getLast? = some (n,x))->JN (jR E s) s0.code.length ⟨o,stk,g⟩ (MkS.dS f s0).code.length stk (jS E f k x o g)
def zy0{τ:Type}(E:qL τ)(bs:Fo):Prop:=bs.uv=true->∀ (b:Bool),bs.Bs b->∀ (sl:Wd->List (Nat×Nat)) (bg:Wd->MkS->MkS),(∀ k x,bg k x=uk (sl k) x)->∀ (s2:MkS) (ls:List Nat) (K:Wd),bs.keys.Nodup->K∈bs.keys ->
 (∀ k,∀ p∈sl k,p.1<s2.code.length)->(∀ e∈ls,e<s2.code.length) ->
 ∃ a p e xa xe,s2.code.length<=a/\a<=e/\e<(MkS.qx bs bg s2 ls).1.code.length/\e∈(MkS.qx bs bg s2 ls).2/\(∀ i,a<=i->i<e->i ∉ (MkS.qx bs bg s2 ls).2) /\
  (MkS.qx bs bg s2 ls).1.code[e]? = some xe/\xe.op=11/\xe.tg.length=1/\(MkS.qx bs bg s2 ls).1.code[a]? = some xa/\xa.pos=p /\
  (∀ q∈sl K,(slot s2 q).isSome->(∀ k'∈bs.keys,k'≠K->q ∉ sl k')->slot (MkS.qx bs bg s2 ls).1 q=some p) /\
  ∀ s:MkS,(∀ i,a<=i->i<e->s.code[i]? = (MkS.qx bs bg s2 ls).1.code[i]?)->(∃ z,s.code[e]? = some z/\z.pos=xe.pos)->(MkS.qx bs bg s2 ls).1.cs <+: s.cs->Jq s ->
   ∀ (x:vq) (o:Wd) (g:τ) (stk:List (vq×vq)),(b=true->∃ n,stk.getLast? = some (n,x))->JN (jR E s) a ⟨o,stk,g⟩ e stk (jS E bs K x o g)
section
variable {τ:Type} {E:qL τ}
theorem QH{r:Fo}(hr:zzb E r)(hm:r.vG=true){b:Bool}(hv:r.Bs b){s0 s1 s:MkS}{x:j8}(h1:s1.code=s0.code++[x])(ha:∀ i,s0.code.length<=i->i<(MkS.dS r s1).code.length->s.code[i]? = (MkS.dS r s1).code[i]?)(dB:(MkS.dS r s1).cs <+: s.cs)(hp:Jq s)
  (hn:∃ x,s.code[(MkS.dS r s1).code.length]? = some x/\x.pos=(MkS.dS r s1).pos) {z:vq} {stk:List (vq×vq)} (hs:b=true->∃ n,stk.getLast? = some (n,z)) (k:Wd) :
  s.code[s0.code.length]? = some x/\s1.cs <+: s.cs/\s0.code.length<(MkS.dS r s1).code.length/\∀ (o:Wd) (g:τ),JN (jR E s) (s0.code.length+1) ⟨o,stk,g⟩ (MkS.dS r s1).code.length stk (jS E r k z o g):=by
 have hl:s1.code.length=s0.code.length+1:=by rw[h1];simp
 obtain⟨a1,a2⟩:=gQ r s1;refine⟨?_,(EM (Z3 s1.cs) r s1 (zx _)).trans dB,by omega,fun o g=>?_⟩
 ·rw[ha _ (zk _) (by omega),a2 _ (by omega),h1,zu (zk _)];simp
 ·have:=hr hm b hv s1 s (fun i h1 h2=>ha i (by omega) h2) dB hp hn k z o g stk hs;rw[hl] at this;exact this
theorem EP{s0 s:MkS}(t:Wd)(h:(s0.const t).cs <+: s.cs):s.cs[s0.num t]? = some t:=by
 obtain⟨u,hu⟩:=h;have h1:(s0.const t).cs[s0.num t]? = some t:=by
  unfold MkS.const MkS.num;by_cases ht:t∈s0.cs
  ·rw[if_pos ht];rw[zv (zU ht),zN]
  ·rw[if_neg ht];simp only;rw[zF ht,zu (zk _)];simp
 rw[←hu,zy (z8.1 h1).1];exact h1
theorem FI:∀ (bs:Fo) (s:MkS) (acc:List Nat) (c:List Wd),bs.uv=true->(MkS.ki bs s acc).1.cs <+: c->∃ t,(MkS.ki bs s acc).2=acc++t/\t.map (fun j=>c[j]?)=(bs.keys.filter (· ≠ qz)).map some
 | .uf k a m r,s,acc,c,hl,hc=>by
  rw[MkS.ki] at hc ⊢;rw[show(Fo.uf k a m r).keys=k::r.keys from rfl];by_cases hk:k=qz
  ·rw[if_pos hk] at hc ⊢;rw[List.filter_cons_of_neg (by simp[hk])];exact FI r s acc c hl hc
  ·rw[if_neg hk] at hc ⊢;rw[List.filter_cons_of_pos (by simp[hk])];obtain⟨t,h1,h2⟩:=FI r (s.const k) (acc++[s.num k]) c hl hc;have h3:(s.const k).cs <+: c:=((Z3 (s.const k).cs).ki r (s.const k) _ (zx _)).trans hc;refine⟨s.num k::t,by rw[h1];simp,?_⟩;rw[za,za,h2,EP (s:=⟨c,[],0⟩) k h3]
 | .nil,s,acc,c,_,_=>⟨[],by simp[MkS.ki],rfl⟩
 | .text _ _,_,_,_,h,_=>by cases h
 | .hash _,_,_,_,h,_=>by cases h
 | .put _ _ _,_,_,_,h,_=>by cases h
 | .num _ _ _,_,_,_,h,_=>by cases h
 | .br _ _ _ _ _ _ _,_,_,_,h,_=>by cases h
theorem iB(l:List Wd)(t:Wd):(l.map some).idxOf (some t)=l.idxOf t:=by
 induction l with
 | nil=>rfl
 | cons a l ih =>
  rw[za,yv,yv,ih];rfl
theorem Wv{ks:List Wd}{k k':Wd}(h:k∈ks)(h':k'∈ks)(he:MkS.place ks k=MkS.place ks k'):k=k':=by
 unfold MkS.place at he;have dp:∀ {x},x∈ks->¬x=qz->x∈ks.filter (· ≠ qz):=fun hx hn=>zH.2 ⟨hx,by simpa using hn⟩
 split at he
 ·next h1 =>
  split at he
  ·next h2=>rw[h1,h2]
  ·next h2=>have:=zU (dp h' h2);omega
 ·next h1 =>
  split at he
  ·next h2=>have:=zU (dp h h1);omega
  ·next h2 =>
   have e1:=zN (zU (dp h h1));have e2:=zN (zU (dp h' h2));rw[←e1,←e2];congr 1
theorem iC{ks:List Wd}(k:Wd):MkS.place ks k<=(ks.filter (· ≠ qz)).length:=by
 unfold MkS.place;split
 ·exact zk _
 ·exact zl
theorem Wu(ks:List Wd)(t:Wd):(ks.filter (· ≠ qz)).idxOf t=MkS.place ks (YN ks t):=by
 unfold MkS.place YN;by_cases h:t∈ks
 ·rw[if_pos h];by_cases h2:t=qz
  ·rw[if_pos h2,zF (by simp[h2])]
  ·rw[if_neg h2]
 ·rw[if_neg h,if_pos rfl,zF (fun q=>h (zH.1 q).1)]
theorem VK{s:MkS}{i j p:Nat}(h:slot s (i,j)=some p):∃ x,s.code[i]? = some x/\x.tg[j]? = some p:=by
 unfold slot at h
 cases hc:s.code[i]? with
 | none=>rw[hc] at h;cases h
 | some x=>rw[hc] at h;exact⟨x,rfl,h⟩
end
section
variable {τ:Type} {E:qL τ}
theorem Xr{s0 s:MkS}(t:Wd)(h:(s0.const t).cs <+: s.cs)(x:j8){l:List Nat}(hx:x.k=s0.num t::l):Y2 s x=some t:=by
 unfold Y2;rw[hx];exact EP t h
theorem FL{bs:Fo}(hb:zy0 E bs)(hl:bs.uv=true){b:Bool}(hv:bs.Bs b){sl:Wd->List (Nat×Nat)}{bg:Wd->MkS->MkS}(DL:∀ k x,bg k x=uk (sl k) x){s2:MkS}{K:Wd}(hd:bs.keys.Nodup)(hK:K∈bs.keys)(ue:∀ k,∀ p∈sl k,p.1<s2.code.length)
  {s:MkS} (hp:Jq s) {sE:MkS} (Wq:sE=uk ((MkS.qx bs bg s2 []).2.map fun i=>(i,0)) (MkS.qx bs bg s2 []).1) (hse:∀ i,s2.code.length<=i->i<sE.code.length->s.code[i]? = sE.code[i]?) (dB:sE.cs <+: s.cs) (hn:∃ x,s.code[sE.code.length]? = some x/\x.pos=sE.pos) :
  ∃ (a:Nat) (xa:j8),s2.code.length<=a/\s.code[a]? = some xa/\(∀ q∈sl K,(slot s2 q).isSome->(∀ k'∈bs.keys,k'≠K->q ∉ sl k')->slot sE q=some xa.pos)/\∀ (x:vq) (o:Wd) (g:τ) (stk:List (vq×vq)),(b=true->∃ n,stk.getLast? = some (n,x))->JN (jR E s) a ⟨o,stk,g⟩ sE.code.length stk (jS E bs K x o g):=by
 obtain⟨a,p,e,xa,xe,h1,h2,h3,h4,h5,h6,h7,h8,h9,dw,Jc,Gj⟩:=hb hl b hv sl bg DL s2 [] K hd hK ue (fun e he=>by cases he);obtain⟨f1,f2,f3,f4⟩:=go_facts bs sl bg DL s2 [];have hlen:sE.code.length=(MkS.qx bs bg s2 []).1.code.length:=by rw[Wq,(qF _ _).1]
 have jm:sE.pos=(MkS.qx bs bg s2 []).1.pos:=by rw[Wq,(qF _ _).2.1]
 have hcE:sE.cs=(MkS.qx bs bg s2 []).1.cs:=by rw[Wq,(qF _ _).2.2]
 have shE:=gU (ZS (MkS.qx bs bg s2 []).1) ((MkS.qx bs bg s2 []).2.map fun i=>(i,0)) _ (QC _);rw[←Wq] at shE;obtain⟨ya,th,wz⟩:=shE a xa h9;obtain⟨ye,Cp,Co⟩:=shE e xe h6;have sa:s.code[a]? = some ya:=(hse a h1 (by omega)).trans th;have se:s.code[e]? = some ye:=(hse e (by omega) (by omega)).trans Cp;obtain⟨_,pa,_⟩:=fO wz;obtain⟨oe,pe,_,_,te⟩:=fO Co;refine⟨a,ya,h1,sa,fun q hq K6 j9=>?_,fun x o g stk vH=>?_⟩
 ·rw[Wq,fM,if_neg (fun h=>?_),Jc q hq K6 j9,pa,dw];obtain⟨e',he',rfl⟩:=zV.1 h.1;have:=ue K _ hq;rcases f2 e' he' with r|r
  ·cases r
  ·simp only at this;omega
 ·have run:=Gj s (fun i UN CK=>by
   rw[hse i (by omega) (by omega),Wq,dG];intro p hp;obtain⟨e',he',rfl⟩:=zV.1 hp;exact fun q=>h5 i UN CK (by simp only at q;rw[←q];exact he')) ⟨ye,se,pe⟩ (by rw[←hcE];exact dB) hp x o g stk vH
  cases hr:jS E bs K x o g with
  | error er=>rw[hr] at run;exact run.far (by omega)
  | ok pr =>
   rw[hr] at run;refine Steps.trans run (Steps.one ?_);have zr7:slot sE (e,0)=some sE.pos:=by
    have VV:(slot (MkS.qx bs bg s2 []).1 (e,0)).isSome=true:=by
     unfold slot;rw[h6];show(xe.tg[0]?).isSome=true;rw[zv (by omega)];rfl
    rw[jm,Wq,fM,if_pos ⟨zV.2 ⟨e,h4,rfl⟩,VV⟩]
   obtain⟨z,Uu,Uf⟩:=VK ((G6 (p:=(e,0)) (hse e (by omega) (by omega))).trans zr7);rw[se] at Uu
   cases Uu;rw[qe se];unfold ui;rw[oe,h7,Uf];obtain⟨xn,Zk,dC⟩:=hn;exact QE hp Zk dC _
end
theorem FM{s2:MkS}{i j:Nat}{x:j8}(h:s2.code[i]? = some x)(hj:j<x.tg.length):(slot s2 (i,j)).isSome=true:=by
 unfold slot;rw[h];show(x.tg[j]?).isSome=true;rw[zv hj];rfl
section
variable {τ:Type} {E:qL τ} (hE:∀ b d,E.sort b d<6)
include hE
theorem ji:∀ f:Fo,zzb E f/\zy0 E f
 | .nil=>⟨fun _ b _ s0 s _ _ _ _ k x o g stk _=>Steps.refl _ _,fun _ _ _ _ _ _ _ _ _ _ hK=>by cases hK⟩
 | .text t r=>⟨fun hm b hv s0 s ha dB hp hn k x o g stk hs=>by
   obtain⟨c1,c2,c4,c3⟩:=QH (ji r).1 hm hv (s0:=s0) (s1:=s0.one 1 t) (x:=⟨1,(s0.const t).pos,0,[s0.num t],[]⟩) (by rw[MkS.one,xM,(vz s0 t).2.1]) ha dB hp hn hs k;refine JN.after (Steps.one ?_) (c3 (o++t) g);rw[qe c1];unfold ui;simp only[Xr (s0:=s0) t c2 ⟨1,(s0.const t).pos,0,[s0.num t],[]⟩ rfl];,fun h=>by cases h⟩
 | .hash r=>⟨fun hm b hv s0 s ha dB hp hn k x o g stk hs=>by
   obtain⟨c1,c2,c4,c3⟩:=QH (ji r).1 hm hv.2 (s0:=s0) (s1:=s0.put 6 0 [] []) rfl ha dB hp hn hs k;refine JN.after (Steps.one ?_) (c3 (o++E.wr x) g);obtain⟨n,Xy⟩:=hs hv.1;rw[qe c1];unfold ui;simp only[Xy];,fun h=>by cases h⟩
 | .put n a r=>⟨fun hm b hv s0 s ha dB hp hn k x o g stk hs=>by
   obtain⟨c1,c2,c4,c3⟩:=QH (ji r).1 hm hv (s0:=s0) (s1:=s0.one 2 n) (x:=⟨2,(s0.const n).pos,0,[s0.num n],[]⟩) (by rw[MkS.one,xM,(vz s0 n).2.1]) ha dB hp hn hs k;have hc:=Xr (s0:=s0) n c2 ⟨2,(s0.const n).pos,0,[s0.num n],[]⟩ rfl;simp only[jS]
   cases h:YL E n g with
   | error e =>
    obtain⟨e,g'⟩:=e;refine JN.err (r':=⟨o,stk,g'⟩) ?_ c4;rw[qe c1];unfold ui;simp only[hc,h]
   | ok p =>
    obtain⟨⟨t,num⟩,g'⟩:=p;refine JN.after (Steps.one ?_) (c3 _ g');rw[qe c1];unfold ui;simp only[hc,h]
   ,fun h=>by cases h⟩
 | .num n a r=>⟨fun hm b hv s0 s ha dB hp hn k x o g stk hs=>by
   obtain⟨c1,c2,c4,c3⟩:=QH (ji r).1 hm hv (s0:=s0) (s1:=s0.one 3 n) (x:=⟨3,(s0.const n).pos,0,[s0.num n],[]⟩) (by rw[MkS.one,xM,(vz s0 n).2.1]) ha dB hp hn hs k;have hc:=Xr (s0:=s0) n c2 ⟨3,(s0.const n).pos,0,[s0.num n],[]⟩ rfl;simp only[jS]
   cases h:YM E n g with
   | error e =>
    obtain⟨e,g'⟩:=e;refine JN.err (r':=⟨o,stk,g'⟩) ?_ c4;rw[qe c1];unfold ui;simp only[hc,h]
   | ok p =>
    obtain⟨v,g'⟩:=p;refine JN.after (Steps.one ?_) (c3 _ g');rw[qe c1];unfold ui;simp only[hc,h]
   ,fun h=>by cases h⟩
 | .br n a f off c bs r=>⟨fun hm b hv s0 s ha dB hp hn k x o g stk hs=>by
   obtain⟨v1,v2,v3,v4,v5⟩:=hv;by_cases h0:f=0
   ·subst h0;obtain⟨sE,Wq⟩:∃ sE,sE=uk ((MkS.qx bs (MkS.b7 n bs s0) (MkS.ky n bs s0) []).2.map fun i=>(i,0)) (MkS.qx bs (MkS.b7 n bs s0) (MkS.ky n bs s0) []).1:=⟨_,rfl⟩;have hms:=Ri n a off c bs r s0 hm;rw[←Wq] at hms;rw[hms] at ha dB hn ⊢;obtain⟨m1,m2⟩:=gQ r sE;obtain⟨f1,f2,f3,f4⟩:=go_facts bs (Jk n bs s0) (MkS.b7 n bs s0) (fN n bs s0) (MkS.ky n bs s0) [];have hS:=Bt n bs s0;have hSl:(MkS.ky n bs s0).code.length=s0.code.length+1:=by rw[hS];simp
    have hSE:sE.code.length=(MkS.qx bs (MkS.b7 n bs s0) (MkS.ky n bs s0) []).1.code.length:=by rw[Wq,(qF _ _).1]
    have hT:(MkS.gM n bs s0).1.code.length=s0.code.length:=by rw[(Yz n bs s0).1]
    have hcE:sE.cs <+: s.cs:=(EM (Z3 sE.cs) r sE (zx _)).trans dB;have iE:∀ i,s0.code.length<=i->i<sE.code.length->s.code[i]? = sE.code[i]? := fun i h1 h2=>(ha i h1 (by omega)).trans (m2 i h2)
    have qX:(MkS.gM n bs s0).1.cs <+: s.cs:=(gU (Z3 _) _ _ (go_inv (Z3 (MkS.gM n bs s0).1.cs) bs (fN n bs s0) (MkS.ky n bs s0) [] (zx _)):(MkS.gM n bs s0).1.cs <+: (uk ((MkS.qx bs (MkS.b7 n bs s0) (MkS.ky n bs s0) []).2.map fun i=>(i,0)) (MkS.qx bs (MkS.b7 n bs s0) (MkS.ky n bs s0) []).1).cs).trans (Wq▸hcE);have gh:(s0.const n).cs <+: s.cs:=((Z3 (s0.const n).cs).ki bs (s0.const n) [s0.num n] (zx _)).trans qX;obtain⟨tl,ht1,nK⟩:=FI bs (s0.const n) [s0.num n] s.cs v1 qX;have JM:(MkS.ky n bs s0).code[s0.code.length]? = some ⟨10,s0.pos,0,s0.num n::tl,zG (tl.length+1) 0⟩:=by
     rw[hS,zu (zk _)];have:(MkS.gM n bs s0).2=s0.num n::tl:=ht1;rw[this];simp
    obtain⟨y,hy,PA⟩:=gU (ZS (MkS.ky n bs s0)) ((MkS.qx bs (MkS.b7 n bs s0) (MkS.ky n bs s0) []).2.map fun i=>(i,0)) _ (go_inv (ZS (MkS.ky n bs s0)) bs (fN n bs s0) _ [] (QC _)) _ _ JM;rw[←Wq] at hy;have sy:s.code[s0.code.length]? = some y:=(iE _ (zk _) (by omega)).trans hy;obtain⟨y1,y2,y3,y4,y5⟩:=fO PA;have Xp:=Xr (s0:=s0) n gh y y4;have Ja:tl.length=(bs.keys.filter (· ≠ qz)).length:=by have:=congrArg List.length nK;simpa using this
    have qY:y.k.tail.all (fun j=>decide (j<s.cs.length))=true:=by
     rw[y4,zS,zP];intro j hj;have h1:s.cs[j]?∈(bs.keys.filter (· ≠ qz)).map some:=by rw[←nK];exact zV.2 ⟨j,hj,rfl⟩
     obtain⟨u,_,hu⟩:=zV.1 h1;exact decide_eq_true (z8.1 hu.symm).1
    have htI:∀ t,VM s y t=MkS.place bs.keys (YN bs.keys t):=by
     intro t;unfold VM;rw[y4,zS,nK,iB,Wu]
    have hnE:∃ x,s.code[sE.code.length]? = some x/\x.pos=sE.pos:=by
     rcases Bw r hm sE with⟨q1,q2⟩|⟨x,q1,q2⟩
     ·rw[q1,q2] at hn;exact hn
     ·exact⟨x,(ha _ (by omega) (z8.1 q1).1).trans q1,q2⟩
    have hK:∀ t,YN bs.keys t∈bs.keys:=by intro t;unfold YN;split<;>assumption
    simp only[jS,↓reduceIte]
    cases h:L5 E n g with
    | error e =>
     obtain⟨e,g'⟩:=e;refine JN.err (r':=⟨o,stk,g'⟩) ?_;rw[qe sy];unfold ui;simp only[y1,Xp,h]
    | ok pr =>
     obtain⟨t,g'⟩:=pr;dsimp only;have rp:∀ k,∀ p∈Jk n bs s0 k,p.1<(MkS.ky n bs s0).code.length:=by
      intro k p hp;rw[Jk,z7] at hp;subst hp;show(MkS.gM n bs s0).1.code.length<_;omega
     obtain⟨A,xa,hA0,hA1,R6,oS⟩:=FL (s:=s) (ji bs).2 v1 v4 (fN n bs s0) v2 (hK t) rp hp Wq (fun i h1 h2=>iE i (by omega) h2) hcE hnE
     ·have fU:=R6 (s0.code.length,MkS.place bs.keys (YN bs.keys t)) (by rw[Jk,hT];exact z7.2 rfl) (FM JM (by have:=iC (ks:=bs.keys) (YN bs.keys t);simp;omega))
       (fun k' QA xc hq=>by
        rw[Jk,z7] at hq;exact xc (Wv QA (hK t) (zD hq).2.symm))
      obtain⟨z,Uu,Uf⟩:=VK fU;rw[hy] at Uu
      cases Uu;refine JN.after (k1:=A) (r1:=⟨o,stk,g'⟩) (Steps.one ?_) ?_
      ·rw[qe sy];unfold ui;simp only[y1,Xp,h,qY,↓reduceIte,htI,Uf];exact QE hp hA1 rfl _
      ·have run:=oS x o g' stk (fun q=>by cases q)
       cases hr:jS E bs (YN bs.keys t) x o g' with
       | error er=>rw[hr] at run;exact run.far (by omega)
       | ok pr =>
        obtain⟨o2,g2⟩:=pr;rw[hr] at run;exact JN.after run ((ji r).1 hm b v5 sE s (fun i h1 h2=>ha i (by omega) h2) dB hp hn k x o2 g2 stk hs)
   ·obtain⟨sL,hsL⟩:∃ sL,sL=uk ((MkS.qx bs (MkS.jU n off bs s0) (MkS.qH n off f bs s0) []).2.map fun i=>(i,0)) (MkS.qx bs (MkS.jU n off bs s0) (MkS.qH n off f bs s0) []).1:=⟨_,rfl⟩;have hms:=Rl n a f off c bs r s0 h0 hm;rw[←hsL] at hms;rw[hms] at ha dB hn ⊢;obtain⟨m1,m2⟩:=gQ r (sL.put 5 0 [] []);have hPl:(sL.put 5 0 [] []).code.length=sL.code.length+1:=by rw[xM];simp
    rw[hPl] at m1 m2;obtain⟨b1,b2,b3⟩:=KP n off bs s0;obtain⟨f1,f2,f3,f4⟩:=go_facts bs (Y9 n off bs s0) (MkS.jU n off bs s0) (jw n off bs s0) (MkS.qH n off f bs s0) [];have hS:=Bh n off f bs s0;have hSl:(MkS.qH n off f bs s0).code.length=(MkS.kI n off bs s0).1.code.length+1:=by rw[hS];simp
    have hSL:sL.code.length=(MkS.qx bs (MkS.jU n off bs s0) (MkS.qH n off f bs s0) []).1.code.length:=by rw[hsL,(qF _ _).1]
    have hcE:sL.cs <+: s.cs:=(EM (Z3 sL.cs) r (sL.put 5 0 [] []) (zx _)).trans dB;have iE:∀ i,s0.code.length<=i->i<sL.code.length+1->s.code[i]? = (sL.put 5 0 [] []).code[i]? := fun i h1 h2=>(ha i h1 (by omega)).trans (m2 i h2)
    have zg9:∀ i,s0.code.length<=i->i<sL.code.length->s.code[i]? = sL.code[i]? := fun i h1 h2=>(iE i h1 (by omega)).trans (by rw[xM,zy h2])
    have P8:s.code[sL.code.length]? = some ⟨5,sL.pos,0,[],[]⟩:=by
     rw[iE _ (by omega) (by omega),xM,zu (zk _)];simp
    have qX:(MkS.kI n off bs s0).1.cs <+: s.cs:=(gU (Z3 _) _ _ (go_inv (Z3 (MkS.kI n off bs s0).1.cs) bs (jw n off bs s0) (MkS.qH n off f bs s0) [] (zx _)):(MkS.kI n off bs s0).1.cs <+: (uk ((MkS.qx bs (MkS.jU n off bs s0) (MkS.qH n off f bs s0) []).2.map fun i=>(i,0)) (MkS.qx bs (MkS.jU n off bs s0) (MkS.qH n off f bs s0) []).1).cs).trans (hsL▸hcE);have gh:(s0.const n).cs <+: s.cs:=((Z3 (s0.const n).cs).qJ bs ((s0.const n).put 4 (xE off) [s0.num n] []) [] (zx _)).trans qX;have sh0:=gU (ZS (MkS.qH n off f bs s0)) ((MkS.qx bs (MkS.jU n off bs s0) (MkS.qH n off f bs s0) []).2.map fun i=>(i,0)) _ (go_inv (ZS (MkS.qH n off f bs s0)) bs (jw n off bs s0) _ [] (QC _));rw[←hsL] at sh0;have sh1:∀ (i:Nat) (x:j8),s0.code.length<=i->(MkS.qH n off f bs s0).code[i]? = some x->∃ y,s.code[i]? = some y/\sL.code[i]? = some y/\Rc y=Rc x:=by
     intro i x hi hx;obtain⟨y,h1,h2⟩:=sh0 i x hx;exact⟨y,(zg9 i hi (z8.1 h1).1).trans h1,h1,h2⟩
    have Ip:∀ (i:Nat) (x:j8),(MkS.kI n off bs s0).1.code[i]? = some x->(MkS.qH n off f bs s0).code[i]? = some x:=by
     intro i x hx;rw[hS,zy (z8.1 hx).1];exact hx
    obtain⟨y,hy,_,PA⟩:=sh1 _ _ (zk _) (Ip _ _ (Rm n off bs s0));obtain⟨y1,y2,y3,y4,y5⟩:=fO PA;have Xp:=Xr (s0:=s0) n gh y y4;have zrz:((s0.const n).put 4 (xE off) [s0.num n] []).code.length=s0.code.length+1:=by rw[xM,(vz s0 n).2.1];simp
    have JM:(MkS.qH n off f bs s0).code[(MkS.kI n off bs s0).1.code.length]? = some ⟨if f=2 then 9 else 8,(MkS.kI n off bs s0).1.pos,0,[],zG 6 0⟩:=by
     rw[hS,zu (zk _)];simp
    obtain⟨_,k2,k3⟩:=bF bs ((s0.const n).put 4 (xE off) [s0.num n] []) [];simp only[jS,if_neg h0]
    cases h:YM E n g with
    | error e =>
     obtain⟨e,g'⟩:=e;refine JN.err (r':=⟨o,stk,g'⟩) ?_;rw[qe hy];unfold ui;simp only[y1,Xp,h]
    | ok pr =>
     obtain⟨v,g'⟩:=pr;dsimp only;obtain⟨z,hz⟩:=xX (Vh v (xE off));rw[hz];have Xy:(stk++[(v,z)]).getLast? = some (v,z):=by simp
     have st1:Steps (jR E s) s0.code.length ⟨o,stk,g⟩ (s0.code.length+1) ⟨o,stk++[(v,z)],g'⟩:=by
      refine Steps.one ?_;rw[qe hy];unfold ui;simp only[y1,Xp,h,y3,hz]
     have ask:=EO (E:=E) (s:=s) v z bs ((s0.const n).put 4 (xE off) [s0.num n] []) [] v1 v2 (fun _ _=>rfl) (fun i x hi hx=>by
      obtain⟨y,h1,_,h3⟩:=sh1 i x (by omega) (Ip i x hx);exact⟨y,h1,h3⟩)
     rw[zrz] at ask;have rp:∀ k,∀ p∈Y9 n off bs s0 k,p.1<(MkS.qH n off f bs s0).code.length:=by
      intro k p hp;have:=b3 k p hp;omega
     have key:∃ A,Steps (jR E s) s0.code.length ⟨o,stk,g⟩ A ⟨o,stk++[(v,z)],g'⟩/\JN (jR E s) A ⟨o,stk++[(v,z)],g'⟩ sL.code.length (stk++[(v,z)]) (jS E bs (E9 E f bs.keys v z) z o g'):=by
      unfold E9;rw[show(bs.keys.find? fun k=>decide (k.head? = some 61) && dU v (xE k.tail))=bs.keys.find? (eqP v) from rfl]
      cases hf:bs.keys.find? (eqP v) with
      | some K =>
       rw[hf] at ask;obtain⟨i,x0,q1,q2,q3,q4,q5,q6⟩:=ask;have hKm:=List.mem_of_find?_eq_some hf;obtain⟨A,xa,hA0,hA1,R6,oS⟩:=FL (s:=s) (ji bs).2 v1 v4 (jw n off bs s0) v2 hKm rp hp hsL (fun i h1 h2=>zg9 i (by omega) h2) hcE ⟨_,P8,rfl⟩;have hi0:s0.code.length+1<=i:=by
        rcases k3 _ (Yy q1) with w|w
        ·cases w
        ·simp only[zrz] at w;omega
       have zgz:Y9 n off bs s0 K=[(i,0)]:=by
        unfold Y9;rw[show(MkS.kI n off bs s0).2.lookup K=some i from q1]
       have fU:=R6 (i,0) (by rw[zgz];exact z7.2 rfl) (FM (Ip i x0 q2) (by omega)) (fun k' QA xc hq=>by
        unfold Y9 at hq
        cases hl:(MkS.kI n off bs s0).2.lookup k' with
        | some i' =>
         rw[hl,z7] at hq;have e:=(zD hq).1;have:=EN bs _ [] (fun p hp=>by cases hp) (fun p hp=>by cases hp) _ (Yy q1) _ (Yy hl) e;exact xc (zD this).1.symm
        | none =>
         rw[hl] at hq;obtain⟨cc,_,e⟩:=zV.1 hq;have e1:=(zD e).1;have:=(z8.1 q2).1;rw[show(MkS.qJ bs ((s0.const n).put 4 (xE off) [s0.num n] []) []).1.code.length=(MkS.kI n off bs s0).1.code.length from rfl] at this;omega)
       obtain⟨yi,w1,w2,w3⟩:=sh1 i x0 (by omega) (Ip i x0 q2);obtain⟨p1,p2,p3,p4,p5⟩:=fO w3;obtain⟨yi',u1,u2⟩:=VK fU;rw[w2] at u1
       cases u1;have C1:i<A:=by have h1:=(z8.1 q2).1;rw[show(MkS.qJ bs ((s0.const n).put 4 (xE off) [s0.num n] []) []).1.code.length=(MkS.kI n off bs s0).1.code.length from rfl] at h1;omega
       refine⟨A,st1.trans ((q6 o g' _ Xy).trans (Steps.one ?_ C1)),oS z o g' _ (fun _=>⟨v,Xy⟩)⟩;rw[qe w1];unfold ui;simp only[p1,q3,Xy,p3,q5,↓reduceIte,u2];exact QE hp hA1 rfl _
      | none =>
       rw[hf] at ask;dsimp only;have aC:=hE (decide (f=2)) z.2;obtain⟨cn,Qy⟩:=xX (E.sort (decide (f=2)) z.2);rw[Qy] at aC ⊢;obtain⟨K,hKe⟩:=xX ((if Kq.getD cn []∈bs.keys then Kq.getD cn [] else qz));rw[hKe];have hKm:K∈bs.keys:=by rw[←hKe];split<;>assumption
       have zib:(Kq.getD cn []).head?≠some 61:=by
        rcases cn with _|_|_|_|_|_|cn
        ·decide
        ·decide
        ·decide
        ·decide
        ·decide
        ·decide
        ·omega
       have hKh:K.head?≠some 61:=by rw[←hKe];split;exact zib;decide
       have VF:(MkS.kI n off bs s0).2.lookup K=none:=by
        cases hl:(MkS.kI n off bs s0).2.lookup K with
        | none=>rfl
        | some i =>
         rcases FH bs _ [] _ (Yy hl) with w|w
         ·cases w
         ·exact absurd w hKh
       have zgz:Y9 n off bs s0 K=Re bs.keys (MkS.kI n off bs s0).1.code.length K:=by
        unfold Y9;rw[VF]
       obtain⟨A,xa,hA0,hA1,R6,oS⟩:=FL (s:=s) (ji bs).2 v1 v4 (jw n off bs s0) v2 hKm rp hp hsL (fun i h1 h2=>zg9 i (by omega) h2) hcE ⟨_,P8,rfl⟩;have fU:=R6 ((MkS.kI n off bs s0).1.code.length,cn) (by
        rw[zgz];refine zV.2 ⟨cn,zH.2 ⟨List.mem_range.2 aC,?_⟩,rfl⟩;rw[decide_eq_true_eq,←hKe];split
        ·next h=>exact .inl rfl
        ·next h=>exact .inr ⟨rfl,h⟩) (FM JM (by simp;omega)) (fun k' QA xc hq=>by
        unfold Y9 at hq
        cases hl:(MkS.kI n off bs s0).2.lookup k' with
        | some i' =>
         rw[hl,z7] at hq;have e:=(zD hq).1;rcases k3 _ (Yy hl) with w|w
         ·cases w
         ·have w2:=w.2;rw[show(MkS.qJ bs ((s0.const n).put 4 (xE off) [s0.num n] []) []).1.code.length=(MkS.kI n off bs s0).1.code.length from rfl] at w2;simp only at w2;omega
        | none =>
         rw[hl] at hq;obtain⟨cc,GX,e⟩:=zV.1 hq;have e1:=(zD e).2;subst e1;have eB:=of_decide_eq_true (zH.1 GX).2;rw[←hKe] at xc;by_cases dp:Kq.getD cc []∈bs.keys
         ·rw[if_pos dp] at xc;rcases eB with w|w
          ·exact xc w.symm
          ·exact w.2 dp
         ·rw[if_neg dp] at xc;rcases eB with w|w
          ·exact dp (by rw[w];exact QA)
          ·exact xc w.1)
       obtain⟨yt,w1,w2,w3⟩:=sh1 _ _ (by omega) JM;obtain⟨p1,p2,p3,p4,p5⟩:=fO w3;obtain⟨yt',u1,u2⟩:=VK fU;rw[w2] at u1
       cases u1;have C1:(MkS.kI n off bs s0).1.code.length<A:=by omega
       refine⟨A,st1.trans ((ask o g' _ Xy).trans (Steps.one ?_ C1)),oS z o g' _ (fun _=>⟨v,Xy⟩)⟩;rw[show(MkS.qJ bs ((s0.const n).put 4 (xE off) [s0.num n] []) []).1.code.length=(MkS.kI n off bs s0).1.code.length from rfl,qe w1];unfold ui;by_cases vu:f=2
       ·rw[if_pos vu] at p1;rw[decide_eq_true vu] at Qy;simp only[p1,Xy,Qy,u2];exact QE hp hA1 rfl _
       ·rw[if_neg vu] at p1;rw[decide_eq_false vu] at Qy;simp only[p1,Xy,Qy,u2];exact QE hp hA1 rfl _
     obtain⟨A,hA,run⟩:=key;refine JN.after hA ?_
     cases hr:jS E bs (E9 E f bs.keys v z) z o g' with
     | error er=>rw[hr] at run;exact run.far (by omega)
     | ok pr =>
      obtain⟨o2,g2⟩:=pr;rw[hr] at run;refine JN.after (Steps.trans run (Steps.one (k':=sL.code.length+1) (r':=⟨o2,stk,g2⟩) ?_)) ?_
      ·rw[qe P8];unfold ui;simp
      ·have:=(ji r).1 hm b v5 (sL.put 5 0 [] []) s (fun i h1 h2=>ha i (by omega) h2) dB hp hn k x o2 g2 stk hs;rw[hPl] at this;exact this
   ,fun h=>by cases h⟩
 | .uf k a m r=>⟨fun h=>(by cases h),fun hl b hv sl bg hb s2 ls K hd hK fU hls=>by
   obtain⟨v1,v2,v3⟩:=hv;have ni:=yy.1 (show(k::r.keys).Nodup from hd);rw[MkS.qx,hb];obtain⟨sb,ZO⟩:=xX (uk (sl k) s2);obtain⟨l1,l2,l3⟩:=qF (sl k) s2;rw[ZO] at l1 l2 l3 ⊢;obtain⟨sm,VV⟩:=xX (MkS.dS m sb);rw[show(MkS.qx m (fun _ s=>s) sb []).1=sm from VV];obtain⟨m1,m2⟩:=gQ m sb;rw[VV] at m1 m2;have O2:(sm.put 11 0 [] [0]).code.length=sm.code.length+1:=by rw[xM];simp
   obtain⟨g1,g2,g3,g4⟩:=go_facts r sl bg hb (sm.put 11 0 [] [0]) (ls++[sm.code.length]);rw[O2] at g1 g2 g4;have kp:∀ i,s2.code.length<=i->i<sm.code.length+1->(MkS.qx r bg (sm.put 11 0 [] [0]) (ls++[sm.code.length])).1.code[i]? = (sm.put 11 0 [] [0]).code[i]? := fun i h1 h2=>g4 i h2 (fun k' p hp=>by have:=fU k' p hp;omega)
   by_cases hkK:k=K
   ·subst hkK;have he:(MkS.qx r bg (sm.put 11 0 [] [0]) (ls++[sm.code.length])).1.code[sm.code.length]? = some ⟨11,sm.pos,0,[],[0]⟩:=by
     rw[kp _ (by omega) (by omega),xM,zu (zk _)];simp
    have hi:∀ i,s2.code.length<=i->i<sm.code.length->(MkS.qx r bg (sm.put 11 0 [] [0]) (ls++[sm.code.length])).1.code[i]? = sm.code[i]? := fun i h1 h2=>by
     rw[kp _ h1 (by omega),xM,zy h2]
    have hfa:∃ xa,(MkS.qx r bg (sm.put 11 0 [] [0]) (ls++[sm.code.length])).1.code[s2.code.length]? = some xa/\xa.pos=s2.pos:=by
     rcases Bw m v1 sb with⟨q1,q2⟩|⟨x,q1,q2⟩
     ·rw[VV] at q1 q2;refine⟨_,by rw[←l1,←q1];exact he,?_⟩;show sm.pos=_;rw[q2,l2]
     ·rw[VV,l1] at q1;exact⟨x,by rw[hi _ (zk _) (z8.1 q1).1];exact q1,by rw[q2,l2]⟩
    obtain⟨xa,hxa,Hu⟩:=hfa;refine⟨s2.code.length,s2.pos,sm.code.length,xa,_,zk _,by omega,by omega,g3 _ (List.mem_append_right _ (z7.2 rfl)),fun i h1 h2 hm=>?_,he,rfl,rfl,hxa,Hu,fun q hq K6 j9=>?_,fun s hs hz hc hp x o g stk vH=>?_⟩
    ·rcases g2 i hm with q|q
     ·rw[zZ,z7] at q;rcases q with q|q
      ·have:=hls i q;omega
      ·omega
     ·omega
    ·have hq0:=fU k q hq;rw[C0 r sl bg hb hl _ _ q (by omega) (fun k' QA=>j9 k' (zf _ QA) (fun e=>ni.1 (by rw[←e];exact QA))),FE _ _ _ _ _ _ (by omega),←VV,G6 ((gQ m sb).2 q.1 (by omega)),←ZO,fM,if_pos ⟨hq,K6⟩]
    ·have jy:sm.cs <+: s.cs:=(go_inv (Z3 sm.cs) r hb (sm.put 11 0 [] [0]) (ls++[sm.code.length]) (zx _)).trans hc;have:=(ji m).1 v1 b v2 sb s (fun i h1 h2=>by rw[VV] at h2 ⊢;rw[hs i (by omega) h2,hi i (by omega) h2]) (by rw[VV];exact jy) hp (by rw[VV];exact hz) [] x o g stk vH;rw[VV,l1] at this;simp only[jS,↓reduceIte];exact this
   ·have hKr:K∈r.keys:=by
     rcases List.mem_cons.1 (show K∈k::r.keys from hK) with q|q
     ·exact absurd q.symm hkK
     ·exact q
    obtain⟨A,p,e,xa,xe,h1,h2,h3,h4,h5,h6,h7,h8,h9,dw,Jc,Gj⟩:=(ji r).2 hl b v3 sl bg hb (sm.put 11 0 [] [0]) (ls++[sm.code.length]) K ni.2 hKr (fun k' p hp=>by have:=fU k' p hp;omega) (fun e he=>by
     rw[zZ,z7] at he;rcases he with he|rfl
     ·have:=hls e he;omega
     ·omega)
    refine⟨A,p,e,xa,xe,by omega,h2,h3,h4,h5,h6,h7,h8,h9,dw,fun q hq K6 j9=>?_,fun s hs hz hc hp x o g stk vH=>?_⟩
    ·have hq0:=fU K q hq;refine Jc q hq ?_ (fun k' QA=>j9 k' (zf _ QA));rw[FE _ _ _ _ _ _ (by omega),←VV,G6 ((gQ m sb).2 q.1 (by omega)),←ZO,fM];split
     ·rfl
     ·exact K6
    ·have:=Gj s hs hz hc hp x o g stk vH;simp only[jS,if_neg hkK];exact this⟩
end
theorem rr{τ:Type}{E:qL τ}(hE:∀ b d,E.sort b d<6)(f:Fo)(hm:f.vG=true)(hv:f.Bs false)(x:vq)(g:τ) :
  match jS E f [] x [] g with
  | .ok (o,g')=>∃ fuel,fuel<=(MkS.all f).code.length/\Qg (jR E (MkS.all f)) fuel 0 ⟨[],[],g⟩=some (.ok ⟨o,[],g'⟩)
  | .error (n,g')=>∃ fuel r,fuel<=(MkS.all f).code.length/\Qg (jR E (MkS.all f)) fuel 0 ⟨[],[],g⟩=some (.error (n,r))/\r.gs=g':=by
 have Zm:(MkS.all f).code[(MkS.dS f MkS.start).code.length]? = some ⟨0,(MkS.dS f MkS.start).pos,0,[],[]⟩:=by
  rw[MkS.all,xM,zu (zk _)];simp
 have h:=(ji hE f).1 hm false hv MkS.start (MkS.all f) (fun i _ hi=>by rw[MkS.all,xM,zy hi]) (zx _) (Wz.all f ⟨fun i j x y _ hx=>absurd hx (by simp[MkS.start]),fun x hx=>absurd hx (by simp[MkS.start])⟩) ⟨_,Zm,rfl⟩ [] x [] g [] (fun h=>by cases h)
 cases hr:jS E f [] x [] g with
 | error e =>
  obtain⟨n,g'⟩:=e;rw[hr] at h;obtain⟨m,r',h0,h1,h2⟩:=h;exact⟨0+m,r',by rw[MkS.all,xM,zJ];rw[show MkS.start.code.length=0 from rfl] at h0;omega,h1 0,h2⟩
 | ok p =>
  obtain⟨o,g'⟩:=p;rw[hr] at h;obtain⟨n,h0,hn⟩:=h;refine⟨1+n,by rw[MkS.all,xM,zJ,ze];rw[show MkS.start.code.length=0 from rfl] at h0;omega,?_⟩;rw[show(0:Nat)=MkS.start.code.length from rfl,hn 1,Qg,qe Zm];rfl
def zy2{τ:Type}(G:Nat->Prop)(Inv:τ->World->Prop)(res:Except (Nat×τ) (Wd×τ))(w:World)(e:Ending)(w':World):Prop :=
 (match res with
  | .ok (o,g')=>e = .returned (.tuple #[xk o,.nilIface])/\Inv g' w'
  | .error (n,g')=>e = .returned (.tuple #[xk [],qW n])/\Inv g' w')/\Fr G G w w'
section
variable {τ:Type} {w:World} {A q mb g:Nat} {G:Nat->Prop} {vC vI:Value} {rs:List (Value×Value)} {E:qL τ} {F S:τ->Nat->Prop} {Inv:τ->World->Prop}
theorem Wk{s:MkS}{gf:Fn}{g1 g2:Array Value}(hE:bd w (A+2) (A+2) G q mb g s vC vI rs (.func gf g1 g2) E F S Inv)(hA:w.heap.size=A){g0:τ}(hi:Inv g0 w)(hF0:∀ k,F g0 k->G k) :
  vw (A+2) (A+2) q g (.func gf g1 g2) G F S Inv ⟨[],[],g0⟩ (Tv w (.pointer (some ⟨q,0,none⟩)) (.pointer (some ⟨g,0,none⟩)) (.func gf g1 g2)):=by
 have hf:Fr xH xH w (Tv w (.pointer (some ⟨q,0,none⟩)) (.pointer (some ⟨g,0,none⟩)) (.func gf g1 g2)):=(((Fr.refl _ _).alloc _).alloc _).alloc _;refine⟨.slice none 0 0,.slice none 0 0,[],?_,?_,rfl,hE.get.fr hi hf (fun _ q=>q.elim),(by intro h;cases h),fun k hk=>(by cases hk),fun k hk=>⟨.inl ?_,(fun h=>by cases h),fun h=>by cases h⟩,fun k hk=>hk.elim (fun h=>by cases h) (fun h=>by cases h),hF0⟩
 ·have h:=pF ((w.alloc (.cells #[xk []] 9)).alloc (.cells #[.nilIface] 73)) (.pointer (some ⟨q,0,none⟩)) (.pointer (some ⟨g,0,none⟩)) (.func gf g1 g2);rw[show((w.alloc (.cells #[xk []] 9)).alloc (.cells #[.nilIface] 73)).heap.size=A+2 by simp[hA]] at h;exact h
 ·exact World.ownsRow_nil _ _ _ _
 ·have:=hE.get.EC g0 w k hi hk;omega
theorem iH{f:Fo}(hm:f.vG=true)(hv:f.Bs false){gf:Fn}{g1 g2:Array Value}(hE:bd w (A+2) (A+2) G q mb g (MkS.all f) vC vI rs (.func gf g1 g2) E F S Inv)(hT:iQ (MkS.all f))(hc:(MkS.all f).code.length<=100000)(hA:w.heap.size=A)(hGA:¬G A)(hGB:¬G (A+1))(x:vq){g0:τ}(hi:Inv g0 w)(hF0:∀ k,F g0 k->G k) :
  Calls prog 53 #[.pointer (some ⟨q,0,none⟩),.pointer (some ⟨g,0,none⟩),.func gf g1 g2] w (zy2 G Inv (jS E f [] x [] g0) w):=by
 have key:∀ (fuel:Nat) (r:Except (Nat×bo τ) (bo τ)),fuel<=(MkS.all f).code.length->Qg (jR E (MkS.all f)) fuel 0 ⟨[],[],g0⟩=some r ->
   Calls prog 53 #[.pointer (some ⟨q,0,none⟩),.pointer (some ⟨g,0,none⟩),.func gf g1 g2] w (zn5 G (fun r=>r.out) (fun r W=>Inv r.gs W) r w):=by
  intro fuel r hfu hr;refine pL G (VmI w (A+2) (A+2) q g (.func gf g1 g2) G F S Inv) (VmJ w (A+2) (A+2) q g (.func gf g1 g2) G F S Inv) (EH Inv S (A+2)) (fun r W=>Inv r.gs W) (fun r=>r.out) (jR E (MkS.all f)) fuel ⟨[],[],g0⟩ r w (some ⟨q,0,none⟩) (some ⟨g,0,none⟩) gf g1 g2 (by rw[hA];exact hGA) (by rw[hA];exact hGB) (fun k hk=>hE.gA k (by rw[hA] at hk;exact hk)) ?_ ?_ ?_ ?_ hr
  ·exact⟨Wk hE hA hi hF0,(((Fr.refl _ _).alloc _).alloc _).alloc _,by show 0+fuel*5000<=_;omega,by show 0+fuel<=_;omega⟩
  ·rintro s W ⟨⟨v,st,cs,hO,vH,fL,hI,ZO,Yw,hS,hAA,hF⟩,hl⟩;rw[hA];refine⟨v,_,_,_,_,hO,fun k hk=>hAA k (.inl hk),by show s.out.length<=_;omega,fun W' hf=>hE.get.fr hI hf fun k hk hs=>?_⟩;have h1:=hS k hs;rcases hk with rfl|rfl|hk
   ·have:=h1.1;omega
   ·have:=h1.1;omega
   ·exact h1.2.1 hk
  ·rintro s W W' ⟨hI,hS⟩ hf;rw[hA] at hf;refine hE.get.fr hI hf fun k hk hs=>?_
   have h1:=hS k hs;rcases hk with rfl|rfl<;>omega
  ·intro m k s W hI hb;rw[hA];exact re hE hT hI hb
 have h:=rr (E:=E) hE.srt f hm hv x g0
 cases hr:jS E f [] x [] g0 with
 | error e =>
  obtain⟨n,g'⟩:=e;rw[hr] at h;obtain⟨fuel,r,h1,h2,h3⟩:=h;refine(key fuel _ h1 h2).mono fun e w' h=>?_
  subst h3;exact h
 | ok p =>
  obtain⟨o,g'⟩:=p;rw[hr] at h;obtain⟨fuel,h1,h2⟩:=h;exact(key fuel _ h1 h2).mono fun e w' h=>h
end
def Fo.sh:Fo->Prop
 | .nil=>True
 | .text t r=>t.length<=5000/\r.sh
 | .hash r=>r.sh
 | .put _ _ r=>r.sh
 | .num _ _ r=>r.sh
 | .br _ _ _ _ _ bs r=>bs.sh/\r.sh
 | .uf _ _ m r=>m.sh/\r.sh
def shB(op a b:Nat):Bool :=
 match op with
 | 0=>a==0 && b==0|1=>a==1 && b==0|2=>a==1 && b==0|3=>a==1 && b==0|4=>a==1 && b==0|5=>a==0 && b==0|6=>a==0 && b==0|7=>a==0 && b==1
 | 8=>a==0 && b==6|9=>a==0 && b==6|10=>decide (0<a) && b==a|11=>a==0 && b==1|_=>false
def OkX(N c p:Nat)(x:j8):Prop:=(∀ j∈x.k,j<c)/\x.k.length<=N/\x.v<=1000000000/\(∀ y∈x.tg,y<=p)/\shB x.op x.k.length x.tg.length=true
def fP(N:Nat)(s:MkS):Prop:=(∀ x∈s.code,OkX N s.cs.length s.pos x)/\∀ t∈s.cs,t.length<=5000
theorem OkX.more{N c p c' p':Nat}{x:j8}(h:OkX N c p x)(hc:c<=c')(hp:p<=p'):OkX N c' p' x :=
 ⟨fun j hj=>zo (h.1 j hj) hc,h.2.1,h.2.2.1,fun y hy=>zc (h.2.2.2.1 y hy) hp,h.2.2.2.2⟩
section
variable {N:Nat} {s:MkS}
theorem fP.put(h:fP N s)(op v:Nat)(k tg:List Nat)(h1:∀ j∈k,j<s.cs.length)(h2:k.length<=N)(h3:v<=1000000000)(h4:∀ y∈tg,y=0)(h5:shB op k.length tg.length=true):fP N (s.put op v k tg):=by
 refine⟨fun x hx=>?_,h.2⟩;rw[xM,zZ,z7] at hx;rcases hx with hx|rfl
 ·exact(h.1 x hx).more (zk _) (yz _ _)
 ·exact⟨h1,h2,h3,fun y hy=>by rw[h4 y hy];exact zY _,h5⟩
theorem fP.const(h:fP N s)(t:Wd)(ht:t.length<=5000):fP N (s.const t):=by
 unfold MkS.const;split
 ·exact h
 ·refine⟨fun x hx=>(h.1 x hx).more (by simp) (zk _),fun u hu=>?_⟩;simp only[zZ,z7] at hu;rcases hu with hu|rfl
  ·exact h.2 u hu
  ·exact ht
theorem fP.u7(h:fP N s)(i j:Nat):fP N (s.u7 i j):=by
 refine⟨fun x hx=>?_,h.2⟩;obtain⟨n,hn,e⟩:=zi.1 hx;have PM:(s.u7 i j).code[n]? = some x:=by rw[zv hn,e]
 rw[Y8] at PM;split at PM
 ·cases hc:s.code[n]? with
  | none=>rw[hc] at PM;cases PM
  | some y =>
   rw[hc] at PM
   cases PM;have hy:=h.1 y (zg hc);refine⟨hy.1,hy.2.1,hy.2.2.1,fun z hz=>?_,by rw[List.length_set];exact hy.2.2.2.2⟩;rcases List.mem_or_eq_of_mem_set hz with hz|rfl
   ·exact hy.2.2.2.1 z hz
   ·exact zk _
 ·exact h.1 x (zg PM)
theorem ER(s:MkS)(t:Wd):s.num t<(s.const t).cs.length:=(z8.1 (EP (s0:=s) t (zx _))).1
theorem zru(s:MkS)(t:Wd):s.cs.length<=(s.const t).cs.length:=by unfold MkS.const;split<;>simp
theorem fP.one(h:fP N s)(op:Nat)(t:Wd)(ht:t.length<=5000)(uI:shB op 1 0=true)(hN:1<=N):fP N (s.one op t) :=
 (h.const t ht).put op 0 [s.num t] [] (fun j hj=>by rw[z7.1 hj];exact ER s t) hN (zY _) (fun y hy=>by cases hy) uI
theorem fP.ki:∀ (f:Fo) (s:MkS) (acc:List Nat),(∀ k∈f.keys,k.length<=5000)->fP N s->(∀ j∈acc,j<s.cs.length)->acc≠[]->fP N (MkS.ki f s acc).1/\(∀ j∈(MkS.ki f s acc).2,j<(MkS.ki f s acc).1.cs.length)/\(MkS.ki f s acc).2≠[]
 | .uf k _ _ r,s,acc,hk,h,ha,hn=>by
  rw[MkS.ki];have QA:∀ k∈r.keys,k.length<=5000:=fun x hx=>hk x (zf _ hx)
  split
  ·exact fP.ki r s acc QA h ha hn
  ·refine fP.ki r _ _ QA (h.const _ (hk k (zQ ..))) (fun j hj=>?_) (by simp);rw[zZ,z7] at hj;rcases hj with hj|rfl
   ·exact zo (ha j hj) (zru s k)
   ·exact ER s k
 | .nil,_,_,_,h,ha,hn=>⟨h,ha,hn⟩
 | .text _ _,_,_,_,h,ha,hn=>⟨h,ha,hn⟩
 | .hash _,_,_,_,h,ha,hn=>⟨h,ha,hn⟩
 | .put _ _ _,_,_,_,h,ha,hn=>⟨h,ha,hn⟩
 | .num _ _ _,_,_,_,h,ha,hn=>⟨h,ha,hn⟩
 | .br _ _ _ _ _ _ _,_,_,_,h,ha,hn=>⟨h,ha,hn⟩
theorem fP.qJ:∀ (f:Fo) (s:MkS) (acc:List (Wd×Nat)),(∀ k∈f.keys,k.head? = some 61->xE k.tail<=1000000000)->fP N s->fP N (MkS.qJ f s acc).1
 | .uf k _ _ r,s,acc,hk,h=>by
  rw[MkS.qJ];have QA:∀ k∈r.keys,k.head? = some 61->xE k.tail<=1000000000:=fun x hx=>hk x (zf _ hx)
  split
  ·rename_i Pc;exact fP.qJ r _ _ QA (h.put _ _ _ _ (fun j hj=>by cases hj) (zY _) (hk k (zQ ..) Pc) (fun y hy=>z7.1 hy) rfl)
  ·exact fP.qJ r s acc QA h
 | .nil,_,_,_,h=>h
 | .text _ _,_,_,_,h=>h
 | .hash _,_,_,_,h=>h
 | .put _ _ _,_,_,_,h=>h
 | .num _ _ _,_,_,_,h=>h
 | .br _ _ _ _ _ _ _,_,_,_,h=>h
theorem fP.plu(n o:Wd)(bs:Fo)(s0:MkS)(k:Wd)(h:fP N s):fP N (MkS.jU n o bs s0 k s):=by
 unfold MkS.jU;split
 ·exact h.u7 _ _
 ·exact MkS.fK (fP N) _ (fun s c h=>by split;exact h.u7 _ _;exact h) _ _ h
theorem fP.uk(h:fP N s)(l:List Nat):fP N (l.foldl (fun s i=>MkS.u7 s i 0) s):=MkS.fK (fP N) _ (fun _ _ h=>h.u7 _ _) _ _ h
theorem fP.go(hN:20<=N):∀ (f:Fo) (bg:Wd->MkS->MkS) (s:MkS) (ls:List Nat),(∀ k s,fP N s->fP N (bg k s))->f.YF->f.sh->f.cw<=N->fP N s->fP N (MkS.qx f bg s ls).1
 | .nil,_,_,_,_,_,_,_,h=>h
 | .text t r,bg,s,ls,hb,hc,hs,hw,h=>fP.go hN r bg _ ls hb hc.2 hs.2 (by simp only[Fo.cw] at hw;omega) (h.one _ _ hs.1 rfl (by omega))
 | .hash r,bg,s,ls,hb,hc,hs,hw,h=>fP.go hN r bg _ ls hb hc hs (by simp only[Fo.cw] at hw;omega) (h.put _ _ _ _ (fun j hj=>by cases hj) (zY _) (zY _) (fun y hy=>by cases hy) rfl)
 | .put n _ r,bg,s,ls,hb,hc,hs,hw,h=>fP.go hN r bg _ ls hb hc.2 hs (by simp only[Fo.cw] at hw;omega) (h.one _ _ (by have:=hc.1;omega) rfl (by omega))
 | .num n _ r,bg,s,ls,hb,hc,hs,hw,h=>fP.go hN r bg _ ls hb hc.2 hs (by simp only[Fo.cw] at hw;omega) (h.one _ _ (by have:=hc.1;omega) rfl (by omega))
 | .br n _ f o _ bs r,bg,s,ls,hb,hc,hs,hw,h=>by
  obtain⟨c1,c2,c3,c4,c5,c6,c7,c8⟩:=hc;have hw':=hw;simp only[Fo.cw] at hw;have hn:n.length<=5000:=by omega
  have Dj:=Fo.YD bs;rw[MkS.qx];split
  ·obtain⟨a1,a2,a3⟩:=fP.ki bs (s.const n) [s.num n] (fun k hk=>by have:=(c6 k hk).1;omega) (h.const n hn) (fun j hj=>by rw[z7.1 hj];exact ER s n) (by simp);have hl:=(MkS.Q9 bs (s.const n) [s.num n]).2.2.1;refine fP.go hN r bg _ ls hb c8 hs.2 (by omega) (fP.uk (fP.go hN bs _ _ _ (fun k x hx=>hx.u7 _ _) c7 hs.1 (by omega) ?_) _);exact a1.put _ _ _ _ a2 (by rw[ze] at hl;simp only[MkS.gM];omega) (zY _) (fun y hy=>(zm.1 hy).2) (by rw[List.length_replicate];simp only[MkS.gM,shB,beq_self_eq_true,Bool.and_true,decide_eq_true_eq];exact decide_eq_true (List.length_pos_iff.2 a3))
  ·rename_i hf;refine fP.go hN r bg _ ls hb c8 hs.2 (by omega) (fP.put (fP.uk (fP.go hN bs _ _ _ (fun k x hx=>hx.plu n o bs s k) c7 hs.1 (by omega) ?_) _) _ _ _ _ (fun j hj=>by cases hj) (zY _) (zY _) (fun y hy=>by cases hy) rfl);refine fP.put (fP.qJ bs _ _ (fun k hk Pc=>?_) ((h.const n hn).put _ _ _ _ (fun j hj=>by rw[z7.1 hj];exact ER s n) (by simp;omega) (by omega) (fun y hy=>by cases hy) rfl)) _ _ _ _ (fun j hj=>by cases hj) (zY _) (zY _) (fun y hy=>(zm.1 hy).2) (by split<;>rfl);obtain⟨-,e2,e3⟩:=(c6 k hk).2 hf Pc;have h1:=QJ _ e3;have h2:10 ^ k.tail.length<=10 ^ 9:=Nat.pow_le_pow_right (by omega) e2;omega
 | .uf k _ m r,bg,s,ls,hb,hc,hs,hw,h=>by
  simp only[Fo.cw] at hw;exact fP.go hN r bg _ _ hb hc.2.2 hs.2 (by omega) (fP.put (fP.go hN m _ _ _ (fun _ _ h=>h) hc.2.1 hs.1 (by omega) (hb k s h)) _ _ _ _ (fun j hj=>by cases hj) (zY _) (zY _) (fun y hy=>z7.1 hy) rfl)
end
theorem P9{f:Fo}(hc:f.YF)(hs:f.sh):fP (f.cw+20) (MkS.all f) :=
 fP.put (fP.go (N:=f.cw+20) (by omega) f _ _ [] (fun _ _ h=>h) hc hs (by omega) ⟨fun x hx=>(by cases hx),fun t ht=>(by cases ht)⟩) _ _ _ _ (fun j hj=>by cases hj) (zY _) (zY _) (fun y hy=>by cases hy) rfl
theorem Pz(f:Fo):(MkS.all f).sz<=f.cw+3:=by
 have h:=(NW f MkS.start).2;have h1:(uq ⟨0,(MkS.dS f MkS.start).pos,0,[],[]⟩).length=1:=by rfl
 rw[show MkS.start.sz=0 from rfl] at h;rw[MkS.all,jn,h1];omega
theorem iI{x:j8}{N c p:Nat}(h:OkX N c p x):(x.op=7->0<x.tg.length)/\(x.op=10->x.k≠[]/\x.tg.length=x.k.length)/\x.op<12/\okB (gB x.op) x.k.length x.tg.length=true:=by
 obtain⟨-,-,-,-,h⟩:=h;obtain⟨op,pos,v,k,tg⟩:=x;dsimp only at h ⊢;unfold shB at h;split at h<;>simp only[Bool.and_eq_true,beq_iff_eq,decide_eq_true_eq,reduceCtorEq] at h
 all_goals refine⟨by omega,fun q=>?_,by omega,?_⟩
 all_goals first|omega|skip
 all_goals first|(rw[h.1,h.2];rfl)|skip
 ·exact⟨fun e=>by rw[e] at h;exact Nat.lt_irrefl _ h.1,h.2⟩
 ·rw[h.2];simp only[gB,okB];simp;omega
theorem Ll{f:Fo}(hc:f.YF)(hs:f.sh)(hw:f.cw<=90000):iQ (MkS.all f)/\(MkS.all f).code.length<=100000/\(MkS.all f).cs.length<=1000000/\(∀ t∈(MkS.all f).cs,t.length<=5000)/\∀ x∈(MkS.all f).code,x.v<=1000000000/\∀ y∈x.tg,y<=4000000000:=by
 obtain⟨h1,h2⟩:=P9 hc hs;have hz:=Pz f;simp only[MkS.sz] at hz;refine⟨fun x hx=>⟨(iI (h1 x hx)).1,fun uI=>?_⟩,by omega,by omega,h2,fun x hx=>⟨(h1 x hx).2.2.1,fun y hy=>by have:=(h1 x hx).2.2.2.1 y hy;omega⟩⟩;obtain⟨a1,a2,-⟩:=h1 x hx;obtain⟨b1,b2⟩:=(iI (h1 x hx)).2.1 uI;refine⟨by omega,zP.2 fun j hj=>decide_eq_true (a1 j (List.mem_of_mem_tail hj)),?_⟩
 cases hk:x.k with
 | nil=>exact absurd hk b1
 | cons a l=>rw[hk] at b2;simp only[zS,zw] at b2 ⊢;omega
theorem rh{f:Fo}(hc:f.YF)(hs:f.sh)(hw:f.cw<=90000):∀ x∈(MkS.all f).code,B7 x:=fun x hx=>by
 have hz:=Pz f;simp only[MkS.sz] at hz;have h:=(P9 hc hs).1 x hx;obtain⟨-,-,b3,b4⟩:=iI h;exact⟨b3,by have:=h.2.2.1;omega,fun j hj=>by have:=h.1 j hj;omega,fun y hy=>by have:=h.2.2.2.1 y hy;omega,by have:=h.2.1;omega,b4⟩
end Go.Proofs.YthpldolmpinnhaaGreatDoor
