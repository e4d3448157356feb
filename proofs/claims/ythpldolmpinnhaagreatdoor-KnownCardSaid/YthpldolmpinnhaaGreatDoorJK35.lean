import Derived.Test.YthpldolmpinnhaaGreatDoorJK34
set_option maxHeartbeats 64000000
open List renaming mem_singleton→z7,getElem?_eq_some_iff→z8,getElem?_append_left→zy,prefix_refl→zx,getElem?_eq_getElem→zv,getElem?_append_right→zu,mem_of_getElem?→zg,mem_cons_of_mem→zf,mem_append→zZ,lookup_cons→zX,mem_map→zV,idxOf_lt_length_of_mem→zU,mem_cons_self→zQ,length_append→zJ,replicate→zG,idxOf_eq_length→zF,mem_filter→zH,prefix_append→zM,getElem_idxOf→zN,cons_append→zO,all_eq_true→zP,tail_cons→zS,range→zW,map_cons→za,length_singleton→ze,mem_iff_getElem→zi,idxOf_le_length→zl,mem_replicate→zm,append_assoc→zr,length_tail→zh,length_cons→zw,nodup_cons→yy,nil_append→yx,idxOf_cons→yv,foldl_map→yq
open Nat renaming le_refl→zk,zero_le→zY,le_trans→zc,lt_of_lt_of_le→zo,le_add_right→yz
open Go.Lib renaming hid→zj
open Prod.mk renaming inj→zD,injEq→zt
open Option.some renaming inj→zE,injEq→zL
open Go.Value.slice renaming injEq→zI
open Go.Addr.mk renaming injEq→zR
open Option renaming map_some→zn
open And renaming intro→yu
open Go.Proofs.Tryz
namespace Go.Proofs.YthpldolmpinnhaaGreatDoor
open Go Go.RowKit
set_option maxRecDepth 10000
section
variable {τ:Type} {w0 W:World} {A0 b q mb g k:Nat} {G:Nat->Prop} {s:MkS} {vC vI gv:Value} {rs:List (Value×Value)} {E:qI τ} {F S:τ->Nat->Prop} {Inv:τ->World->Prop} {r:bH τ} {x:jf}
def cg(s:MkS)(x:jf)(u:Wd)(_:τ)(_:World)(e:Ending):Prop:=e = .returned (.int .i64 ((Vy s x u:Nat):Int))
theorem cZ{α:Type}[BEq α][LawfulBEq α]{l:List α}{a:α}{i:Nat}(hi:i<l.length)(h:a ∉ l.take i)(he:l[i]=a):l.idxOf a=i:=by
 have h1:l=l.take i++l[i]::l.drop (i+1):=by rw[←List.drop_eq_getElem_cons hi,List.take_append_drop]
 rw[h1,List.idxOf_append,if_neg h,he,List.idxOf_cons_self,List.length_take];omega
theorem cY{α:Type}{l:List α}{a:α}{i:Nat}(hi:i<l.length)(h:a ∉ l.take i)(he:l[i]≠a):a ∉ l.take (i+1):=by
 rw[List.take_succ_eq_append_getElem hi,zZ,z7];exact fun q=>q.elim h (fun e=>he e.symm)
theorem Na(hE:dm w0 A0 b G q mb g s vC vI rs gv E F S Inv)(hf:Fr G G w0 W)(hR:vr b A0 q g gv G F S Inv r W)(hk:s.code[k]? = some x){t:Wd}(hc:Zc s x=some t){I ic:Nat}(JP:vI = .slice (some ⟨I,0,none⟩) s.code.length ic)(qC:x.k.tail.all (fun j=>decide (j<s.cs.length))=true)(LC:x.k.length<=1000000) :
  Calls prog 136 #[.pointer (some ⟨b,0,none⟩),.pointer (some ⟨I,k*5,none⟩)] W (XB F S Inv r.gs W (cg s x) (I3 E t r.gs)):=by
 obtain⟨j,hj,ht⟩:=bR hc;have hp:=hE.prog W hf;obtain⟨I1,ic1,kv,tv,q1,lt,i0,-,i3,-,kr,-⟩:=hp.ins hk;have YV:=zE (hp.q1.symm.trans q1);rw[JP] at YV;simp only[zI,zL,zR,and_true,true_and] at YV;rw[←YV.1] at i3;obtain⟨C,cc,q0,cj,QS⟩:=hp.ld ht;obtain⟨K,kc,rfl,kj,yf0⟩:=kr.at_ hj;have h3:=hE.n3 t (zg ht);obtain⟨v,st,cs,hO,vL,fX,hi,ZJ,YS,hS,hA,hF⟩:=hR;have IP:CT b A0 q g gv G F S Inv r v st cs W:=⟨hO,vL,fX,hi,ZJ,YS,hS,hA,hF⟩;have XE:DZ b q j t W:=⟨hO.cell.1,C,s.cs.length,cc,q0,cj,QS,hE.n2⟩;have OO:=zj (ah hE.get b q j t r.gs W hO.cell.2.2.1 XE hi (by omega));obtain⟨z,hZ⟩:∃ z,x.k.length=z:=⟨_,rfl⟩;rw[hZ] at i3 yf0 LC;obtain⟨res,vM⟩:∃ res,I3 E t r.gs=res:=⟨_,rfl⟩;rw[vM] at OO ⊢;have k3:(0:Int)<(z:Int):=by omega
 have HE:=zj hE;have HF:=zj hf;have ES:=zj IP;have HK:=zj hk;have HVI:=zj JP;have im:=zj qC;have HZ:=zj hZ;clear hE hf IP hk JP qC hp hO vL fX hi ZJ YS hS hA hF kr hj ht hc XE vM q1 i0 q0 cj lt QS YV hZ;go_enter func136,ntmps136;go_wp2_with fail;refine OO.out.mono ?_;intro e w1 hq
 cases res with
 | error er =>
  obtain⟨c,s'⟩:=er;obtain⟨⟨uG,rfl,hold⟩,hI⟩:=hq;have HQ:=zj (show XB F S Inv r.gs W (cg s x) (.error (c,s'):Except (Nat×τ) (Wd×τ)) (.panicked ({ v:=qP c,recovered:=false }::uG)) w1 from⟨⟨uG,rfl,hold⟩,hI⟩);clear hold hI OO;go_wp2;exact⟨rfl,HQ.out⟩
 | ok p =>
  obtain⟨u,s'⟩:=p;obtain⟨⟨hu,rfl⟩,hI⟩:=hq;obtain⟨h1,h2⟩:=ES.out.asked HE.out hI;have hp:=HE.out.prog w1 (HF.out.trans h2);obtain⟨I1,ic1,kv,tv,q1,lt,i0,-,i3',-,kr,-⟩:=hp.ins HK.out;have YV:=zE (hp.q1.symm.trans q1);rw[HVI.out] at YV;simp only[zI,zL,zR,and_true,true_and] at YV;rw[←YV.1] at i3';obtain⟨K2,kc2,QE,yf1,yf2,EX⟩:=vU kr (by rw[HZ.out];omega);have TM:x.k.length<=kc2:=by
   rcases kr.2 with⟨hv,hn⟩|⟨g2,uB,cur,hv,_,_,hh,_⟩
   ·rw[HZ.out] at hn;omega
   ·rw[QE] at hv;cases hv;exact hh
  rw[QE,HZ.out] at i3';rw[HZ.out] at TM;have b0:=h1.o.cell.1;have HI:=zj hI;have HP:=zj hp;have SP:=zj EX;obtain⟨y,rfl⟩:∃ y,z=y+1:=⟨z - 1,by omega⟩;have l4:1<=kc2:=by omega
  have l5:((y:Int)+1) - 1=(y:Int):=by omega
  obtain⟨L,hL⟩:∃ L,x.k.tail.map (fun j=>s.cs[j]?)=L:=⟨_,rfl⟩;have hLl:L.length=y:=by rw[←hL,List.length_map,zh,HZ.out];omega
  have sG:Vy s x u=L.idxOf (some u):=by unfold Vy;rw[hL]
  have HL:=zj (yu hL (yu hLl sG));have qa:(⟨u.toArray⟩:ByteArray).size=u.length:=size_mk _;clear h1 h2 hI OO hp q1 lt i0 kr YV QE EX yf1 yf2 kj i3 hL hLl sG;by_cases hk1:kc2=1
  ·obtain rfl:y=0:=by omega
   subst hk1;have HQ:=zj (show Vy s x u=0 by
    obtain⟨a,b,c⟩:=HL.out;rw[c,List.eq_nil_of_length_eq_zero b];rfl)
   go_wp2_with fail;go_loopw [20] (fun iv wr=>iv = .int .i64 0/\wr=w1) (fun _ _=>0)
   case atStart=>exact⟨rfl,rfl⟩
   case round =>
    obtain⟨rfl,rfl⟩:=hrel;go_wp2;go_ret;exact⟨by unfold cg;rw[HQ.out];rfl,HI.out⟩
  ·go_wp2_with fail;go_loopw [20] (fun iv wr=>∃ i:Nat,iv = .int .i64 (i:Nat)/\i<=y/\some u ∉ L.take i/\Fr xN xN w1 wr) (fun iv _=>y - (intOf iv).toNat)
   case atStart=>exact⟨0,rfl,zY _,by simp,Fr.refl _ _⟩
   case round =>
    obtain⟨i,rfl,hiy,EJ,Y2⟩:=hrel;have Kh:=zj Y2;have HN:=zj EJ;by_cases xC:i<y
    ·obtain⟨hL,hLl,sG⟩:=HL.out;have U8:i<L.length:=by omega
     have hkt:i<x.k.tail.length:=by rw[zh,HZ.out];omega
     have Ob:x.k.tail[i]<s.cs.length:=of_decide_eq_true (zP.1 im.out _ (List.getElem_mem hkt));have tV:x.k[i+1]? = some x.k.tail[i]:=by rw[List.getElem_tail,zv]
     obtain⟨jj,hjj⟩:∃ jj,x.k.tail[i]=jj:=⟨_,rfl⟩;rw[hjj] at Ob tV;obtain⟨c,OD⟩:∃ c,s.cs[jj]? = some c:=⟨_,zv Ob⟩;have hLi:L[i]=some c:=by
      have:L[i]? = some (some c):=by rw[←hL,List.getElem?_map,zv hkt,hjj,zn,OD]
      rw[zv U8] at this;exact zE this
     obtain⟨C2,cc2,q0,cj,QS⟩:=HP.out.ld OD;have q0':=Y2.cell q0 id;have cj':=Y2.cell cj id;have b0':=Y2.cell b0 id;have i3b:=Y2.cell i3' id;have kj':wr.cell? ⟨K2,i+1,none⟩=some (.int .i64 jj):=Y2.cell (by rw[SP.out _ (by rw[HZ.out];omega)];simp[Z2,tV]) id;obtain⟨mm,LI⟩:∃ mm,s.cs.length=mm:=⟨_,rfl⟩;rw[LI] at q0' QS;have f1:(i:Int)<(y:Int):=by omega
     have f2:(1:Int)+(i:Int)<(y:Int)+1:=by omega
     have f3:(0:Int)<=1+(i:Int):=by omega
     have f4:IntKind.i64.wrap (1+(i:Int))=1+(i:Int):=by rw[IntKind.wrap_i64];omega
     have f5:(1+(i:Int)).toNat=i+1:=by omega
     have f6:(jj:Int)<(mm:Int):=by omega
     have xu4:(⟨c.toArray⟩:ByteArray).size=c.length:=size_mk _;clear Y2 EJ q0 cj QS OD hjj tV Ob hkt hL hLl sG LI;by_cases hcu:c=u
     ·subst hcu;have HS:=zj (show Vy s x c=i by rw[HL.out.2.2];exact cZ U8 HN.out hLi);clear hLi U8;go_wp2_with fail;refine rt (fun W':World=>W'.cell? ⟨b,0,none⟩=some (.pointer (some ⟨q,0,none⟩))/\W'.cell? ⟨q,0,none⟩=some (.slice (some ⟨C2,0,none⟩) mm cc2)/\W'.cell? ⟨I,k*5+3,none⟩=some (.slice (some ⟨K2,0,none⟩) (y+1) kc2)/\W'.cell? ⟨K2,i+1,none⟩=some (.int .i64 jj)/\W'.cell? ⟨C2,jj,none⟩=some (xk c)) (zW 19) 0 ⟨b0',q0',i3b,kj',cj'⟩ ?_;(iterate 19 (refine ty ?_;try simp only[pl]))
      refine xq ?_;refine wpAnyH_done (by kernel_rfl) ?_ _;go_wp2;go_ret;exact⟨by unfold cg;rw[HS.out];rfl,XB.more HE.out.get HI.out (Kh.out.drew) (fun _ q=>q.elim)⟩
     ·have iM:=zj (cY U8 HN.out (by rw[hLi];exact fun e=>hcu (zE e)));have xu5:(c==u)=false:=by simpa using hcu
      clear hLi U8;go_wp2_with fail;refine rt (fun W':World=>W'.cell? ⟨b,0,none⟩=some (.pointer (some ⟨q,0,none⟩))/\W'.cell? ⟨q,0,none⟩=some (.slice (some ⟨C2,0,none⟩) mm cc2)/\W'.cell? ⟨I,k*5+3,none⟩=some (.slice (some ⟨K2,0,none⟩) (y+1) kc2)/\W'.cell? ⟨K2,i+1,none⟩=some (.int .i64 jj)/\W'.cell? ⟨C2,jj,none⟩=some (xk c)) (zW 19) 0 ⟨b0',q0',i3b,kj',cj'⟩ ?_;(iterate 19 (refine ty ?_;try simp only[pl]))
      refine xq ?_;refine wpAnyH_done (by kernel_rfl) ?_ _;go_wp2;exact⟨⟨i+1,congrArg (Value.int .i64) (by omega),by omega,iM.out,Kh.out.drew⟩,by simp only[intOf];omega⟩
    ·obtain rfl:i=y:=by omega
     have HS:=zj (show Vy s x u=i by
      obtain⟨hL,hLl,sG⟩:=HL.out;rw[sG];have h:=HN.out;rw[List.take_of_length_le (by omega)] at h;rw[zF h,hLl])
     have i3b:=Y2.cell i3' id;have f1:¬((i:Int)<(i:Int)):=by omega
     clear Y2 EJ;go_wp2;go_ret;exact⟨by unfold cg;rw[HS.out];first|rfl|simp,XB.more HE.out.get HI.out Kh.out (fun _ q=>q.elim)⟩
end
theorem jy.dH{q mb k:Nat}{s:MkS}{vC vI:Value}{rs:List (Value×Value)}{w:World}{x:jf}(h:jy q s vC vI rs mb w)(hk:s.code[k]? = some x):∃ I ic kv tv,rs[k]? = some (kv,tv)/\vI = .slice (some ⟨I,0,none⟩) s.code.length ic/\zcv q k x I s.code.length ic kv tv w:=by
 have hil:=(z8.1 hk).1;obtain⟨⟨kv,tv⟩,hr⟩:∃ r,rs[k]? = some r:=⟨_,zv (by have:=h.rows.len;omega)⟩;obtain⟨h1,h2⟩:=h.rows.k k x _ hk hr;obtain⟨I,ic,JP,-,hI,R1⟩:=vU h.cI (by omega);have c:∀ j,j<5->w.cell? ⟨I,k*5+j,none⟩=(Fc x (kv,tv))[j]? := fun j hj=>by rw[R1 _ (by omega),Uf _ _ h.rows.len k j x _ hk hr hj]
 exact⟨I,ic,kv,tv,hr,JP,⟨by rw[h.q1,JP],hil,c 0 (by omega),c 2 (by omega),c 3 (by omega),c 4 (by omega),h1,h2⟩⟩
section
variable {τ:Type} {w0 W:World} {A0 b q mb g k:Nat} {G:Nat->Prop} {s:MkS} {vC vI gv:Value} {rs:List (Value×Value)} {E:qI τ} {F S:τ->Nat->Prop} {Inv:τ->World->Prop} {r:bH τ} {x:jf}
def zly(b A0 q g:Nat)(gv:Value)(G:Nat->Prop)(F S:τ->Nat->Prop)(Inv:τ->World->Prop)(s:MkS)(x:jf)(r:bH τ)(res:Except (Nat×τ) (Wd×τ))(W:World)(e:Ending)(w':World):Prop :=
 (match res with
  | .ok (u,s')=>(∀ p,x.tg[Vy s x u]? = some p->e = .returned (.int .i64 (Jy s p)))/\vr b A0 q g gv G F S Inv { r with gs:=s' } w'
  | .error (n,s')=>zvg n e/\CS Inv S b { r with gs:=s' } w')/\Fr G G W w'
theorem IW(hE:dm w0 A0 b G q mb g s vC vI rs gv E F S Inv)(hf:Fr G G w0 W)(hR:vr b A0 q g gv G F S Inv r W)(hk:s.code[k]? = some x)(uC:x.op=10){t:Wd}(hc:Zc s x=some t)(qC:x.k.tail.all (fun j=>decide (j<s.cs.length))=true)(LC:x.k.length<=1000000)(Jx:∀ u,∃ p,x.tg[Vy s x u]? = some p) :
  Calls prog 87 #[.pointer (some ⟨b,0,none⟩),.int .i64 (k:Nat)] W (zly b A0 q g gv G F S Inv s x r (I3 E t r.gs) W):=by
 have hp:=hE.prog W hf;obtain⟨I,ic,kv,tv,ZQ,JP,q1,lt,i0,-,-,i4,-,tr⟩:=hp.dH hk;obtain⟨p0,hp0⟩:=Jx [];obtain⟨T,tc,htv,-,yf7⟩:=tr.at_ hp0;obtain⟨v,st,cs,hO,vL,fX,hi,ZJ,YS,hS,hA,hF⟩:=hR;have IP:CT b A0 q g gv G F S Inv r v st cs W.drew:=⟨hO,vL,gp.fr ((Fr.refl xN W).drew) (fun _ q=>q.elim) (fun _ q => .inl q) fX,hE.get.fr hi ((Fr.refl xN W).drew) (fun _ q=>q.elim),ZJ,YS,hS,hA,hF⟩;have hRA:vr b A0 q g gv G F S Inv r W.drew:=⟨v,st,cs,IP.o,IP.row,IP.en,IP.inv,IP.sb,IP.sv,IP.ds,IP.da,IP.df⟩;have aN:Fr G G w0 W.drew:=hf.drew;have HCH:=zj (Na hE aN hRA hk hc JP qC LC);have b0:=hO.cell.1;have Zz:=hE.n1;obtain⟨n,hN⟩:∃ n,s.code.length=n:=⟨_,rfl⟩;obtain⟨z,hZ⟩:∃ z,x.tg.length=z:=⟨_,rfl⟩;obtain⟨res,vM⟩:∃ res,I3 E t r.gs=res:=⟨_,rfl⟩;rw[vM] at HCH ⊢;have HI4:=zj (fun (w:World) (h:jy q s vC vI rs mb w)=>show w.cell? ⟨I,k*5+4,none⟩=some (.slice (some ⟨T,0,none⟩) z tc)/\∀ j y,x.tg[j]? = some y->w.cell? ⟨T,j,none⟩=some (.int .i64 (y:Nat)) from by
  obtain⟨I',ic',mD,tv',zlx,zu1,q1',-,-,-,-,i4',-,tr'⟩:=h.dH hk;rw[JP] at zu1;simp only[zI,zL,zR,and_true,true_and] at zu1;rw[ZQ] at zlx
  cases zlx;rw[←zu1.1] at i4';refine⟨by rw[i4',htv,hZ],fun j y hj=>?_⟩;obtain⟨T',tc',zlv,oB,-⟩:=tr'.at_ hj;rw[htv] at zlv
  cases zlv;exact oB)
 have i4W:=(HI4.out W hp).1;have tjW:=(HI4.out W hp).2;rw[hN] at q1 lt Zz;rw[uC] at i0;have k1:(k:Int)<(n:Int):=by omega
 have HE:=zj hE;have HF:=zj aN;have ES:=zj IP;have HTB:=zj Jx;have HX4:=zj (fun p hp=>(hE.n4 x (zg hk)).2 p hp);obtain⟨TG,hTG⟩:∃ TG,x.tg=TG:=⟨_,rfl⟩;rw[hTG] at tjW hZ HI4;have HZ:=zj hZ;have HTG:=zj hTG;clear hE hf IP hRA hk uC hc qC hp hO vL fX hi ZJ YS hS hA hF hN hZ tr ZQ JP i4 yf7 Jx vM hp0 aN hTG htv;go_enter func87,ntmps87;go_wp2_with fail;refine rt (fun W':World=>W'.cell? ⟨b,0,none⟩=some (.pointer (some ⟨q,0,none⟩))/\W'.cell? ⟨I,k*5+4,none⟩=some (.slice (some ⟨T,0,none⟩) z tc)/\∀ j y,TG[j]? = some y->W'.cell? ⟨T,j,none⟩=some (.int .i64 (y:Nat))) (zW 10) 5 ⟨b0,i4W,tjW⟩ ?_;(iterate 10 (refine ty ?_;try simp only[pl]))
 refine xq ?_;refine xg 10 (by kernel_rfl) rfl (fun J hJ=>?_);go_simp;refine HCH.out.mono ?_;intro e w1 hq
 cases res with
 | error er =>
  obtain⟨c,s'⟩:=er;obtain⟨⟨uG,rfl,hold⟩,hI⟩:=hq;obtain⟨h1,h2⟩:=ES.out.asked HE.out hI;have HQ:=zj (show zly b A0 q g gv G F S Inv s x r (.error (c,s'):Except (Nat×τ) (Wd×τ)) W (.panicked ({ v:=qP c,recovered:=false }::uG)) w1 from⟨⟨⟨uG,rfl,hold⟩,h1.inv,fun k hk=>(h1.ds k hk).1⟩,h2.und⟩);clear hold hI HCH h1 h2;exact⟨rfl,HQ.out⟩
 | ok p =>
  obtain⟨u,s'⟩:=p;obtain⟨Nz,hI⟩:=hq;obtain rfl:=Nz;obtain⟨h1,h2⟩:=ES.out.asked HE.out hI;have Ub:=HE.out.prog w1 (HF.out.trans h2);obtain⟨sJ,oP⟩:=HI4.out w1 Ub;have sK:=h1.o.cell.1;obtain⟨p,VS⟩:=HTB.out u;obtain⟨ix,Hn⟩:∃ ix,Vy s x u=ix:=⟨_,rfl⟩;rw[Hn] at VS ⊢;have zu2:TG[ix]? = some p:=by rw[←HTG.out];exact VS
  have k3:(ix:Int)<(z:Int):=by have:=(z8.1 zu2).1;have:=HZ.out;omega
  have QX:=zj (Gn q mb s.code.length p (fW s.code s.code.length) w1 Ub.q2 Ub.mp (HX4.out p (zg VS)));have tj1:=oP ix p zu2;have Kh:=zj (show Fr G G W w1 from h2.und);have fP:=zj h1;obtain⟨jv,Bj⟩:∃ jv,Jy s p=jv:=⟨_,rfl⟩;rw[show NP (fW s.code s.code.length p)=jv from Bj] at QX;have HJV:=zj Bj;have DO:=zj (yu VS Hn);clear hI HCH h1 h2 Ub Bj VS Hn b0 i4W tjW;refine hJ.out _ _ ⟨sK,sJ,oP⟩ fun _=>?_
  clear hJ J;refine xG [11,12] 2 rfl (by intro _ _ d _ _ h;cases d<;>exact h) (by kernel_rfl) (by kernel_rfl) ⟨sK,sJ,oP⟩ ?_;refine ty ?_;try simp only[pl]
  refine QD (v := .int .i64 (p:Nat)) rfl (by rfl) ?_ ?_
  ·intro w' pS;have t1:=pS.2.2 ix p zu2;go_simp
  try simp only[pl]
  refine xq ?_;refine xg 13 (by kernel_rfl) rfl (fun J hJ=>?_);go_simp;refine QX.out.mono ?_;rintro e w3 ⟨rfl,rfl⟩;refine hJ.out _ _ ⟨sK,sJ,oP⟩ fun _=>?_
  clear hJ J;refine xG [14] 0 rfl (by intro _ _ d _ _ h;cases d<;>exact h) (by kernel_rfl) (by kernel_rfl) ⟨sK,sJ,oP⟩ ?_;refine ty ?_;try simp only[pl]
  refine xq ?_;refine wpAnyH_done (by kernel_rfl) ?_ _;go_wp2;go_ret;refine⟨⟨fun p' hp'=>?_,⟨_,_,_,fP.out.o,fP.out.row,fP.out.en,fP.out.inv,fP.out.sb,fP.out.sv,fP.out.ds,fP.out.da,fP.out.df⟩⟩,Kh.out⟩;rw[DO.out.2,DO.out.1] at hp'
  cases hp';rw[HJV.out];rfl
end
def cX(s:MkS):Prop:=∀ x∈s.code,(x.op=7->0<x.tg.length)/\(x.op=10->x.k.length<=1000000/\x.k.tail.all (fun j=>decide (j<s.cs.length))=true/\x.k.tail.length<x.tg.length)
section
variable {τ:Type} {w0 W:World} {A0 b q mb g k:Nat} {G:Nat->Prop} {s:MkS} {vC vI gv:Value} {rs:List (Value×Value)} {E:qI τ} {F S:τ->Nat->Prop} {Inv:τ->World->Prop} {r:bH τ} {x:jf}
def VmI(w0:World)(b A0 q g:Nat)(gv:Value)(G:Nat->Prop)(F S:τ->Nat->Prop)(Inv:τ->World->Prop)(m _:Nat)(r:bH τ)(W:World):Prop :=
 vr b A0 q g gv G F S Inv r W/\Fr G G w0 W/\r.out.length+m*5000<=900000000/\r.stk.length+m<=900000
def VmJ(w0:World)(b A0 q g:Nat)(gv:Value)(G:Nat->Prop)(F S:τ->Nat->Prop)(Inv:τ->World->Prop)(r:bH τ)(W:World):Prop :=
 vr b A0 q g gv G F S Inv r W/\r.out.length<=900000000
theorem IA{n k m:Nat}(hl:n+(m+1)*5000<=k):n+m*5000<=k:=by
 rw[Nat.succ_mul] at hl;exact zc (Nat.add_le_add_left (yz _ _) n) hl
theorem Bg{n k m:Nat}(hl:n+(m+1)<=k):n+m<=k:=by omega
theorem SR{n k m:Nat}(hl:n+(m+1)*5000<=k):n<=k:=by omega
theorem PC{m:Nat}(hf:Fr G G w0 W)(hl:r.out.length+(m+1)*5000<=900000000)(hs:r.stk.length+(m+1)<=900000){r':bH τ}{e:Ending}{w':World}(h1:e = .returned (.int .i64 ((k+1:Nat):Int)))(h2:VmQ b A0 q g gv G F S Inv r (k+1) r' w')(h3:Fr G G W w') :
  N7 G (VmI w0 b A0 q g gv G F S Inv m) (VmJ w0 b A0 q g gv G F S Inv) (CS Inv S b) (.go (k+1) r') W e w' :=
 ⟨⟨h1,h2.1,hf.trans h3,by have:=h2.2.1;omega,by have:=h2.2.2;omega⟩,h3⟩
theorem oR{m:Nat}(hf:Fr G G w0 W)(hl:r.out.length+(m+1)*5000<=900000000)(hs:r.stk.length+(m+1)<=900000){r':bH τ}{e:Ending}{w':World}(h1:e = .returned (.int .i64 ((k+1:Nat):Int)))(h2:vr b A0 q g gv G F S Inv r' w')(h3:Fr G G W w')(a1:r'.out=r.out)(a2:r'.stk=r.stk) :
  N7 G (VmI w0 b A0 q g gv G F S Inv m) (VmJ w0 b A0 q g gv G F S Inv) (CS Inv S b) (.go (k+1) r') W e w':=by
 have k2:r.out.length+m*5000<=900000000:=IA hl;have k3:r.stk.length+m<=900000:=Bg hs;exact⟨⟨h1,h2,hf.trans h3,by simp only[a1];exact k2,by simp only[a2];exact k3⟩,h3⟩
theorem Gs{m p:Nat}(hf:Fr G G w0 W)(hl:r.out.length+(m+1)*5000<=900000000)(hs:r.stk.length+(m+1)<=900000){r':bH τ}{e:Ending}{w':World}(h1:e = .returned (.int .i64 (Jy s p)))(h2:vr b A0 q g gv G F S Inv r' w')(h3:Fr G G W w')(a1:r'.out=r.out)(a2:r'.stk=r.stk) :
  N7 G (VmI w0 b A0 q g gv G F S Inv m) (VmJ w0 b A0 q g gv G F S Inv) (CS Inv S b) (Lm s (some p) r') W e w':=by
 have k2:r.out.length+m*5000<=900000000:=IA hl;have k1:r.out.length<=900000000:=SR hl;have k3:r.stk.length+m<=900000:=Bg hs;refine⟨?_,h3⟩;simp only[Lm];subst h1;unfold Jy
 cases fW s.code s.code.length p with
 | none=>exact⟨rfl,h2,by simp only[a1];exact k1⟩
 | some k'=>exact⟨rfl,h2,hf.trans h3,by simp only[a1];exact k2,by simp only[a2];exact k3⟩
def yfz(r:bH τ)(k:Nat){α:Type}(fn:α->τ->bH τ)(res:Except (Nat×τ) (α×τ)):Rp (bH τ):=match res with | .error (n,s') => .err n { r with gs:=s' } | .ok (a,s') => .go (k+1) (fn a s')
theorem Nc{m:Nat}{α:Type}{fn:α->τ->bH τ}(hf:Fr G G w0 W)(hl:r.out.length+(m+1)*5000<=900000000)(hs:r.stk.length+(m+1)<=900000){res:Except (Nat×τ) (α×τ)}{e:Ending}{w':World}(h:NS b A0 q g gv G F S Inv r k fn res W e w'){o:Rp (bH τ)}
  (ho:o=yfz r k fn res) :
  N7 G (VmI w0 b A0 q g gv G F S Inv m) (VmJ w0 b A0 q g gv G F S Inv) (CS Inv S b) o W e w':=by
 subst ho;obtain⟨h1,h2⟩:=h
 cases res with
 | error er=>exact⟨h1,h2⟩
 | ok a=>exact PC hf hl hs h1.1 h1.2 h2
theorem bS{α:Type}{l:List α}{t:α}(h:l.getLast? = some t):l=l.dropLast++[t]:=by
 obtain⟨ys,rfl⟩:=List.getLast?_eq_some_iff.1 h;simp
theorem cV{x:jf}{i:Nat}{r:bH τ}(h:Lm s x.tg[i]? r ≠ .bad):∃ p,x.tg[i]? = some p:=by
 cases hp:x.tg[i]? with
 | none=>rw[hp] at h;exact absurd rfl h
 | some p=>exact⟨p,rfl⟩
theorem oS(hE:dm w0 A0 b G q mb g s vC vI rs gv E F S Inv)(hT:cX s){m:Nat}(hI:VmI w0 b A0 q g gv G F S Inv (m+1) k r W)(hb:jM E s k r ≠ .bad) :
  Calls prog 87 #[.pointer (some ⟨b,0,none⟩),.int .i64 (k:Nat)] W (N7 G (VmI w0 b A0 q g gv G F S Inv m) (VmJ w0 b A0 q g gv G F S Inv) (CS Inv S b) (jM E s k r) W):=by
 obtain⟨hR,hf,hl,hs⟩:=hI;have BP:∀ {w w':World},Fr xN xN w w'->Fr G G w w':=fun h=>(h.tg (F'':=xN) (fun k hk=>hk.elim)).wide (fun k hk=>hk.elim)
 have dG:r.stk.length<=900000:=by omega
 have b8:r.stk.length<=1000000:=by omega
 have EY:r.out.length<=900000000:=by omega
 cases hk:s.code[k]? with
 | none=>exact absurd (by simp only[jM,hk]) hb
 | some x =>
  have vL:jM E s k r=ue E s x k r:=by simp only[jM,hk]
  rw[vL] at hb ⊢;have KU:x.op=0\/x.op=1\/x.op=2\/x.op=3\/x.op=4\/x.op=5\/x.op=6\/x.op=7\/x.op=8\/x.op=9\/x.op=10\/x.op=11\/12<=x.op:=by omega
  rcases KU with uC|uC|uC|uC|uC|uC|uC|uC|uC|uC|uC|uC|uC
  ·rw[show ue E s x k r = .fin r by unfold ue;rw[uC];rfl];obtain⟨v,st,cs,hO,lu⟩:=hR;refine(step_end hO (hE.prog W hf) hk uC hE.n1).mono ?_;rintro e w' ⟨rfl,rfl⟩;exact⟨⟨rfl,⟨v,st,cs,hO,lu⟩,EY⟩,Fr.refl _ _⟩
  ·cases hc:Zc s x with
   | none=>exact absurd (by unfold ue;rw[uC];simp only[hc]) hb
   | some t =>
    rw[show ue E s x k r = .go (k+1) { r with out:=r.out++t } by unfold ue;rw[uC];simp only[hc]];exact(aw hE hf hR hk uC hc EY).mono fun e w' h=>PC hf hl hs h.1 h.2.1 h.2.2
  ·cases hc:Zc s x with
   | none=>exact absurd (by unfold ue;rw[uC];simp only[hc]) hb
   | some t =>
    refine(cy hE hf hR hk uC hc EY).mono fun e w' h=>Nc hf hl hs h ?_
    unfold ue;rw[uC];simp only[hc];generalize Yd E t r.gs=z;rcases z with⟨n,g'⟩|⟨⟨t,num⟩,g'⟩<;>rfl
  ·cases hc:Zc s x with
   | none=>exact absurd (by unfold ue;rw[uC];simp only[hc]) hb
   | some t =>
    refine(IN hE hf hR hk uC hc EY).mono fun e w' h=>Nc hf hl hs h ?_
    unfold ue;rw[uC];simp only[hc];generalize Yb E t r.gs=z;rcases z with⟨n,g'⟩|⟨v,g'⟩<;>rfl
  ·cases hc:Zc s x with
   | none=>exact absurd (by unfold ue;rw[uC];simp only[hc]) hb
   | some t =>
    refine(NT hE hf hR hk uC hc dG).mono fun e w' h=>Nc hf hl hs h ?_
    unfold ue;rw[uC];simp only[hc];generalize Yb E t r.gs=z;rcases z with⟨n,g'⟩|⟨v,g'⟩<;>rfl
  ·cases hc:r.stk.getLast? with
   | none=>exact absurd (by unfold ue;rw[uC];simp only[hc]) hb
   | some t =>
    rw[show ue E s x k r = .go (k+1) { r with stk:=r.stk.dropLast } by unfold ue;rw[uC];simp only[hc]];exact(NR hE hf hR hk uC (bS hc) b8).mono fun e w' h=>PC hf hl hs h.1 h.2.1 h.2.2
  ·cases hc:r.stk.getLast? with
   | none=>exact absurd (by unfold ue;rw[uC];simp only[hc]) hb
   | some t =>
    rw[show ue E s x k r = .go (k+1) { r with out:=r.out++E.wr t.2 } by unfold ue;rw[uC];simp only[hc]];exact(SI hE hf hR hk uC (bS hc) b8 EY).mono fun e w' h=>PC hf hl hs h.1 h.2.1 h.2.2
  ·cases hc:r.stk.getLast? with
   | none=>exact absurd (by unfold ue;rw[uC];simp only[hc]) hb
   | some t =>
    rw[show ue E s x k r=if fe t.1 x.v then Lm s x.tg[0]? r else .go (k+1) r by unfold ue;rw[uC];simp only[hc]] at hb ⊢;obtain⟨p,hp⟩:∃ p,x.tg[0]? = some p:=⟨_,zv ((hT x (zg hk)).1 uC)⟩;rw[hp];refine(NA hE hf hR hk uC hp (bS hc) b8).mono fun e w' h=>?_
    by_cases Ek:fe t.1 x.v=true
    ·rw[if_pos Ek];exact Gs hf hl hs (by rw[h.1,if_pos Ek]) (hR.quiet hE h.2) (BP h.2) rfl rfl
    ·rw[if_neg Ek];exact oR hf hl hs (by rw[h.1,if_neg Ek]) (hR.quiet hE h.2) (BP h.2) rfl rfl
  ·cases hc:r.stk.getLast? with
   | none=>exact absurd (by unfold ue;rw[uC];simp only[hc]) hb
   | some t =>
    rw[show ue E s x k r=Lm s x.tg[E.sort false t.2.2]? r by unfold ue;rw[uC];simp only[hc]] at hb ⊢;obtain⟨p,hp⟩:=cV hb;rw[hp];exact(SM hE hf hR hk uC (bS hc) hp b8).mono fun e w' h=>Gs hf hl hs h.1 (hR.quiet hE h.2) (BP h.2) rfl rfl
  ·cases hc:r.stk.getLast? with
   | none=>exact absurd (by unfold ue;rw[uC];simp only[hc]) hb
   | some t =>
    rw[show ue E s x k r=Lm s x.tg[E.sort true t.2.2]? r by unfold ue;rw[uC];simp only[hc]] at hb ⊢;obtain⟨p,hp⟩:=cV hb;rw[hp];exact(SN hE hf hR hk uC (bS hc) hp b8).mono fun e w' h=>Gs hf hl hs h.1 (hR.quiet hE h.2) (BP h.2) rfl rfl
  ·cases hc:Zc s x with
   | none=>exact absurd (by unfold ue;rw[uC];simp only[hc]) hb
   | some t =>
    obtain⟨a1,a2,a3⟩:=(hT x (zg hk)).2 uC;have Jx:∀ u,∃ p,x.tg[Vy s x u]? = some p:=fun u=>⟨_,zv (Nat.lt_of_le_of_lt (by unfold Vy;exact zc zl (by simp)) a3)⟩
    refine(IW hE hf hR hk uC hc a2 a1 Jx).mono fun e w' h=>?_
    rw[show ue E s x k r=(match I3 E t r.gs with | .error (e,g) => .err e { r with gs:=g } | .ok (t,g)=>Lm s x.tg[Vy s x t]? { r with gs:=g }) by unfold ue;rw[uC];simp only[hc,a2,if_true];generalize I3 E t r.gs=z;rcases z with⟨n,g'⟩|⟨u,g'⟩<;>rfl];obtain⟨h1,h2⟩:=h
    cases hw:I3 E t r.gs with
    | error er =>
     rw[hw] at h1;exact⟨h1,h2⟩
    | ok p =>
     obtain⟨u,s'⟩:=p;rw[hw] at h1;obtain⟨p,hp⟩:=Jx u;show N7 _ _ _ _ (Lm s x.tg[Vy s x u]? { r with gs:=s' }) _ _ _;rw[hp];exact Gs hf hl hs (h1.1 p hp) h1.2 h2 rfl rfl
  ·rw[show ue E s x k r=Lm s x.tg[0]? r by unfold ue;rw[uC];rfl] at hb ⊢;obtain⟨p,hp⟩:=cV hb;rw[hp];exact(step_goto hE hf hR hk uC hp).mono fun e w' h=>Gs hf hl hs h.1 (hR.quiet hE h.2) (BP h.2) rfl rfl
  ·refine absurd ?_ hb;unfold ue;split<;>first|rfl|omega
end
def Fo.Bf:Bool->Fo->Prop
 | _,.nil=>True
 | b,.text _ r=>r.Bf b
 | b,.hash r=>b=true/\r.Bf b
 | b,.put _ _ r=>r.Bf b
 | b,.num _ _ r=>r.Bf b
 | b,.br _ _ f _ _ bs r=>bs.ux=true/\bs.keys.Nodup/\qy∈bs.keys/\bs.Bf (decide (f≠0))/\r.Bf b
 | b,.ug _ _ m r=>m.vD=true/\m.Bf b/\r.Bf b
def PE(x:jf):Nat×Nat×Nat×List Nat×Nat:=(x.op,x.pos,x.v,x.k,x.tg.length)
theorem Zn(s:MkS)(i j n:Nat):(s.u7 i j).code[n]? = if i=n then (s.code[n]?).map (fun x=>{ x with tg:=x.tg.set j s.pos }) else s.code[n]? := by
 simp only[MkS.u7];rw[List.getElem?_modify];by_cases h:i=n
 ·simp[h]
 ·simp[h]
theorem cK(s:MkS)(i j:Nat):(s.u7 i j).code.length=s.code.length:=by simp[MkS.u7]
theorem xO(s:MkS)(op v:Nat)(k tg:List Nat):(s.put op v k tg).code=s.code++[⟨op,s.pos,v,k,tg⟩]:=rfl
theorem ZF(s:MkS):qA fun s'=>∀ (i:Nat) (x:jf),s.code[i]? = some x->∃ y,s'.code[i]? = some y/\PE y=PE x:=by
 refine⟨fun a op v k tg h i x hx=>?_,fun a t h i x hx=>?_,fun a i j h n x hx=>?_⟩
 ·obtain⟨y,h1,h2⟩:=h i x hx;exact⟨y,by rw[xO,zy (z8.1 h1).1];exact h1,h2⟩
 ·rw[(vq a t).2.1];exact h i x hx
 ·obtain⟨y,h1,h2⟩:=h n x hx;rw[Zn];split
  ·exact⟨_,by rw[h1];rfl,by rw[←h2];simp[PE]⟩
  ·exact⟨y,h1,h2⟩
theorem bT(c:List Wd):qA fun s=>c <+: s.cs:=by
 refine⟨fun a op v k tg h=>h,fun a t h=>?_,fun a i j h=>h⟩;unfold MkS.const;split
 ·exact h
 ·exact h.trans (zM _ _)
def KS(s:MkS):Prop:=(∀ (i j:Nat) (x y:jf),i<j->s.code[i]? = some x->s.code[j]? = some y->x.pos<y.pos)/\∀ x∈s.code,x.pos<s.pos
theorem cJ(x:jf):0<(uU x).length:=by simp[uU]
theorem SS:qA KS:=by
 refine⟨fun s op v k tg h=>?_,fun s t h=>?_,fun s i j h=>?_⟩
 ·have hp:=cJ ⟨op,s.pos,v,k,tg⟩;refine⟨fun i j x y hij hx hy=>?_,fun x hx=>?_⟩
  ·rw[xO] at hx hy;rw[List.getElem?_append] at hx hy;split at hy
   ·rw[if_pos (by omega)] at hx;exact h.1 i j x y hij hx hy
   ·have hj:j - s.code.length=0:=by
     have:=(z8.1 hy).1;simp at this;omega
    rw[hj] at hy;simp at hy;subst hy;rw[if_pos (by omega)] at hx;exact h.2 x (zg hx)
  ·show x.pos<s.pos+_;rw[xO,zZ,z7] at hx;rcases hx with hx|rfl
   ·have:=h.2 x hx;omega
   ·show s.pos<_;omega
 ·obtain⟨-,z2,z3⟩:=vq s t;unfold KS;rw[z2,z3];exact h
 ·have je:∀ (n:Nat) (x:jf),(s.u7 i j).code[n]? = some x->∃ y,s.code[n]? = some y/\y.pos=x.pos:=by
   intro n x hx;rw[Zn] at hx;split at hx
   ·cases hc:s.code[n]? with
    | none=>rw[hc] at hx;cases hx
    | some y=>rw[hc] at hx;cases hx;exact⟨y,rfl,rfl⟩
   ·exact⟨x,hx,rfl⟩
  refine⟨fun a b x y hab hx hy=>?_,fun x hx=>?_⟩
  ·obtain⟨x',h1,h2⟩:=je a x hx;obtain⟨y',h3,h4⟩:=je b y hy;rw[←h2,←h4];exact h.1 a b x' y' hab h1 h3
  ·obtain⟨n,hn,e⟩:=zi.1 hx;obtain⟨x',h1,h2⟩:=je n x (by rw[zv hn,e]);rw[←h2];exact h.2 x' (zg h1)
theorem cG{s:MkS}(h:KS s){k:Nat}{x:jf}(hx:s.code[k]? = some x):fW s.code s.code.length x.pos=some k:=by
 have key:∀ n,k<n->n<=s.code.length->fW s.code n x.pos=some k:=by
  intro n;induction n with
  | zero=>intro h;omega
  | succ n ih =>
   intro h1 h2;simp only[fW];by_cases hk:k=n
   ·subst hk;simp[hx]
   ·obtain⟨y,hy⟩:∃ y,s.code[n]? = some y:=⟨_,zv (by omega)⟩;have:=h.1 k n x y (by omega) hx hy;rw[hy];rw[if_neg (by simp;omega)];exact ih (by omega) (by omega)
 exact key _ (z8.1 hx).1 (zk _)
def uk(l:List (Nat×Nat))(s:MkS):MkS:=l.foldl (fun s p=>s.u7 p.1 p.2) s
theorem qF:∀ (l:List (Nat×Nat)) (s:MkS),(uk l s).code.length=s.code.length/\(uk l s).pos=s.pos/\(uk l s).cs=s.cs
 | [],s=>⟨rfl,rfl,rfl⟩
 | p::l,s=>by
  obtain⟨a,b,c⟩:=qF l (s.u7 p.1 p.2);exact⟨a.trans (cK _ _ _),b,c⟩
theorem fw:∀ (l:List (Nat×Nat)) (s:MkS) (n:Nat),(∀ p∈l,p.1≠n)->(uk l s).code[n]? = s.code[n]?
 | [],s,n,_=>rfl
 | p::l,s,n,h=>by
  show(uk l (s.u7 p.1 p.2)).code[n]? = _;rw[fw l _ n (fun q hq=>h q (zf _ hq)),Zn,if_neg (h p (zQ ..))]
def slot(s:MkS)(p:Nat×Nat):Option Nat:=(s.code[p.1]?).bind fun x=>x.tg[p.2]?
theorem SW(s:MkS)(i j:Nat)(p:Nat×Nat):slot (s.u7 i j) p=if (i,j)=p/\(slot s p).isSome then some s.pos else slot s p:=by
 unfold slot;rw[Zn];by_cases h1:i=p.1
 ·rw[if_pos h1]
  cases hc:s.code[p.1]? with
  | none=>simp
  | some x =>
   simp only[zn,Option.bind_some];rw[List.getElem?_set];by_cases h2:j=p.2
   ·rw[if_pos h2];have:(i,j)=p:=by rw[h1,h2]
    by_cases h3:j<x.tg.length
    ·rw[if_pos h3,if_pos ⟨this,by rw[←h2,zv h3];rfl⟩]
    ·have h4:x.tg[p.2]? = none:=List.getElem?_eq_none (by omega);rw[if_neg h3,h4,if_neg (by simp)]
   ·rw[if_neg h2,if_neg (fun q=>h2 (by rw[←q.1]))]
 ·rw[if_neg h1,if_neg (fun q=>h1 (by rw[←q.1]))]
theorem fU:∀ (l:List (Nat×Nat)) (s:MkS) (p:Nat×Nat),slot (uk l s) p=if p∈l/\(slot s p).isSome then some s.pos else slot s p
 | [],s,p=>by simp[uk]
 | q::l,s,p=>by
  show slot (uk l (s.u7 q.1 q.2)) p=_;rw[fU l,SW];have hp:(s.u7 q.1 q.2).pos=s.pos:=rfl;rw[hp];by_cases h1:(slot s p).isSome
  ·by_cases h2:(q.1,q.2)=p
   ·have:p∈q::l:=by rw[←h2];exact zQ ..
    simp[h1,h2,this]
   ·have h3:¬q=p:=fun e=>h2 (by rw[←e])
    have h4:¬p=q:=fun e=>h3 e.symm
    simp[h1,h2,h4]
  ·have h5:slot s p=none:=by simpa using h1
   simp[h5]
theorem Gt(s:MkS)(op v:Nat)(k tg:List Nat)(p:Nat×Nat)(h:p.1<s.code.length):slot (s.put op v k tg) p=slot s p:=by
 unfold slot;rw[xO,zy h]
theorem JC{s s':MkS}{p:Nat×Nat}(h:s'.code[p.1]? = s.code[p.1]?):slot s' p=slot s p:=by unfold slot;rw[h]
def Steps{σ:Type}(F:Nat->σ->Rp σ)(k:Nat)(r:σ)(k':Nat)(r':σ):Prop:=∃ n,n+k<=k'/\∀ fuel,Ue F (fuel+n) k r=Ue F fuel k' r'
section
variable {σ:Type} {F:Nat->σ->Rp σ}
theorem Steps.refl(k:Nat)(r:σ):Steps F k r k r:=⟨0,by omega,fun _=>rfl⟩
theorem Steps.trans{k k1 k2:Nat}{r r1 r2:σ}(h:Steps F k r k1 r1)(h2:Steps F k1 r1 k2 r2):Steps F k r k2 r2:=by
 obtain⟨n,hk,hn⟩:=h;obtain⟨m,lZ,hm⟩:=h2;exact⟨m+n,by omega,fun fuel=>by rw[←Nat.add_assoc,hn,hm]⟩
theorem Steps.one{k k':Nat}{r r':σ}(h:F k r = .go k' r')(hk:k<k':=by omega):Steps F k r k' r':=⟨1,by omega,fun fuel=>by rw[Ue,h]⟩
end
section
variable {τ:Type} {F:Nat->bH τ->Rp (bH τ)}
def Jv(F:Nat->bH τ->Rp (bH τ))(k:Nat)(r:bH τ)(k':Nat)(stk:List (vg×vg)):Except (Nat×τ) (Wd×τ)->Prop
 | .ok (o,g)=>Steps F k r k' ⟨o,stk,g⟩
 | .error (n,g)=>∃ m r',m+k<=k'/\(∀ fuel,Ue F (fuel+m) k r=some (.error (n,r')))/\r'.gs=g
theorem Jv.after{k k1 k':Nat}{r r1:bH τ}{stk:List (vg×vg)}{res:Except (Nat×τ) (Wd×τ)}(h:Steps F k r k1 r1)(h2:Jv F k1 r1 k' stk res):Jv F k r k' stk res:=by
 cases res with
 | ok p=>exact h.trans h2
 | error e =>
  obtain⟨n,hk,hn⟩:=h;obtain⟨m,r',lZ,hm,hg⟩:=h2;exact⟨m+n,r',by omega,fun fuel=>by rw[←Nat.add_assoc,hn,hm],hg⟩
theorem Jv.err{k k' n:Nat}{r r':bH τ}{stk:List (vg×vg)}(h:F k r = .err n r')(hk:k<k':=by omega):Jv F k r k' stk (.error (n,r'.gs)):=⟨1,r',by omega,fun fuel=>by rw[Ue,h],rfl⟩
theorem Jv.far{k k1 k':Nat}{r:bH τ}{stk:List (vg×vg)}{e:Nat×τ}{yfy:List (vg×vg)}(h:Jv F k r k1 stk (.error e))(hk:k1<=k'):Jv F k r k' yfy (.error e):=by
 obtain⟨m,r',h1,h2,h3⟩:=h;exact⟨m,r',by omega,h2,h3⟩
end
theorem go_msg:∀ (f:Fo),f.vD=true->∀ (bg:Wd->MkS->MkS) (s:MkS) (ls:List Nat),MkS.qv f bg s ls=(MkS.dD f s,ls)
 | .nil,_,_,_,_=>rfl
 | .text t r,h,bg,s,ls=>go_msg r h bg _ ls
 | .hash r,h,bg,s,ls=>go_msg r h bg _ ls
 | .put n a r,h,bg,s,ls=>go_msg r h bg _ ls
 | .num n a r,h,bg,s,ls=>go_msg r h bg _ ls
 | .br n a f o c bs r,h,bg,s,ls=>by
  rw[MkS.dD,MkS.qv,MkS.qv];split
  ·dsimp only;rw[go_msg r h bg,go_msg r h (fun _ s=>s)]
  ·dsimp only;rw[go_msg r h bg,go_msg r h (fun _ s=>s)]
 | .ug k a m r,h,bg,s,ls=>by cases h
theorem ZZ(l:List Nat)(s:MkS):l.foldl (fun s i=>MkS.u7 s i 0) s=uk (l.map fun i=>(i,0)) s:=by
 unfold uk;rw[yq]
def PH(ks:List Wd)(t:Nat)(key:Wd):List (Nat×Nat):=((zW 6).filter fun c=>decide (QW.getD c []=key\/key=qy/\QW.getD c [] ∉ ks)).map fun c=>(t,c)
theorem Ni(ks:List Wd)(t:Nat)(key:Wd)(s:MkS):MkS.Hj ks t key s=uk (PH ks t key) s:=by
 unfold uk PH MkS.Hj;rw[yq,List.foldl_filter];congr 1;funext s c;simp only[decide_eq_true_eq]
def KT(n:Wd)(bs:Fo)(s:MkS)(k:Wd):List (Nat×Nat):=[((MkS.gD n bs s).1.code.length,MkS.place bs.keys k)]
theorem fQ(n:Wd)(bs:Fo)(s:MkS)(k:Wd)(x:MkS):MkS.dO n bs s k x=uk (KT n bs s k) x:=rfl
def Zo(n o:Wd)(bs:Fo)(s:MkS)(k:Wd):List (Nat×Nat) :=
 match (MkS.kE n o bs s).2.lookup k with
 | some i=>[(i,0)]
 | none=>PH bs.keys (MkS.kE n o bs s).1.code.length k
theorem jr(n o:Wd)(bs:Fo)(s:MkS)(k:Wd)(x:MkS):MkS.jY n o bs s k x=uk (Zo n o bs s k) x:=by
 unfold MkS.jY Zo
 cases h:(MkS.kE n o bs s).2.lookup k with
 | some i=>rfl
 | none=>exact Ni _ _ _ _
theorem Zp(n:Wd)(bs:Fo)(s:MkS):(MkS.gD n bs s).1.code=s.code/\(MkS.gD n bs s).1.pos=s.pos:=by
 obtain⟨_,_,_,d,e⟩:=MkS.UP bs (s.const n) [s.num n];obtain⟨_,z2,z3⟩:=vq s n;exact⟨d.trans z2,e.trans z3⟩
theorem bk:∀ (f:Fo) (s:MkS) (acc:List (Wd×Nat)),s.code <+: (MkS.qJ f s acc).1.code/\acc <+: (MkS.qJ f s acc).2/\∀ p∈(MkS.qJ f s acc).2,p∈acc\/s.code.length<=p.2/\p.2<(MkS.qJ f s acc).1.code.length
 | .ug k a m r,s,acc=>by
  rw[MkS.qJ];split
  ·obtain⟨h1,h2,h3⟩:=bk r (s.put 7 (xH k.tail) [] [0]) (acc++[(k,s.code.length)]);have hl:(s.put 7 (xH k.tail) [] [0]).code.length=s.code.length+1:=by simp[xO]
   have:=h1.length_le;refine⟨(show s.code <+: (s.put 7 (xH k.tail) [] [0]).code from zM _ _).trans h1,(zM _ _).trans h2,fun p hp=>?_⟩;rcases h3 p hp with q|q
   ·rw[zZ,z7] at q;rcases q with q|rfl
    ·exact .inl q
    ·exact .inr ⟨zk _,by show s.code.length<_;omega⟩
   ·exact .inr ⟨by omega,q.2⟩
  ·exact bk r s acc
 | .nil,s,acc=>⟨zx _,zx _,fun p hp => .inl hp⟩
 | .text _ _,s,acc=>⟨zx _,zx _,fun p hp => .inl hp⟩
 | .hash _,s,acc=>⟨zx _,zx _,fun p hp => .inl hp⟩
 | .put _ _ _,s,acc=>⟨zx _,zx _,fun p hp => .inl hp⟩
 | .num _ _ _,s,acc=>⟨zx _,zx _,fun p hp => .inl hp⟩
 | .br _ _ _ _ _ _ _,s,acc=>⟨zx _,zx _,fun p hp => .inl hp⟩
theorem Zr{l:List (Wd×Nat)}{k:Wd}{i:Nat}(h:l.lookup k=some i):(k,i)∈l:=by
 induction l with
 | nil=>cases h
 | cons p l ih =>
  obtain⟨a,b⟩:=p;rw[zX] at h
  cases hk:k==a
  ·rw[hk] at h;exact zf _ (ih h)
  ·rw[hk] at h;cases h;rw[beq_iff_eq] at hk;subst hk;exact zQ ..
theorem cD{l l':List (Wd×Nat)}{k:Wd}{i:Nat}(h:l.lookup k=some i)(hp:l <+: l'):l'.lookup k=some i:=by
 obtain⟨t,rfl⟩:=hp;induction l with
 | nil=>cases h
 | cons p l ih =>
  obtain⟨a,b⟩:=p;rw[zX] at h;rw[zO,zX]
  cases hk:k==a
  ·rw[hk] at h;exact ih h
  ·rw[hk] at h;exact h
theorem SA{l:List (Wd×Nat)}{k:Wd}(h:l.lookup k=none)(i:Nat):(l++[(k,i)]).lookup k=some i:=by
 induction l with
 | nil=>rw[yx,zX,beq_self_eq_true]
 | cons p l ih =>
  obtain⟨a,b⟩:=p;rw[zX] at h;rw[zO,zX]
  cases hk:k==a
  ·rw[hk] at h;exact ih h
  ·rw[hk] at h;cases h
theorem CW{l:List (Wd×Nat)}{k k':Wd}(h:l.lookup k=none)(hn:k≠k')(i:Nat):(l++[(k',i)]).lookup k=none:=by
 induction l with
 | nil =>
  rw[yx,zX,show(k==k')=false from beq_eq_false_iff_ne.2 hn];rfl
 | cons p l ih =>
  obtain⟨a,b⟩:=p;rw[zX] at h;rw[zO,zX]
  cases hk:k==a
  ·rw[hk] at h;exact ih h
  ·rw[hk] at h;cases h
theorem Kk(n o:Wd)(bs:Fo)(s:MkS):s.code.length+1<=(MkS.kE n o bs s).1.code.length/\(∀ (i:Nat) (x:jf),s.code[i]? = some x->(MkS.kE n o bs s).1.code[i]? = some x)/\∀ k,∀ p∈Zo n o bs s k,s.code.length+1<=p.1/\p.1<=(MkS.kE n o bs s).1.code.length:=by
 obtain⟨h1,h2,h3⟩:=bk bs ((s.const n).put 4 (xH o) [s.num n] []) [];have hl:((s.const n).put 4 (xH o) [s.num n] []).code.length=s.code.length+1:=by simp[xO,(vq s n).2.1]
 have hle:=h1.length_le;rw[hl] at hle h3;refine⟨hle,fun i x hx=>?_,fun k p hp=>?_⟩
 ·obtain⟨t,ht⟩:=h1;show(MkS.qJ bs ((s.const n).put 4 (xH o) [s.num n] []) []).1.code[i]? = some x;rw[←ht,zy (by rw[hl];have:=(z8.1 hx).1;omega),xO,(vq s n).2.1,zy (z8.1 hx).1];exact hx
 ·unfold Zo at hp;split at hp
  ·next i hi =>
   rw[z7] at hp;subst hp;rcases h3 _ (Zr hi) with q|q
   ·cases q
   ·exact⟨q.1,Nat.le_of_lt q.2⟩
  ·obtain⟨c,_,rfl⟩:=zV.1 hp;exact⟨hle,zk _⟩
theorem go_facts:∀ (f:Fo) (sl:Wd->List (Nat×Nat)) (bg:Wd->MkS->MkS),(∀ k x,bg k x=uk (sl k) x)->∀ (s:MkS) (ls:List Nat),
  s.code.length<=(MkS.qv f bg s ls).1.code.length/\(∀ e∈(MkS.qv f bg s ls).2,e∈ls\/s.code.length<=e/\e<(MkS.qv f bg s ls).1.code.length)/\(∀ e∈ls,e∈(MkS.qv f bg s ls).2) /\
  ∀ i,i<s.code.length->(∀ k,∀ p∈sl k,p.1≠i)->(MkS.qv f bg s ls).1.code[i]? = s.code[i]?
 | .nil,sl,bg,hb,s,ls=>⟨zk _,fun e he => .inl he,fun e he=>he,fun _ _ _=>rfl⟩
 | .text t r,sl,bg,hb,s,ls=>by
  have hl:(s.one 1 t).code=s.code++[⟨1,(s.const t).pos,0,[s.num t],[]⟩]:=by rw[MkS.one,xO,(vq s t).2.1]
  exact go_more (x:=⟨1,(s.const t).pos,0,[s.num t],[]⟩) hl (go_facts r sl bg hb (s.one 1 t) ls)
 | .hash r,sl,bg,hb,s,ls=>go_more rfl (go_facts r sl bg hb (s.put 6 0 [] []) ls)
 | .put n a r,sl,bg,hb,s,ls=>by
  have hl:(s.one 2 n).code=s.code++[⟨2,(s.const n).pos,0,[s.num n],[]⟩]:=by rw[MkS.one,xO,(vq s n).2.1]
  exact go_more hl (go_facts r sl bg hb (s.one 2 n) ls)
 | .num n a r,sl,bg,hb,s,ls=>by
  have hl:(s.one 3 n).code=s.code++[⟨3,(s.const n).pos,0,[s.num n],[]⟩]:=by rw[MkS.one,xO,(vq s n).2.1]
  exact go_more hl (go_facts r sl bg hb (s.one 3 n) ls)
 | .br n a f o c bs r,sl,bg,hb,s,ls=>by
  rw[MkS.qv];split
  ·have hS:(MkS.ky n bs s).code=s.code++[⟨10,(MkS.gD n bs s).1.pos,0,(MkS.gD n bs s).2,zG (MkS.gD n bs s).2.length 0⟩]:=by rw[MkS.ky,xO,(Zp n bs s).1]
   have hlen:(MkS.ky n bs s).code.length=s.code.length+1:=by rw[hS];simp
   obtain⟨a1,a2,a3,a4⟩:=go_facts bs (KT n bs s) (MkS.dO n bs s) (fQ n bs s) (MkS.ky n bs s) [];dsimp only;rw[ZZ];refine go_join (n:=s.code.length) ?_ ?_ (go_facts r sl bg hb _ ls)
   ·rw[(qF _ _).1];omega
   ·intro i hi;rw[fw _ _ _ (fun p hp=>?_),a4 i (by omega) (fun k p hp=>?_),hS,zy hi]
    ·rw[KT,z7] at hp;subst hp;show(MkS.gD n bs s).1.code.length≠i;rw[(Zp n bs s).1];omega
    ·obtain⟨e,he,rfl⟩:=zV.1 hp;rcases a2 e he with q|q
     ·cases q
     ·show e≠i;omega
  ·obtain⟨b1,b2,b3⟩:=Kk n o bs s;have hS:(MkS.qH n o f bs s).code=(MkS.kE n o bs s).1.code++[⟨if f=2 then 9 else 8,(MkS.kE n o bs s).1.pos,0,[],zG 6 0⟩]:=by rw[MkS.qH,xO]
   have hlen:(MkS.qH n o f bs s).code.length=(MkS.kE n o bs s).1.code.length+1:=by rw[hS];simp
   obtain⟨a1,a2,a3,a4⟩:=go_facts bs (Zo n o bs s) (MkS.jY n o bs s) (jr n o bs s) (MkS.qH n o f bs s) [];dsimp only;rw[ZZ];refine go_join (n:=s.code.length) ?_ ?_ (go_facts r sl bg hb _ ls)
   ·rw[xO,zJ,(qF _ _).1];omega
   ·intro i hi;obtain⟨x,hx⟩:∃ x,s.code[i]? = some x:=⟨_,zv hi⟩;rw[xO,zy (by rw[(qF _ _).1];omega),fw _ _ _ (fun p hp=>?_),a4 i (by omega) (fun k p hp=>?_),hS,zy (by omega),b2 i x hx,hx]
    ·have:=b3 k p hp;omega
    ·obtain⟨e,he,rfl⟩:=zV.1 hp;rcases a2 e he with q|q
     ·cases q
     ·show e≠i;omega
 | .ug k a m r,sl,bg,hb,s,ls=>by
  rw[MkS.qv];rw[hb];obtain⟨a1,a2,a3,a4⟩:=go_facts m (fun _=>[]) (fun _ s=>s) (fun _ _=>rfl) (uk (sl k) s) [];rw[(qF _ _).1] at a1 a2 a4;obtain⟨c1,c2,c3,c4⟩:=go_facts r sl bg hb ((MkS.qv m (fun _ s=>s) (uk (sl k) s) []).1.put 11 0 [] [0]) (ls++[(MkS.qv m (fun _ s=>s) (uk (sl k) s) []).1.code.length]);rw[xO,zJ] at c1 c2 c4;simp only[zw,List.length_nil] at c1 c2 c4;refine⟨by omega,fun e he=>?_,fun e he=>c3 e (List.mem_append_left _ he),fun i hi hp=>?_⟩
  ·rcases c2 e he with q|q
   ·rw[zZ,z7] at q;rcases q with q|rfl
    ·exact .inl q
    ·exact .inr ⟨by omega,by omega⟩
   ·exact .inr ⟨by omega,q.2⟩
  ·rw[c4 i (by omega) hp,zy (by omega),a4 i hi (fun _ _ q=>by cases q),fw _ _ _ (fun p h=>hp k p h)]
where
 go_join {n:Nat} {s s':MkS} {ls:List Nat} {r:MkS×List Nat} {sl:Wd->List (Nat×Nat)} (h1:s.code.length<=s'.code.length) (h2:∀ i,i<s.code.length->s'.code[i]? = s.code[i]?)
   (h:s'.code.length<=r.1.code.length/\(∀ e∈r.2,e∈ls\/s'.code.length<=e/\e<r.1.code.length)/\(∀ e∈ls,e∈r.2)/\∀ i,i<s'.code.length->(∀ k,∀ p∈sl k,p.1≠i)->r.1.code[i]? = s'.code[i]?) :
   s.code.length<=r.1.code.length/\(∀ e∈r.2,e∈ls\/s.code.length<=e/\e<r.1.code.length)/\(∀ e∈ls,e∈r.2)/\∀ i,i<s.code.length->(∀ k,∀ p∈sl k,p.1≠i)->r.1.code[i]? = s.code[i]? := by
  obtain⟨a,b,c,d⟩:=h;exact⟨by omega,fun e he=>(b e he).imp id (fun q=>⟨by omega,q.2⟩),c,fun i hi hp=>(d i (by omega) hp).trans (h2 i hi)⟩
 go_more {s s':MkS} {x:jf} {ls:List Nat} {r:MkS×List Nat} {sl:Wd->List (Nat×Nat)} (hx:s'.code=s.code++[x])
   (h:s'.code.length<=r.1.code.length/\(∀ e∈r.2,e∈ls\/s'.code.length<=e/\e<r.1.code.length)/\(∀ e∈ls,e∈r.2)/\∀ i,i<s'.code.length->(∀ k,∀ p∈sl k,p.1≠i)->r.1.code[i]? = s'.code[i]?) :
   s.code.length<=r.1.code.length/\(∀ e∈r.2,e∈ls\/s.code.length<=e/\e<r.1.code.length)/\(∀ e∈ls,e∈r.2)/\∀ i,i<s.code.length->(∀ k,∀ p∈sl k,p.1≠i)->r.1.code[i]? = s.code[i]? :=
  go_join (n:=0) (by rw[hx];simp) (fun i hi=>by rw[hx,zy hi]) h
theorem gZ{P:MkS->Prop}(I:qA P)(l:List (Nat×Nat))(s:MkS)(h:P s):P (uk l s):=MkS.fu P _ (fun s p hs=>I.u7 s p.1 p.2 hs) l s h
theorem go_inv{P:MkS->Prop}(I:qA P)(f:Fo){sl:Wd->List (Nat×Nat)}{bg:Wd->MkS->MkS}(hb:∀ k x,bg k x=uk (sl k) x)(s:MkS)(ls:List Nat)(h:P s):P (MkS.qv f bg s ls).1 :=
 I.go f bg s ls (fun k s hs=>by rw[hb];exact gZ I _ _ hs) h
theorem CA{P:MkS->Prop}(I:qA P)(f:Fo)(s:MkS)(h:P s):P (MkS.dD f s):=I.go f _ s [] (fun _ _ h=>h) h
theorem Qz(s:MkS):∀ (i:Nat) (x:jf),s.code[i]? = some x->∃ y,s.code[i]? = some y/\PE y=PE x:=fun i x h=>⟨x,h,rfl⟩
theorem gY(f:Fo)(s:MkS):s.code.length<=(MkS.dD f s).code.length/\∀ i,i<s.code.length->(MkS.dD f s).code[i]? = s.code[i]? := by
 obtain⟨a,_,_,d⟩:=go_facts f (fun _=>[]) (fun _ s=>s) (fun _ _=>rfl) s [];exact⟨a,fun i hi=>d i hi (fun _ _ q=>by cases q)⟩
theorem PI(n:Wd)(a:Nat)(o:Wd)(c:Nat)(bs r:Fo)(s:MkS)(hr:r.vD=true) :
  MkS.dD (.br n a 0 o c bs r) s=MkS.dD r (uk ((MkS.qv bs (MkS.dO n bs s) (MkS.ky n bs s) []).2.map fun i=>(i,0)) (MkS.qv bs (MkS.dO n bs s) (MkS.ky n bs s) []).1):=by
 rw[MkS.dD,MkS.qv,if_pos rfl,go_msg r hr,←ZZ]
theorem PL(n:Wd)(a f:Nat)(o:Wd)(c:Nat)(bs r:Fo)(s:MkS)(hf:f≠0)(hr:r.vD=true) :
  MkS.dD (.br n a f o c bs r) s=MkS.dD r ((uk ((MkS.qv bs (MkS.jY n o bs s) (MkS.qH n o f bs s) []).2.map fun i=>(i,0)) (MkS.qv bs (MkS.jY n o bs s) (MkS.qH n o f bs s) []).1).put 5 0 [] []):=by
 rw[MkS.dD,MkS.qv,if_neg hf,go_msg r hr,←ZZ]
theorem Bd(n:Wd)(bs:Fo)(s:MkS):(MkS.ky n bs s).code=s.code++[⟨10,s.pos,0,(MkS.gD n bs s).2,zG (MkS.gD n bs s).2.length 0⟩]:=by
 rw[MkS.ky,xO,(Zp n bs s).1,(Zp n bs s).2]
theorem Bb(n o:Wd)(f:Nat)(bs:Fo)(s:MkS):(MkS.qH n o f bs s).code=(MkS.kE n o bs s).1.code++[⟨if f=2 then 9 else 8,(MkS.kE n o bs s).1.pos,0,[],zG 6 0⟩]:=rfl
theorem PM(n o:Wd)(bs:Fo)(s:MkS):(MkS.kE n o bs s).1.code[s.code.length]? = some ⟨4,s.pos,xH o,[s.num n],[]⟩:=by
 obtain⟨⟨t,ht⟩,_⟩:=bk bs ((s.const n).put 4 (xH o) [s.num n] []) [];rw[MkS.kE,←ht,xO,(vq s n).2.1,(vq s n).2.2];rw[zr,zu (zk _)];simp
theorem BZ:∀ (f:Fo),f.vD=true->∀ (s:MkS),((MkS.dD f s).code.length=s.code.length/\(MkS.dD f s).pos=s.pos)\/∃ x,(MkS.dD f s).code[s.code.length]? = some x/\x.pos=s.pos:=by
 have key:∀ (r:Fo) (s s':MkS) (x:jf),s'.code[s.code.length]? = some x->x.pos=s.pos->∃ x,(MkS.dD r s').code[s.code.length]? = some x/\x.pos=s.pos:=by
  intro r s s' x hx hp;exact⟨x,by rw[(gY r s').2 _ (z8.1 hx).1];exact hx,hp⟩
 have oT:∀ (s s':MkS) (op v:Nat) (k tg:List Nat),s'.code=s.code->s'.pos=s.pos->(s'.put op v k tg).code[s.code.length]? = some ⟨op,s.pos,v,k,tg⟩:=by
  intro s s' op v k tg h1 h2;rw[xO,h1,h2,zu (zk _)];simp
 intro f hf s
 cases f with
 | nil=>exact .inl ⟨rfl,rfl⟩
 | text t r=>exact .inr (key r s (s.one 1 t) _ (oT s (s.const t) _ _ _ _ (vq s t).2.1 (vq s t).2.2) rfl)
 | hash r=>exact .inr (key r s (s.put 6 0 [] []) _ (oT s s _ _ _ _ rfl rfl) rfl)
 | put n a r=>exact .inr (key r s (s.one 2 n) _ (oT s (s.const n) _ _ _ _ (vq s n).2.1 (vq s n).2.2) rfl)
 | num n a r=>exact .inr (key r s (s.one 3 n) _ (oT s (s.const n) _ _ _ _ (vq s n).2.1 (vq s n).2.2) rfl)
 | br n a f o c bs r =>
  right;by_cases h0:f=0
  ·subst h0;rw[PI n a o c bs r s hf];have h1:(MkS.ky n bs s).code[s.code.length]? = some ⟨10,s.pos,0,(MkS.gD n bs s).2,zG (MkS.gD n bs s).2.length 0⟩:=by
    rw[Bd,zu (zk _)];simp
   obtain⟨y,h2,h3⟩:=gZ (ZF (MkS.ky n bs s)) ((MkS.qv bs (MkS.dO n bs s) (MkS.ky n bs s) []).2.map fun i=>(i,0)) _ (go_inv (ZF (MkS.ky n bs s)) bs (fQ n bs s) _ [] (Qz _)) _ _ h1;exact key r s _ y h2 (by simp only[PE,zt] at h3;exact h3.2.1)
  ·rw[PL n a f o c bs r s h0 hf];have h1:(MkS.qH n o f bs s).code[s.code.length]? = some ⟨4,s.pos,xH o,[s.num n],[]⟩:=by
    have:=(Kk n o bs s).1;rw[Bb,zy (by omega)];exact PM n o bs s
   obtain⟨y,h2,h3⟩:=(ZF (MkS.qH n o f bs s)).put _ 5 0 [] [] (gZ (ZF (MkS.qH n o f bs s)) ((MkS.qv bs (MkS.jY n o bs s) (MkS.qH n o f bs s) []).2.map fun i=>(i,0)) _ (go_inv (ZF (MkS.qH n o f bs s)) bs (jr n o bs s) _ [] (Qz _))) _ _ h1;exact key r s _ y h2 (by simp only[PE,zt] at h3;exact h3.2.1)
 | ug k a m r=>cases hf
theorem BX:∀ (f:Fo) (sl:Wd->List (Nat×Nat)) (bg:Wd->MkS->MkS),(∀ k x,bg k x=uk (sl k) x)->f.ux=true->∀ (s:MkS) (ls:List Nat) (q:Nat×Nat),q.1<s.code.length->(∀ k∈f.keys,q ∉ sl k)->slot (MkS.qv f bg s ls).1 q=slot s q
 | .ug k a m r,sl,bg,hb,hl,s,ls,q,hq,hk=>by
  rw[MkS.qv,hb];obtain⟨a1,a2⟩:=gY m (uk (sl k) s);rw[(qF _ _).1] at a1 a2;show slot (MkS.qv r bg ((MkS.dD m (uk (sl k) s)).put 11 0 [] [0]) _).1 q=_;rw[BX r sl bg hb hl _ _ q (by rw[xO,zJ];omega) (fun k' h'=>hk k' (zf _ h')),Gt _ _ _ _ _ _ (by omega),JC (a2 _ hq),fU,if_neg (fun e=>hk k (zQ ..) e.1)]
 | .nil,_,_,_,_,_,_,_,_,_=>rfl
 | .text _ _,_,_,_,h,_,_,_,_,_=>by cases h
 | .hash _,_,_,_,h,_,_,_,_,_=>by cases h
 | .put _ _ _,_,_,_,h,_,_,_,_,_=>by cases h
 | .num _ _ _,_,_,_,h,_,_,_,_,_=>by cases h
 | .br _ _ _ _ _ _ _,_,_,_,h,_,_,_,_,_=>by cases h
theorem Gh:∀ (f:Fo) (s:MkS) (acc:List (Wd×Nat)),∀ p∈(MkS.qJ f s acc).2,p∈acc\/p.1.head? = some 61
 | .ug k a m r,s,acc,p,hp=>by
  rw[MkS.qJ] at hp;split at hp
  ·next hk =>
   rcases Gh r _ _ p hp with q|q
   ·rw[zZ,z7] at q;rcases q with q|rfl
    ·exact .inl q
    ·exact .inr hk
   ·exact .inr q
  ·exact Gh r s acc p hp
 | .nil,_,_,_,hp => .inl hp
 | .text _ _,_,_,_,hp => .inl hp
 | .hash _,_,_,_,hp => .inl hp
 | .put _ _ _,_,_,_,hp => .inl hp
 | .num _ _ _,_,_,_,hp => .inl hp
 | .br _ _ _ _ _ _ _,_,_,_,hp => .inl hp
theorem Ca:∀ (f:Fo) (s:MkS) (acc:List (Wd×Nat)),(∀ p∈acc,p.2<s.code.length)->(∀ p∈acc,∀ q∈acc,p.2=q.2->p=q)->∀ p∈(MkS.qJ f s acc).2,∀ q∈(MkS.qJ f s acc).2,p.2=q.2->p=q
 | .ug k a m r,s,acc,h1,h2=>by
  rw[MkS.qJ];split
  ·refine Ca r _ _ (fun p hp=>?_) (fun p hp q hq e=>?_)
   ·rw[xO,zJ];rw[zZ,z7] at hp;rcases hp with hp|rfl
    ·have:=h1 p hp;simp;omega
    ·simp
   ·rw[zZ,z7] at hp hq;rcases hp with hp|rfl
    ·rcases hq with hq|rfl
     ·exact h2 p hp q hq e
     ·have:=h1 p hp;simp only at e;omega
    ·rcases hq with hq|rfl
     ·have:=h1 q hq;simp only at e;omega
     ·rfl
  ·exact Ca r s acc h1 h2
 | .nil,_,_,_,h2=>h2
 | .text _ _,_,_,_,h2=>h2
 | .hash _,_,_,_,h2=>h2
 | .put _ _ _,_,_,_,h2=>h2
 | .num _ _ _,_,_,_,h2=>h2
 | .br _ _ _ _ _ _ _,_,_,_,h2=>h2
section
variable {τ:Type} {E:qI τ} {s:MkS}
def eqP(v:vg)(k:Wd):Bool:=decide (k.head? = some 61) && fe v (xH k.tail)
theorem qe{k:Nat}{x:jf}(h:s.code[k]? = some x)(r:bH τ):jM E s k r=ue E s x k r:=by unfold jM;rw[h]
theorem Qy(h:KS s){k:Nat}{x:jf}(hx:s.code[k]? = some x){p:Nat}(hp:x.pos=p)(r:bH τ):Lm s (some p) r = .go k r:=by
 subst hp;simp only[Lm,cG h hx]
theorem fK{x y:jf}(h:PE y=PE x):y.op=x.op/\y.pos=x.pos/\y.v=x.v/\y.k=x.k/\y.tg.length=x.tg.length:=by
 simpa[PE] using h
theorem Cc(v z:vg):∀ (bs:Fo) (s0:MkS) (acc:List (Wd×Nat)),bs.ux=true->bs.keys.Nodup->(∀ k∈bs.keys,acc.lookup k=none)->(∀ (i:Nat) (x:jf),s0.code.length<=i->(MkS.qJ bs s0 acc).1.code[i]? = some x->∃ y,s.code[i]? = some y/\PE y=PE x) ->
  match bs.keys.find? (eqP v) with
  | none=>∀ (o:Wd) (g:τ) (stk:List (vg×vg)),stk.getLast? = some (v,z)->Steps (jM E s) s0.code.length ⟨o,stk,g⟩ (MkS.qJ bs s0 acc).1.code.length ⟨o,stk,g⟩
  | some k=>∃ i x,(MkS.qJ bs s0 acc).2.lookup k=some i/\(MkS.qJ bs s0 acc).1.code[i]? = some x/\x.op=7/\x.tg.length=1/\fe v x.v=true /\
    ∀ (o:Wd) (g:τ) (stk:List (vg×vg)),stk.getLast? = some (v,z)->Steps (jM E s) s0.code.length ⟨o,stk,g⟩ i ⟨o,stk,g⟩
 | .ug k a m r,s0,acc,hl,hd,ha,hs=>by
  have lz:=yy.1 (show(k::r.keys).Nodup from hd);rw[show(Fo.ug k a m r).keys=k::r.keys from rfl,List.find?_cons];rw[MkS.qJ] at hs ⊢;by_cases hk:k.head? = some 61
  ·rw[if_pos hk] at hs ⊢;obtain⟨⟨t,ht⟩,h2,h3⟩:=bk r (s0.put 7 (xH k.tail) [] [0]) (acc++[(k,s0.code.length)]);have hx:(MkS.qJ r (s0.put 7 (xH k.tail) [] [0]) (acc++[(k,s0.code.length)])).1.code[s0.code.length]? = some ⟨7,s0.pos,xH k.tail,[],[0]⟩:=by
    rw[←ht,xO,zr,zu (zk _)];simp
   obtain⟨y,hy,TK⟩:=hs _ _ (zk _) hx;obtain⟨e1,e2,e3,e4,e5⟩:=fK TK;have hp:eqP v k=fe v (xH k.tail):=by unfold eqP;simp[hk]
   cases gq:fe v (xH k.tail)
   ·rw[hp,gq];have ih:=Cc v z r (s0.put 7 (xH k.tail) [] [0]) (acc++[(k,s0.code.length)]) hl lz.2 (fun k' h'=>CW (ha k' (zf _ h')) (fun e=>lz.1 (by rw[←e];exact h')) _) (fun i x hi=>hs i x (by rw[xO] at hi;simp at hi;omega));have hlen:(s0.put 7 (xH k.tail) [] [0]).code.length=s0.code.length+1:=by rw[xO];simp
    rw[hlen] at ih;have vL:∀ (o:Wd) (g:τ) (stk:List (vg×vg)),stk.getLast? = some (v,z)->Steps (jM E s) s0.code.length ⟨o,stk,g⟩ (s0.code.length+1) ⟨o,stk,g⟩:=by
     intro o g stk Ym;refine Steps.one ?_;rw[qe hy];unfold ue;rw[e1];simp only[Ym,e3,gq];rfl
    dsimp only;split at ih
    ·next hf=>rw[hf];exact fun o g stk Ym=>(vL o g stk Ym).trans (ih o g stk Ym)
    ·next k' hf =>
     rw[hf];obtain⟨i,x,h1,h2,h3,h4,h5,h6⟩:=ih;exact⟨i,x,h1,h2,h3,h4,h5,fun o g stk Ym=>(vL o g stk Ym).trans (h6 o g stk Ym)⟩
   ·rw[hp,gq];exact⟨s0.code.length,_,cD (SA (ha k (zQ ..)) _) h2,hx,rfl,rfl,gq,fun o g stk Ym=>Steps.refl _ _⟩
  ·rw[if_neg hk] at hs ⊢;have hp:eqP v k=false:=by unfold eqP;simp[hk]
   rw[hp];exact Cc v z r s0 acc hl lz.2 (fun k' h'=>ha k' (zf _ h')) hs
 | .nil,s0,acc,_,_,_,_=>fun o g stk _=>Steps.refl _ _
 | .text _ _,_,_,h,_,_,_=>by cases h
 | .hash _,_,_,h,_,_,_=>by cases h
 | .put _ _ _,_,_,h,_,_,_=>by cases h
 | .num _ _ _,_,_,h,_,_,_=>by cases h
 | .br _ _ _ _ _ _ _,_,_,h,_,_,_=>by cases h
end
def sF{τ:Type}(E:qI τ)(f:Fo):Prop:=f.vD=true->∀ (b:Bool),f.Bf b->∀ (s0 s:MkS),
 (∀ i,s0.code.length<=i->i<(MkS.dD f s0).code.length->s.code[i]? = (MkS.dD f s0).code[i]?)->(MkS.dD f s0).cs <+: s.cs->KS s->(∃ x,s.code[(MkS.dD f s0).code.length]? = some x/\x.pos=(MkS.dD f s0).pos) ->
 ∀ (k:Wd) (x:vg) (o:Wd) (g:τ) (stk:List (vg×vg)),(b=true->∃ n,stk.getLast? = some (n,x))->Jv (jM E s) s0.code.length ⟨o,stk,g⟩ (MkS.dD f s0).code.length stk (jN E f k x o g)
def sD{τ:Type}(E:qI τ)(bs:Fo):Prop:=bs.ux=true->∀ (b:Bool),bs.Bf b->∀ (sl:Wd->List (Nat×Nat)) (bg:Wd->MkS->MkS),(∀ k x,bg k x=uk (sl k) x)->∀ (s2:MkS) (ls:List Nat) (K:Wd),bs.keys.Nodup->K∈bs.keys ->
 (∀ k,∀ p∈sl k,p.1<s2.code.length)->(∀ e∈ls,e<s2.code.length) ->
 ∃ a p e xa xe,s2.code.length<=a/\a<=e/\e<(MkS.qv bs bg s2 ls).1.code.length/\e∈(MkS.qv bs bg s2 ls).2/\(∀ i,a<=i->i<e->i ∉ (MkS.qv bs bg s2 ls).2) /\
  (MkS.qv bs bg s2 ls).1.code[e]? = some xe/\xe.op=11/\xe.tg.length=1/\(MkS.qv bs bg s2 ls).1.code[a]? = some xa/\xa.pos=p /\
  (∀ q∈sl K,(slot s2 q).isSome->(∀ k'∈bs.keys,k'≠K->q ∉ sl k')->slot (MkS.qv bs bg s2 ls).1 q=some p) /\
  ∀ s:MkS,(∀ i,a<=i->i<e->s.code[i]? = (MkS.qv bs bg s2 ls).1.code[i]?)->(∃ z,s.code[e]? = some z/\z.pos=xe.pos)->(MkS.qv bs bg s2 ls).1.cs <+: s.cs->KS s ->
   ∀ (x:vg) (o:Wd) (g:τ) (stk:List (vg×vg)),(b=true->∃ n,stk.getLast? = some (n,x))->Jv (jM E s) a ⟨o,stk,g⟩ e stk (jN E bs K x o g)
section
variable {τ:Type} {E:qI τ}
theorem Qx{r:Fo}(hr:sF E r)(hm:r.vD=true){b:Bool}(hv:r.Bf b){s0 s1 s:MkS}{x:jf}(h1:s1.code=s0.code++[x])(ha:∀ i,s0.code.length<=i->i<(MkS.dD r s1).code.length->s.code[i]? = (MkS.dD r s1).code[i]?)(dJ:(MkS.dD r s1).cs <+: s.cs)(hp:KS s)
  (hn:∃ x,s.code[(MkS.dD r s1).code.length]? = some x/\x.pos=(MkS.dD r s1).pos) {z:vg} {stk:List (vg×vg)} (hs:b=true->∃ n,stk.getLast? = some (n,z)) (k:Wd) :
  s.code[s0.code.length]? = some x/\s1.cs <+: s.cs/\s0.code.length<(MkS.dD r s1).code.length/\∀ (o:Wd) (g:τ),Jv (jM E s) (s0.code.length+1) ⟨o,stk,g⟩ (MkS.dD r s1).code.length stk (jN E r k z o g):=by
 have hl:s1.code.length=s0.code.length+1:=by rw[h1];simp
 obtain⟨a1,a2⟩:=gY r s1;refine⟨?_,(CA (bT s1.cs) r s1 (zx _)).trans dJ,by omega,fun o g=>?_⟩
 ·rw[ha _ (zk _) (by omega),a2 _ (by omega),h1,zu (zk _)];simp
 ·have:=hr hm b hv s1 s (fun i h1 h2=>ha i (by omega) h2) dJ hp hn k z o g stk hs;rw[hl] at this;exact this
theorem Ce{s0 s:MkS}(t:Wd)(h:(s0.const t).cs <+: s.cs):s.cs[s0.num t]? = some t:=by
 obtain⟨u,hu⟩:=h;have h1:(s0.const t).cs[s0.num t]? = some t:=by
  unfold MkS.const MkS.num;by_cases ht:t∈s0.cs
  ·rw[if_pos ht];rw[zv (zU ht),zN]
  ·rw[if_neg ht];simp only;rw[zF ht,zu (zk _)];simp
 rw[←hu,zy (z8.1 h1).1];exact h1
theorem Gw:∀ (bs:Fo) (s:MkS) (acc:List Nat) (c:List Wd),bs.ux=true->(MkS.kS bs s acc).1.cs <+: c->∃ t,(MkS.kS bs s acc).2=acc++t/\t.map (fun j=>c[j]?)=(bs.keys.filter (· ≠ qy)).map some
 | .ug k a m r,s,acc,c,hl,hc=>by
  rw[MkS.kS] at hc ⊢;rw[show(Fo.ug k a m r).keys=k::r.keys from rfl];by_cases hk:k=qy
  ·rw[if_pos hk] at hc ⊢;rw[List.filter_cons_of_neg (by simp[hk])];exact Gw r s acc c hl hc
  ·rw[if_neg hk] at hc ⊢;rw[List.filter_cons_of_pos (by simp[hk])];obtain⟨t,h1,h2⟩:=Gw r (s.const k) (acc++[s.num k]) c hl hc;have h3:(s.const k).cs <+: c:=((bT (s.const k).cs).kS r (s.const k) _ (zx _)).trans hc;refine⟨s.num k::t,by rw[h1];simp,?_⟩;rw[za,za,h2,Ce (s:=⟨c,[],0⟩) k h3]
 | .nil,s,acc,c,_,_=>⟨[],by simp[MkS.kS],rfl⟩
 | .text _ _,_,_,_,h,_=>by cases h
 | .hash _,_,_,_,h,_=>by cases h
 | .put _ _ _,_,_,_,h,_=>by cases h
 | .num _ _ _,_,_,_,h,_=>by cases h
 | .br _ _ _ _ _ _ _,_,_,_,h,_=>by cases h
theorem cE(l:List Wd)(t:Wd):(l.map some).idxOf (some t)=l.idxOf t:=by
 induction l with
 | nil=>rfl
 | cons a l ih =>
  rw[za,yv,yv,ih];rfl
theorem Sa{ks:List Wd}{k k':Wd}(h:k∈ks)(h':k'∈ks)(he:MkS.place ks k=MkS.place ks k'):k=k':=by
 unfold MkS.place at he;have dI:∀ {x},x∈ks->¬x=qy->x∈ks.filter (· ≠ qy):=fun hx hn=>zH.2 ⟨hx,by simpa using hn⟩
 split at he
 ·next h1 =>
  split at he
  ·next h2=>rw[h1,h2]
  ·next h2=>have:=zU (dI h' h2);omega
 ·next h1 =>
  split at he
  ·next h2=>have:=zU (dI h h1);omega
  ·next h2 =>
   have e1:=zN (zU (dI h h1));have e2:=zN (zU (dI h' h2));rw[←e1,←e2];congr 1
theorem cH{ks:List Wd}(k:Wd):MkS.place ks k<=(ks.filter (· ≠ qy)).length:=by
 unfold MkS.place;split
 ·exact zk _
 ·exact zl
theorem Se(ks:List Wd)(t:Wd):(ks.filter (· ≠ qy)).idxOf t=MkS.place ks (YZ ks t):=by
 unfold MkS.place YZ;by_cases h:t∈ks
 ·rw[if_pos h];by_cases h2:t=qy
  ·rw[if_pos h2,zF (by simp[h2])]
  ·rw[if_neg h2]
 ·rw[if_neg h,if_pos rfl,zF (fun q=>h (zH.1 q).1)]
theorem V0{s:MkS}{i j p:Nat}(h:slot s (i,j)=some p):∃ x,s.code[i]? = some x/\x.tg[j]? = some p:=by
 unfold slot at h
 cases hc:s.code[i]? with
 | none=>rw[hc] at h;cases h
 | some x=>rw[hc] at h;exact⟨x,rfl,h⟩
end
section
variable {τ:Type} {E:qI τ}
theorem XH{s0 s:MkS}(t:Wd)(h:(s0.const t).cs <+: s.cs)(x:jf){l:List Nat}(hx:x.k=s0.num t::l):Zc s x=some t:=by
 unfold Zc;rw[hx];exact Ce t h
theorem F4{bs:Fo}(hb:sD E bs)(hl:bs.ux=true){b:Bool}(hv:bs.Bf b){sl:Wd->List (Nat×Nat)}{bg:Wd->MkS->MkS}(Fh:∀ k x,bg k x=uk (sl k) x){s2:MkS}{K:Wd}(hd:bs.keys.Nodup)(hK:K∈bs.keys)(uw:∀ k,∀ p∈sl k,p.1<s2.code.length)
  {s:MkS} (hp:KS s) {sE:MkS} (Si:sE=uk ((MkS.qv bs bg s2 []).2.map fun i=>(i,0)) (MkS.qv bs bg s2 []).1) (hse:∀ i,s2.code.length<=i->i<sE.code.length->s.code[i]? = sE.code[i]?) (dJ:sE.cs <+: s.cs) (hn:∃ x,s.code[sE.code.length]? = some x/\x.pos=sE.pos) :
  ∃ (a:Nat) (xa:jf),s2.code.length<=a/\s.code[a]? = some xa/\(∀ q∈sl K,(slot s2 q).isSome->(∀ k'∈bs.keys,k'≠K->q ∉ sl k')->slot sE q=some xa.pos)/\∀ (x:vg) (o:Wd) (g:τ) (stk:List (vg×vg)),(b=true->∃ n,stk.getLast? = some (n,x))->Jv (jM E s) a ⟨o,stk,g⟩ sE.code.length stk (jN E bs K x o g):=by
 obtain⟨a,p,e,xa,xe,h1,h2,h3,h4,h5,h6,h7,h8,h9,dM,KU,JS⟩:=hb hl b hv sl bg Fh s2 [] K hd hK uw (fun e he=>by cases he);obtain⟨f1,f2,f3,f4⟩:=go_facts bs sl bg Fh s2 [];have hlen:sE.code.length=(MkS.qv bs bg s2 []).1.code.length:=by rw[Si,(qF _ _).1]
 have je:sE.pos=(MkS.qv bs bg s2 []).1.pos:=by rw[Si,(qF _ _).2.1]
 have sH:sE.cs=(MkS.qv bs bg s2 []).1.cs:=by rw[Si,(qF _ _).2.2]
 have shE:=gZ (ZF (MkS.qv bs bg s2 []).1) ((MkS.qv bs bg s2 []).2.map fun i=>(i,0)) _ (Qz _);rw[←Si] at shE;obtain⟨ya,r9,rz⟩:=shE a xa h9;obtain⟨ye,Cx,Cy⟩:=shE e xe h6;have sa:s.code[a]? = some ya:=(hse a h1 (by omega)).trans r9;have se:s.code[e]? = some ye:=(hse e (by omega) (by omega)).trans Cx;obtain⟨_,pa,_⟩:=fK rz;obtain⟨oe,pe,_,_,te⟩:=fK Cy;refine⟨a,ya,h1,sa,fun q hq QL j4=>?_,fun x o g stk vL=>?_⟩
 ·rw[Si,fU,if_neg (fun h=>?_),KU q hq QL j4,pa,dM];obtain⟨e',he',rfl⟩:=zV.1 h.1;have:=uw K _ hq;rcases f2 e' he' with r|r
  ·cases r
  ·simp only at this;omega
 ·have run:=JS s (fun i U8 Be=>by
   rw[hse i (by omega) (by omega),Si,fw];intro p hp;obtain⟨e',he',rfl⟩:=zV.1 hp;exact fun q=>h5 i U8 Be (by simp only at q;rw[←q];exact he')) ⟨ye,se,pe⟩ (by rw[←sH];exact dJ) hp x o g stk vL
  cases hr:jN E bs K x o g with
  | error er=>rw[hr] at run;exact run.far (by omega)
  | ok pr =>
   rw[hr] at run;refine Steps.trans run (Steps.one ?_);have zlu:slot sE (e,0)=some sE.pos:=by
    have b8:(slot (MkS.qv bs bg s2 []).1 (e,0)).isSome=true:=by
     unfold slot;rw[h6];show(xe.tg[0]?).isSome=true;rw[zv (by omega)];rfl
    rw[je,Si,fU,if_pos ⟨zV.2 ⟨e,h4,rfl⟩,b8⟩]
   obtain⟨z,UL,QQ⟩:=V0 ((JC (p:=(e,0)) (hse e (by omega) (by omega))).trans zlu);rw[se] at UL
   cases UL;rw[qe se];unfold ue;rw[oe,h7,QQ];obtain⟨xn,Zz,dy⟩:=hn;exact Qy hp Zz dy _
end
theorem F5{s2:MkS}{i j:Nat}{x:jf}(h:s2.code[i]? = some x)(hj:j<x.tg.length):(slot s2 (i,j)).isSome=true:=by
 unfold slot;rw[h];show(x.tg[j]?).isSome=true;rw[zv hj];rfl
section
variable {τ:Type} {E:qI τ} (hE:∀ b d,E.sort b d<6)
include hE
theorem jW:∀ f:Fo,sF E f/\sD E f
 | .nil=>⟨fun _ b _ s0 s _ _ _ _ k x o g stk _=>Steps.refl _ _,fun _ _ _ _ _ _ _ _ _ _ hK=>by cases hK⟩
 | .text t r=>⟨fun hm b hv s0 s ha dJ hp hn k x o g stk hs=>by
   obtain⟨c1,c2,c4,c3⟩:=Qx (jW r).1 hm hv (s0:=s0) (s1:=s0.one 1 t) (x:=⟨1,(s0.const t).pos,0,[s0.num t],[]⟩) (by rw[MkS.one,xO,(vq s0 t).2.1]) ha dJ hp hn hs k;refine Jv.after (Steps.one ?_) (c3 (o++t) g);rw[qe c1];unfold ue;simp only[XH (s0:=s0) t c2 ⟨1,(s0.const t).pos,0,[s0.num t],[]⟩ rfl];,fun h=>by cases h⟩
 | .hash r=>⟨fun hm b hv s0 s ha dJ hp hn k x o g stk hs=>by
   obtain⟨c1,c2,c4,c3⟩:=Qx (jW r).1 hm hv.2 (s0:=s0) (s1:=s0.put 6 0 [] []) rfl ha dJ hp hn hs k;refine Jv.after (Steps.one ?_) (c3 (o++E.wr x) g);obtain⟨n,Ym⟩:=hs hv.1;rw[qe c1];unfold ue;simp only[Ym];,fun h=>by cases h⟩
 | .put n a r=>⟨fun hm b hv s0 s ha dJ hp hn k x o g stk hs=>by
   obtain⟨c1,c2,c4,c3⟩:=Qx (jW r).1 hm hv (s0:=s0) (s1:=s0.one 2 n) (x:=⟨2,(s0.const n).pos,0,[s0.num n],[]⟩) (by rw[MkS.one,xO,(vq s0 n).2.1]) ha dJ hp hn hs k;have hc:=XH (s0:=s0) n c2 ⟨2,(s0.const n).pos,0,[s0.num n],[]⟩ rfl;simp only[jN]
   cases h:Yd E n g with
   | error e =>
    obtain⟨e,g'⟩:=e;refine Jv.err (r':=⟨o,stk,g'⟩) ?_ c4;rw[qe c1];unfold ue;simp only[hc,h]
   | ok p =>
    obtain⟨⟨t,num⟩,g'⟩:=p;refine Jv.after (Steps.one ?_) (c3 _ g');rw[qe c1];unfold ue;simp only[hc,h]
   ,fun h=>by cases h⟩
 | .num n a r=>⟨fun hm b hv s0 s ha dJ hp hn k x o g stk hs=>by
   obtain⟨c1,c2,c4,c3⟩:=Qx (jW r).1 hm hv (s0:=s0) (s1:=s0.one 3 n) (x:=⟨3,(s0.const n).pos,0,[s0.num n],[]⟩) (by rw[MkS.one,xO,(vq s0 n).2.1]) ha dJ hp hn hs k;have hc:=XH (s0:=s0) n c2 ⟨3,(s0.const n).pos,0,[s0.num n],[]⟩ rfl;simp only[jN]
   cases h:Yb E n g with
   | error e =>
    obtain⟨e,g'⟩:=e;refine Jv.err (r':=⟨o,stk,g'⟩) ?_ c4;rw[qe c1];unfold ue;simp only[hc,h]
   | ok p =>
    obtain⟨v,g'⟩:=p;refine Jv.after (Steps.one ?_) (c3 _ g');rw[qe c1];unfold ue;simp only[hc,h]
   ,fun h=>by cases h⟩
 | .br n a f off c bs r=>⟨fun hm b hv s0 s ha dJ hp hn k x o g stk hs=>by
   obtain⟨v1,v2,v3,v4,v5⟩:=hv;by_cases h0:f=0
   ·subst h0;obtain⟨sE,Si⟩:∃ sE,sE=uk ((MkS.qv bs (MkS.dO n bs s0) (MkS.ky n bs s0) []).2.map fun i=>(i,0)) (MkS.qv bs (MkS.dO n bs s0) (MkS.ky n bs s0) []).1:=⟨_,rfl⟩;have hms:=PI n a off c bs r s0 hm;rw[←Si] at hms;rw[hms] at ha dJ hn ⊢;obtain⟨m1,m2⟩:=gY r sE;obtain⟨f1,f2,f3,f4⟩:=go_facts bs (KT n bs s0) (MkS.dO n bs s0) (fQ n bs s0) (MkS.ky n bs s0) [];have hS:=Bd n bs s0;have hSl:(MkS.ky n bs s0).code.length=s0.code.length+1:=by rw[hS];simp
    have hSE:sE.code.length=(MkS.qv bs (MkS.dO n bs s0) (MkS.ky n bs s0) []).1.code.length:=by rw[Si,(qF _ _).1]
    have hT:(MkS.gD n bs s0).1.code.length=s0.code.length:=by rw[(Zp n bs s0).1]
    have sH:sE.cs <+: s.cs:=(CA (bT sE.cs) r sE (zx _)).trans dJ;have cL:∀ i,s0.code.length<=i->i<sE.code.length->s.code[i]? = sE.code[i]? := fun i h1 h2=>(ha i h1 (by omega)).trans (m2 i h2)
    have qY:(MkS.gD n bs s0).1.cs <+: s.cs:=(gZ (bT _) _ _ (go_inv (bT (MkS.gD n bs s0).1.cs) bs (fQ n bs s0) (MkS.ky n bs s0) [] (zx _)):(MkS.gD n bs s0).1.cs <+: (uk ((MkS.qv bs (MkS.dO n bs s0) (MkS.ky n bs s0) []).2.map fun i=>(i,0)) (MkS.qv bs (MkS.dO n bs s0) (MkS.ky n bs s0) []).1).cs).trans (Si▸sH);have gP:(s0.const n).cs <+: s.cs:=((bT (s0.const n).cs).kS bs (s0.const n) [s0.num n] (zx _)).trans qY;obtain⟨tl,ht1,r6⟩:=Gw bs (s0.const n) [s0.num n] s.cs v1 qY;have Jx:(MkS.ky n bs s0).code[s0.code.length]? = some ⟨10,s0.pos,0,s0.num n::tl,zG (tl.length+1) 0⟩:=by
     rw[hS,zu (zk _)];have:(MkS.gD n bs s0).2=s0.num n::tl:=ht1;rw[this];simp
    obtain⟨y,hy,TK⟩:=gZ (ZF (MkS.ky n bs s0)) ((MkS.qv bs (MkS.dO n bs s0) (MkS.ky n bs s0) []).2.map fun i=>(i,0)) _ (go_inv (ZF (MkS.ky n bs s0)) bs (fQ n bs s0) _ [] (Qz _)) _ _ Jx;rw[←Si] at hy;have sy:s.code[s0.code.length]? = some y:=(cL _ (zk _) (by omega)).trans hy;obtain⟨y1,y2,y3,y4,y5⟩:=fK TK;have XE:=XH (s0:=s0) n gP y y4;have Jd:tl.length=(bs.keys.filter (· ≠ qy)).length:=by have:=congrArg List.length r6;simpa using this
    have qC:y.k.tail.all (fun j=>decide (j<s.cs.length))=true:=by
     rw[y4,zS,zP];intro j hj;have h1:s.cs[j]?∈(bs.keys.filter (· ≠ qy)).map some:=by rw[←r6];exact zV.2 ⟨j,hj,rfl⟩
     obtain⟨u,_,hu⟩:=zV.1 h1;exact decide_eq_true (z8.1 hu.symm).1
    have sG:∀ t,Vy s y t=MkS.place bs.keys (YZ bs.keys t):=by
     intro t;unfold Vy;rw[y4,zS,r6,cE,Se]
    have hnE:∃ x,s.code[sE.code.length]? = some x/\x.pos=sE.pos:=by
     rcases BZ r hm sE with⟨q1,q2⟩|⟨x,q1,q2⟩
     ·rw[q1,q2] at hn;exact hn
     ·exact⟨x,(ha _ (by omega) (z8.1 q1).1).trans q1,q2⟩
    have hK:∀ t,YZ bs.keys t∈bs.keys:=by intro t;unfold YZ;split<;>assumption
    simp only[jN,↓reduceIte]
    cases h:I3 E n g with
    | error e =>
     obtain⟨e,g'⟩:=e;refine Jv.err (r':=⟨o,stk,g'⟩) ?_;rw[qe sy];unfold ue;simp only[y1,XE,h]
    | ok pr =>
     obtain⟨t,g'⟩:=pr;dsimp only;have oW:∀ k,∀ p∈KT n bs s0 k,p.1<(MkS.ky n bs s0).code.length:=by
      intro k p hp;rw[KT,z7] at hp;subst hp;show(MkS.gD n bs s0).1.code.length<_;omega
     obtain⟨A,xa,hA0,hA1,Om,mg⟩:=F4 (s:=s) (jW bs).2 v1 v4 (fQ n bs s0) v2 (hK t) oW hp Si (fun i h1 h2=>cL i (by omega) h2) sH hnE
     ·have dG:=Om (s0.code.length,MkS.place bs.keys (YZ bs.keys t)) (by rw[KT,hT];exact z7.2 rfl) (F5 Jx (by have:=cH (ks:=bs.keys) (YZ bs.keys t);simp;omega))
       (fun k' QY vx hq=>by
        rw[KT,z7] at hq;exact vx (Sa QY (hK t) (zD hq).2.symm))
      obtain⟨z,UL,QQ⟩:=V0 dG;rw[hy] at UL
      cases UL;refine Jv.after (k1:=A) (r1:=⟨o,stk,g'⟩) (Steps.one ?_) ?_
      ·rw[qe sy];unfold ue;simp only[y1,XE,h,qC,↓reduceIte,sG,QQ];exact Qy hp hA1 rfl _
      ·have run:=mg x o g' stk (fun q=>by cases q)
       cases hr:jN E bs (YZ bs.keys t) x o g' with
       | error er=>rw[hr] at run;exact run.far (by omega)
       | ok pr =>
        obtain⟨o2,g2⟩:=pr;rw[hr] at run;exact Jv.after run ((jW r).1 hm b v5 sE s (fun i h1 h2=>ha i (by omega) h2) dJ hp hn k x o2 g2 stk hs)
   ·obtain⟨sL,hsL⟩:∃ sL,sL=uk ((MkS.qv bs (MkS.jY n off bs s0) (MkS.qH n off f bs s0) []).2.map fun i=>(i,0)) (MkS.qv bs (MkS.jY n off bs s0) (MkS.qH n off f bs s0) []).1:=⟨_,rfl⟩;have hms:=PL n a f off c bs r s0 h0 hm;rw[←hsL] at hms;rw[hms] at ha dJ hn ⊢;obtain⟨m1,m2⟩:=gY r (sL.put 5 0 [] []);have hPl:(sL.put 5 0 [] []).code.length=sL.code.length+1:=by rw[xO];simp
    rw[hPl] at m1 m2;obtain⟨b1,b2,b3⟩:=Kk n off bs s0;obtain⟨f1,f2,f3,f4⟩:=go_facts bs (Zo n off bs s0) (MkS.jY n off bs s0) (jr n off bs s0) (MkS.qH n off f bs s0) [];have hS:=Bb n off f bs s0;have hSl:(MkS.qH n off f bs s0).code.length=(MkS.kE n off bs s0).1.code.length+1:=by rw[hS];simp
    have hSL:sL.code.length=(MkS.qv bs (MkS.jY n off bs s0) (MkS.qH n off f bs s0) []).1.code.length:=by rw[hsL,(qF _ _).1]
    have sH:sL.cs <+: s.cs:=(CA (bT sL.cs) r (sL.put 5 0 [] []) (zx _)).trans dJ;have cL:∀ i,s0.code.length<=i->i<sL.code.length+1->s.code[i]? = (sL.put 5 0 [] []).code[i]? := fun i h1 h2=>(ha i h1 (by omega)).trans (m2 i h2)
    have zu5:∀ i,s0.code.length<=i->i<sL.code.length->s.code[i]? = sL.code[i]? := fun i h1 h2=>(cL i h1 (by omega)).trans (by rw[xO,zy h2])
    have Nl:s.code[sL.code.length]? = some ⟨5,sL.pos,0,[],[]⟩:=by
     rw[cL _ (by omega) (by omega),xO,zu (zk _)];simp
    have qY:(MkS.kE n off bs s0).1.cs <+: s.cs:=(gZ (bT _) _ _ (go_inv (bT (MkS.kE n off bs s0).1.cs) bs (jr n off bs s0) (MkS.qH n off f bs s0) [] (zx _)):(MkS.kE n off bs s0).1.cs <+: (uk ((MkS.qv bs (MkS.jY n off bs s0) (MkS.qH n off f bs s0) []).2.map fun i=>(i,0)) (MkS.qv bs (MkS.jY n off bs s0) (MkS.qH n off f bs s0) []).1).cs).trans (hsL▸sH);have gP:(s0.const n).cs <+: s.cs:=((bT (s0.const n).cs).qJ bs ((s0.const n).put 4 (xH off) [s0.num n] []) [] (zx _)).trans qY;have sh0:=gZ (ZF (MkS.qH n off f bs s0)) ((MkS.qv bs (MkS.jY n off bs s0) (MkS.qH n off f bs s0) []).2.map fun i=>(i,0)) _ (go_inv (ZF (MkS.qH n off f bs s0)) bs (jr n off bs s0) _ [] (Qz _));rw[←hsL] at sh0;have sh1:∀ (i:Nat) (x:jf),s0.code.length<=i->(MkS.qH n off f bs s0).code[i]? = some x->∃ y,s.code[i]? = some y/\sL.code[i]? = some y/\PE y=PE x:=by
     intro i x hi hx;obtain⟨y,h1,h2⟩:=sh0 i x hx;exact⟨y,(zu5 i hi (z8.1 h1).1).trans h1,h1,h2⟩
    have Hp:∀ (i:Nat) (x:jf),(MkS.kE n off bs s0).1.code[i]? = some x->(MkS.qH n off f bs s0).code[i]? = some x:=by
     intro i x hx;rw[hS,zy (z8.1 hx).1];exact hx
    obtain⟨y,hy,_,TK⟩:=sh1 _ _ (zk _) (Hp _ _ (PM n off bs s0));obtain⟨y1,y2,y3,y4,y5⟩:=fK TK;have XE:=XH (s0:=s0) n gP y y4;have zlj:((s0.const n).put 4 (xH off) [s0.num n] []).code.length=s0.code.length+1:=by rw[xO,(vq s0 n).2.1];simp
    have Jx:(MkS.qH n off f bs s0).code[(MkS.kE n off bs s0).1.code.length]? = some ⟨if f=2 then 9 else 8,(MkS.kE n off bs s0).1.pos,0,[],zG 6 0⟩:=by
     rw[hS,zu (zk _)];simp
    obtain⟨_,k2,k3⟩:=bk bs ((s0.const n).put 4 (xH off) [s0.num n] []) [];simp only[jN,if_neg h0]
    cases h:Yb E n g with
    | error e =>
     obtain⟨e,g'⟩:=e;refine Jv.err (r':=⟨o,stk,g'⟩) ?_;rw[qe hy];unfold ue;simp only[y1,XE,h]
    | ok pr =>
     obtain⟨v,g'⟩:=pr;dsimp only;obtain⟨z,hz⟩:∃ z,VJ v (xH off)=z:=⟨_,rfl⟩;rw[hz];have Ym:(stk++[(v,z)]).getLast? = some (v,z):=by simp
     have st1:Steps (jM E s) s0.code.length ⟨o,stk,g⟩ (s0.code.length+1) ⟨o,stk++[(v,z)],g'⟩:=by
      refine Steps.one ?_;rw[qe hy];unfold ue;simp only[y1,XE,h,y3,hz]
     have ask:=Cc (E:=E) (s:=s) v z bs ((s0.const n).put 4 (xH off) [s0.num n] []) [] v1 v2 (fun _ _=>rfl) (fun i x hi hx=>by
      obtain⟨y,h1,_,h3⟩:=sh1 i x (by omega) (Hp i x hx);exact⟨y,h1,h3⟩)
     rw[zlj] at ask;have oW:∀ k,∀ p∈Zo n off bs s0 k,p.1<(MkS.qH n off f bs s0).code.length:=by
      intro k p hp;have:=b3 k p hp;omega
     have key:∃ A,Steps (jM E s) s0.code.length ⟨o,stk,g⟩ A ⟨o,stk++[(v,z)],g'⟩/\Jv (jM E s) A ⟨o,stk++[(v,z)],g'⟩ sL.code.length (stk++[(v,z)]) (jN E bs (CZ E f bs.keys v z) z o g'):=by
      unfold CZ;rw[show(bs.keys.find? fun k=>decide (k.head? = some 61) && fe v (xH k.tail))=bs.keys.find? (eqP v) from rfl]
      cases hf:bs.keys.find? (eqP v) with
      | some K =>
       rw[hf] at ask;obtain⟨i,x0,q1,q2,q3,q4,q5,q6⟩:=ask;have hKm:=List.mem_of_find?_eq_some hf;obtain⟨A,xa,hA0,hA1,Om,mg⟩:=F4 (s:=s) (jW bs).2 v1 v4 (jr n off bs s0) v2 hKm oW hp hsL (fun i h1 h2=>zu5 i (by omega) h2) sH ⟨_,Nl,rfl⟩;have tU:s0.code.length+1<=i:=by
        rcases k3 _ (Zr q1) with w|w
        ·cases w
        ·simp only[zlj] at w;omega
       have zu6:Zo n off bs s0 K=[(i,0)]:=by
        unfold Zo;rw[show(MkS.kE n off bs s0).2.lookup K=some i from q1]
       have dG:=Om (i,0) (by rw[zu6];exact z7.2 rfl) (F5 (Hp i x0 q2) (by omega)) (fun k' QY vx hq=>by
        unfold Zo at hq
        cases hl:(MkS.kE n off bs s0).2.lookup k' with
        | some i' =>
         rw[hl,z7] at hq;have e:=(zD hq).1;have:=Ca bs _ [] (fun p hp=>by cases hp) (fun p hp=>by cases hp) _ (Zr q1) _ (Zr hl) e;exact vx (zD this).1.symm
        | none =>
         rw[hl] at hq;obtain⟨cc,_,e⟩:=zV.1 hq;have e1:=(zD e).1;have:=(z8.1 q2).1;rw[show(MkS.qJ bs ((s0.const n).put 4 (xH off) [s0.num n] []) []).1.code.length=(MkS.kE n off bs s0).1.code.length from rfl] at this;omega)
       obtain⟨yi,w1,w2,w3⟩:=sh1 i x0 (by omega) (Hp i x0 q2);obtain⟨p1,p2,p3,p4,p5⟩:=fK w3;obtain⟨yi',u1,u2⟩:=V0 dG;rw[w2] at u1
       cases u1;have hiA:i<A:=by have h1:=(z8.1 q2).1;rw[show(MkS.qJ bs ((s0.const n).put 4 (xH off) [s0.num n] []) []).1.code.length=(MkS.kE n off bs s0).1.code.length from rfl] at h1;omega
       refine⟨A,st1.trans ((q6 o g' _ Ym).trans (Steps.one ?_ hiA)),mg z o g' _ (fun _=>⟨v,Ym⟩)⟩;rw[qe w1];unfold ue;simp only[p1,q3,Ym,p3,q5,↓reduceIte,u2];exact Qy hp hA1 rfl _
      | none =>
       rw[hf] at ask;dsimp only;have Ak:=hE (decide (f=2)) z.2;obtain⟨cn,Ks⟩:∃ cn,E.sort (decide (f=2)) z.2=cn:=⟨_,rfl⟩;rw[Ks] at Ak ⊢;obtain⟨K,hKe⟩:∃ K,(if QW.getD cn []∈bs.keys then QW.getD cn [] else qy)=K:=⟨_,rfl⟩;rw[hKe];have hKm:K∈bs.keys:=by rw[←hKe];split<;>assumption
       have zb9:(QW.getD cn []).head?≠some 61:=by
        rcases cn with _|_|_|_|_|_|cn
        ·decide
        ·decide
        ·decide
        ·decide
        ·decide
        ·decide
        ·omega
       have hKh:K.head?≠some 61:=by rw[←hKe];split;exact zb9;decide
       have V4:(MkS.kE n off bs s0).2.lookup K=none:=by
        cases hl:(MkS.kE n off bs s0).2.lookup K with
        | none=>rfl
        | some i =>
         rcases Gh bs _ [] _ (Zr hl) with w|w
         ·cases w
         ·exact absurd w hKh
       have zu6:Zo n off bs s0 K=PH bs.keys (MkS.kE n off bs s0).1.code.length K:=by
        unfold Zo;rw[V4]
       obtain⟨A,xa,hA0,hA1,Om,mg⟩:=F4 (s:=s) (jW bs).2 v1 v4 (jr n off bs s0) v2 hKm oW hp hsL (fun i h1 h2=>zu5 i (by omega) h2) sH ⟨_,Nl,rfl⟩;have dG:=Om ((MkS.kE n off bs s0).1.code.length,cn) (by
        rw[zu6];refine zV.2 ⟨cn,zH.2 ⟨List.mem_range.2 Ak,?_⟩,rfl⟩;rw[decide_eq_true_eq,←hKe];split
        ·next h=>exact .inl rfl
        ·next h=>exact .inr ⟨rfl,h⟩) (F5 Jx (by simp;omega)) (fun k' QY vx hq=>by
        unfold Zo at hq
        cases hl:(MkS.kE n off bs s0).2.lookup k' with
        | some i' =>
         rw[hl,z7] at hq;have e:=(zD hq).1;rcases k3 _ (Zr hl) with w|w
         ·cases w
         ·have w2:=w.2;rw[show(MkS.qJ bs ((s0.const n).put 4 (xH off) [s0.num n] []) []).1.code.length=(MkS.kE n off bs s0).1.code.length from rfl] at w2;simp only at w2;omega
        | none =>
         rw[hl] at hq;obtain⟨cc,OD,e⟩:=zV.1 hq;have e1:=(zD e).2;subst e1;have hcd:=of_decide_eq_true (zH.1 OD).2;rw[←hKe] at vx;by_cases dI:QW.getD cc []∈bs.keys
         ·rw[if_pos dI] at vx;rcases hcd with w|w
          ·exact vx w.symm
          ·exact w.2 dI
         ·rw[if_neg dI] at vx;rcases hcd with w|w
          ·exact dI (by rw[w];exact QY)
          ·exact vx w.1)
       obtain⟨yt,w1,w2,w3⟩:=sh1 _ _ (by omega) Jx;obtain⟨p1,p2,p3,p4,p5⟩:=fK w3;obtain⟨yt',u1,u2⟩:=V0 dG;rw[w2] at u1
       cases u1;have hiA:(MkS.kE n off bs s0).1.code.length<A:=by omega
       refine⟨A,st1.trans ((ask o g' _ Ym).trans (Steps.one ?_ hiA)),mg z o g' _ (fun _=>⟨v,Ym⟩)⟩;rw[show(MkS.qJ bs ((s0.const n).put 4 (xH off) [s0.num n] []) []).1.code.length=(MkS.kE n off bs s0).1.code.length from rfl,qe w1];unfold ue;by_cases vG:f=2
       ·rw[if_pos vG] at p1;rw[decide_eq_true vG] at Ks;simp only[p1,Ym,Ks,u2];exact Qy hp hA1 rfl _
       ·rw[if_neg vG] at p1;rw[decide_eq_false vG] at Ks;simp only[p1,Ym,Ks,u2];exact Qy hp hA1 rfl _
     obtain⟨A,hA,run⟩:=key;refine Jv.after hA ?_
     cases hr:jN E bs (CZ E f bs.keys v z) z o g' with
     | error er=>rw[hr] at run;exact run.far (by omega)
     | ok pr =>
      obtain⟨o2,g2⟩:=pr;rw[hr] at run;refine Jv.after (Steps.trans run (Steps.one (k':=sL.code.length+1) (r':=⟨o2,stk,g2⟩) ?_)) ?_
      ·rw[qe Nl];unfold ue;simp
      ·have:=(jW r).1 hm b v5 (sL.put 5 0 [] []) s (fun i h1 h2=>ha i (by omega) h2) dJ hp hn k x o2 g2 stk hs;rw[hPl] at this;exact this
   ,fun h=>by cases h⟩
 | .ug k a m r=>⟨fun h=>(by cases h),fun hl b hv sl bg hb s2 ls K hd hK dG hls=>by
   obtain⟨v1,v2,v3⟩:=hv;have lz:=yy.1 (show(k::r.keys).Nodup from hd);rw[MkS.qv,hb];obtain⟨sb,ZJ⟩:∃ sb,uk (sl k) s2=sb:=⟨_,rfl⟩;obtain⟨l1,l2,l3⟩:=qF (sl k) s2;rw[ZJ] at l1 l2 l3 ⊢;obtain⟨sm,b8⟩:∃ sm,MkS.dD m sb=sm:=⟨_,rfl⟩;rw[show(MkS.qv m (fun _ s=>s) sb []).1=sm from b8];obtain⟨m1,m2⟩:=gY m sb;rw[b8] at m1 m2;have Mm:(sm.put 11 0 [] [0]).code.length=sm.code.length+1:=by rw[xO];simp
   obtain⟨g1,g2,g3,g4⟩:=go_facts r sl bg hb (sm.put 11 0 [] [0]) (ls++[sm.code.length]);rw[Mm] at g1 g2 g4;have kp:∀ i,s2.code.length<=i->i<sm.code.length+1->(MkS.qv r bg (sm.put 11 0 [] [0]) (ls++[sm.code.length])).1.code[i]? = (sm.put 11 0 [] [0]).code[i]? := fun i h1 h2=>g4 i h2 (fun k' p hp=>by have:=dG k' p hp;omega)
   by_cases hkK:k=K
   ·subst hkK;have he:(MkS.qv r bg (sm.put 11 0 [] [0]) (ls++[sm.code.length])).1.code[sm.code.length]? = some ⟨11,sm.pos,0,[],[0]⟩:=by
     rw[kp _ (by omega) (by omega),xO,zu (zk _)];simp
    have hi:∀ i,s2.code.length<=i->i<sm.code.length->(MkS.qv r bg (sm.put 11 0 [] [0]) (ls++[sm.code.length])).1.code[i]? = sm.code[i]? := fun i h1 h2=>by
     rw[kp _ h1 (by omega),xO,zy h2]
    have hfa:∃ xa,(MkS.qv r bg (sm.put 11 0 [] [0]) (ls++[sm.code.length])).1.code[s2.code.length]? = some xa/\xa.pos=s2.pos:=by
     rcases BZ m v1 sb with⟨q1,q2⟩|⟨x,q1,q2⟩
     ·rw[b8] at q1 q2;refine⟨_,by rw[←l1,←q1];exact he,?_⟩;show sm.pos=_;rw[q2,l2]
     ·rw[b8,l1] at q1;exact⟨x,by rw[hi _ (zk _) (z8.1 q1).1];exact q1,by rw[q2,l2]⟩
    obtain⟨xa,hxa,EZ⟩:=hfa;refine⟨s2.code.length,s2.pos,sm.code.length,xa,_,zk _,by omega,by omega,g3 _ (List.mem_append_right _ (z7.2 rfl)),fun i h1 h2 hm=>?_,he,rfl,rfl,hxa,EZ,fun q hq QL j4=>?_,fun s hs hz hc hp x o g stk vL=>?_⟩
    ·rcases g2 i hm with q|q
     ·rw[zZ,z7] at q;rcases q with q|q
      ·have:=hls i q;omega
      ·omega
     ·omega
    ·have hq0:=dG k q hq;rw[BX r sl bg hb hl _ _ q (by omega) (fun k' QY=>j4 k' (zf _ QY) (fun e=>lz.1 (by rw[←e];exact QY))),Gt _ _ _ _ _ _ (by omega),←b8,JC ((gY m sb).2 q.1 (by omega)),←ZJ,fU,if_pos ⟨hq,QL⟩]
    ·have jG:sm.cs <+: s.cs:=(go_inv (bT sm.cs) r hb (sm.put 11 0 [] [0]) (ls++[sm.code.length]) (zx _)).trans hc;have:=(jW m).1 v1 b v2 sb s (fun i h1 h2=>by rw[b8] at h2 ⊢;rw[hs i (by omega) h2,hi i (by omega) h2]) (by rw[b8];exact jG) hp (by rw[b8];exact hz) [] x o g stk vL;rw[b8,l1] at this;simp only[jN,↓reduceIte];exact this
   ·have hKr:K∈r.keys:=by
     rcases List.mem_cons.1 (show K∈k::r.keys from hK) with q|q
     ·exact absurd q.symm hkK
     ·exact q
    obtain⟨A,p,e,xa,xe,h1,h2,h3,h4,h5,h6,h7,h8,h9,dM,KU,JS⟩:=(jW r).2 hl b v3 sl bg hb (sm.put 11 0 [] [0]) (ls++[sm.code.length]) K lz.2 hKr (fun k' p hp=>by have:=dG k' p hp;omega) (fun e he=>by
     rw[zZ,z7] at he;rcases he with he|rfl
     ·have:=hls e he;omega
     ·omega)
    refine⟨A,p,e,xa,xe,by omega,h2,h3,h4,h5,h6,h7,h8,h9,dM,fun q hq QL j4=>?_,fun s hs hz hc hp x o g stk vL=>?_⟩
    ·have hq0:=dG K q hq;refine KU q hq ?_ (fun k' QY=>j4 k' (zf _ QY));rw[Gt _ _ _ _ _ _ (by omega),←b8,JC ((gY m sb).2 q.1 (by omega)),←ZJ,fU];split
     ·rfl
     ·exact QL
    ·have:=JS s hs hz hc hp x o g stk vL;simp only[jN,if_neg hkK];exact this⟩
end
theorem oA{τ:Type}{E:qI τ}(hE:∀ b d,E.sort b d<6)(f:Fo)(hm:f.vD=true)(hv:f.Bf false)(x:vg)(g:τ) :
  match jN E f [] x [] g with
  | .ok (o,g')=>∃ fuel,fuel<=(MkS.all f).code.length/\Ue (jM E (MkS.all f)) fuel 0 ⟨[],[],g⟩=some (.ok ⟨o,[],g'⟩)
  | .error (n,g')=>∃ fuel r,fuel<=(MkS.all f).code.length/\Ue (jM E (MkS.all f)) fuel 0 ⟨[],[],g⟩=some (.error (n,r))/\r.gs=g':=by
 have ZL:(MkS.all f).code[(MkS.dD f MkS.start).code.length]? = some ⟨0,(MkS.dD f MkS.start).pos,0,[],[]⟩:=by
  rw[MkS.all,xO,zu (zk _)];simp
 have h:=(jW hE f).1 hm false hv MkS.start (MkS.all f) (fun i _ hi=>by rw[MkS.all,xO,zy hi]) (zx _) (SS.all f ⟨fun i j x y _ hx=>absurd hx (by simp[MkS.start]),fun x hx=>absurd hx (by simp[MkS.start])⟩) ⟨_,ZL,rfl⟩ [] x [] g [] (fun h=>by cases h)
 cases hr:jN E f [] x [] g with
 | error e =>
  obtain⟨n,g'⟩:=e;rw[hr] at h;obtain⟨m,r',h0,h1,h2⟩:=h;exact⟨0+m,r',by rw[MkS.all,xO,zJ];rw[show MkS.start.code.length=0 from rfl] at h0;omega,h1 0,h2⟩
 | ok p =>
  obtain⟨o,g'⟩:=p;rw[hr] at h;obtain⟨n,h0,hn⟩:=h;refine⟨1+n,by rw[MkS.all,xO,zJ,ze];rw[show MkS.start.code.length=0 from rfl] at h0;omega,?_⟩;rw[show(0:Nat)=MkS.start.code.length from rfl,hn 1,Ue,qe ZL];rfl
def sI{τ:Type}(G:Nat->Prop)(Inv:τ->World->Prop)(res:Except (Nat×τ) (Wd×τ))(w:World)(e:Ending)(w':World):Prop :=
 (match res with
  | .ok (o,g')=>e = .returned (.tuple #[xk o,.nilIface])/\Inv g' w'
  | .error (n,g')=>e = .returned (.tuple #[xk [],qP n])/\Inv g' w')/\Fr G G w w'
section
variable {τ:Type} {w:World} {A q mb g:Nat} {G:Nat->Prop} {vC vI:Value} {rs:List (Value×Value)} {E:qI τ} {F S:τ->Nat->Prop} {Inv:τ->World->Prop}
theorem Sl{s:MkS}{gf:Fn}{g1 g2:Array Value}(hE:dm w (A+2) (A+2) G q mb g s vC vI rs (.func gf g1 g2) E F S Inv)(hA:w.heap.size=A){g0:τ}(hi:Inv g0 w)(hF0:∀ k,F g0 k->G k) :
  vr (A+2) (A+2) q g (.func gf g1 g2) G F S Inv ⟨[],[],g0⟩ (Rt w (.pointer (some ⟨q,0,none⟩)) (.pointer (some ⟨g,0,none⟩)) (.func gf g1 g2)):=by
 have hf:Fr xN xN w (Rt w (.pointer (some ⟨q,0,none⟩)) (.pointer (some ⟨g,0,none⟩)) (.func gf g1 g2)):=(((Fr.refl _ _).alloc _).alloc _).alloc _;refine⟨.slice none 0 0,.slice none 0 0,[],?_,?_,rfl,hE.get.fr hi hf (fun _ q=>q.elim),(by intro h;cases h),fun k hk=>(by cases hk),fun k hk=>⟨.inl ?_,(fun h=>by cases h),fun h=>by cases h⟩,fun k hk=>hk.elim (fun h=>by cases h) (fun h=>by cases h),hF0⟩
 ·have h:=nj ((w.alloc (.cells #[xk []] 9)).alloc (.cells #[.nilIface] 73)) (.pointer (some ⟨q,0,none⟩)) (.pointer (some ⟨g,0,none⟩)) (.func gf g1 g2);rw[show((w.alloc (.cells #[xk []] 9)).alloc (.cells #[.nilIface] 73)).heap.size=A+2 by simp[hA]] at h;exact h
 ·exact World.ownsRow_nil _ _ _ _
 ·have:=hE.get.CP g0 w k hi hk;omega
theorem cM{f:Fo}(hm:f.vD=true)(hv:f.Bf false){gf:Fn}{g1 g2:Array Value}(hE:dm w (A+2) (A+2) G q mb g (MkS.all f) vC vI rs (.func gf g1 g2) E F S Inv)(hT:cX (MkS.all f))(hc:(MkS.all f).code.length<=100000)(hA:w.heap.size=A)(hGA:¬G A)(hGB:¬G (A+1))(x:vg){g0:τ}(hi:Inv g0 w)(hF0:∀ k,F g0 k->G k) :
  Calls prog 53 #[.pointer (some ⟨q,0,none⟩),.pointer (some ⟨g,0,none⟩),.func gf g1 g2] w (sI G Inv (jN E f [] x [] g0) w):=by
 have key:∀ (fuel:Nat) (r:Except (Nat×bH τ) (bH τ)),fuel<=(MkS.all f).code.length->Ue (jM E (MkS.all f)) fuel 0 ⟨[],[],g0⟩=some r ->
   Calls prog 53 #[.pointer (some ⟨q,0,none⟩),.pointer (some ⟨g,0,none⟩),.func gf g1 g2] w (zck G (fun r=>r.out) (fun r W=>Inv r.gs W) r w):=by
  intro fuel r hfu hr;refine nQ G (VmI w (A+2) (A+2) q g (.func gf g1 g2) G F S Inv) (VmJ w (A+2) (A+2) q g (.func gf g1 g2) G F S Inv) (CS Inv S (A+2)) (fun r W=>Inv r.gs W) (fun r=>r.out) (jM E (MkS.all f)) fuel ⟨[],[],g0⟩ r w (some ⟨q,0,none⟩) (some ⟨g,0,none⟩) gf g1 g2 (by rw[hA];exact hGA) (by rw[hA];exact hGB) (fun k hk=>hE.gA k (by rw[hA] at hk;exact hk)) ?_ ?_ ?_ ?_ hr
  ·exact⟨Sl hE hA hi hF0,(((Fr.refl _ _).alloc _).alloc _).alloc _,by show 0+fuel*5000<=_;omega,by show 0+fuel<=_;omega⟩
  ·rintro s W ⟨⟨v,st,cs,hO,vL,fX,hI,ZJ,YS,hS,hAA,hF⟩,hl⟩;rw[hA];refine⟨v,_,_,_,_,hO,fun k hk=>hAA k (.inl hk),by show s.out.length<=_;omega,fun W' hf=>hE.get.fr hI hf fun k hk hs=>?_⟩;have h1:=hS k hs;rcases hk with rfl|rfl|hk
   ·have:=h1.1;omega
   ·have:=h1.1;omega
   ·exact h1.2.1 hk
  ·rintro s W W' ⟨hI,hS⟩ hf;rw[hA] at hf;refine hE.get.fr hI hf fun k hk hs=>?_
   have h1:=hS k hs;rcases hk with rfl|rfl<;>omega
  ·intro m k s W hI hb;rw[hA];exact oS hE hT hI hb
 have h:=oA (E:=E) hE.srt f hm hv x g0
 cases hr:jN E f [] x [] g0 with
 | error e =>
  obtain⟨n,g'⟩:=e;rw[hr] at h;obtain⟨fuel,r,h1,h2,h3⟩:=h;refine(key fuel _ h1 h2).mono fun e w' h=>?_
  subst h3;exact h
 | ok p =>
  obtain⟨o,g'⟩:=p;rw[hr] at h;obtain⟨fuel,h1,h2⟩:=h;exact(key fuel _ h1 h2).mono fun e w' h=>h
end
def Fo.sh:Fo->Prop
 | .nil=>True
 | .text t r=>t.length<=5000/\r.sh
 | .hash r=>r.sh
 | .put _ _ r=>r.sh
 | .num _ _ r=>r.sh
 | .br _ _ _ _ _ bs r=>bs.sh/\r.sh
 | .ug _ _ m r=>m.sh/\r.sh
def shB(op a b:Nat):Bool :=
 match op with
 | 0=>a==0 && b==0|1=>a==1 && b==0|2=>a==1 && b==0|3=>a==1 && b==0|4=>a==1 && b==0|5=>a==0 && b==0|6=>a==0 && b==0|7=>a==0 && b==1
 | 8=>a==0 && b==6|9=>a==0 && b==6|10=>decide (0<a) && b==a|11=>a==0 && b==1|_=>false
def OkX(N c p:Nat)(x:jf):Prop:=(∀ j∈x.k,j<c)/\x.k.length<=N/\x.v<=1000000000/\(∀ y∈x.tg,y<=p)/\shB x.op x.k.length x.tg.length=true
def fJ(N:Nat)(s:MkS):Prop:=(∀ x∈s.code,OkX N s.cs.length s.pos x)/\∀ t∈s.cs,t.length<=5000
theorem OkX.more{N c p c' p':Nat}{x:jf}(h:OkX N c p x)(hc:c<=c')(hp:p<=p'):OkX N c' p' x :=
 ⟨fun j hj=>zo (h.1 j hj) hc,h.2.1,h.2.2.1,fun y hy=>zc (h.2.2.2.1 y hy) hp,h.2.2.2.2⟩
section
variable {N:Nat} {s:MkS}
theorem fJ.put(h:fJ N s)(op v:Nat)(k tg:List Nat)(h1:∀ j∈k,j<s.cs.length)(h2:k.length<=N)(h3:v<=1000000000)(h4:∀ y∈tg,y=0)(h5:shB op k.length tg.length=true):fJ N (s.put op v k tg):=by
 refine⟨fun x hx=>?_,h.2⟩;rw[xO,zZ,z7] at hx;rcases hx with hx|rfl
 ·exact(h.1 x hx).more (zk _) (yz _ _)
 ·exact⟨h1,h2,h3,fun y hy=>by rw[h4 y hy];exact zY _,h5⟩
theorem fJ.const(h:fJ N s)(t:Wd)(ht:t.length<=5000):fJ N (s.const t):=by
 unfold MkS.const;split
 ·exact h
 ·refine⟨fun x hx=>(h.1 x hx).more (by simp) (zk _),fun u hu=>?_⟩;simp only[zZ,z7] at hu;rcases hu with hu|rfl
  ·exact h.2 u hu
  ·exact ht
theorem fJ.u7(h:fJ N s)(i j:Nat):fJ N (s.u7 i j):=by
 refine⟨fun x hx=>?_,h.2⟩;obtain⟨n,hn,e⟩:=zi.1 hx;have OX:(s.u7 i j).code[n]? = some x:=by rw[zv hn,e]
 rw[Zn] at OX;split at OX
 ·cases hc:s.code[n]? with
  | none=>rw[hc] at OX;cases OX
  | some y =>
   rw[hc] at OX
   cases OX;have hy:=h.1 y (zg hc);refine⟨hy.1,hy.2.1,hy.2.2.1,fun z hz=>?_,by rw[List.length_set];exact hy.2.2.2.2⟩;rcases List.mem_or_eq_of_mem_set hz with hz|rfl
   ·exact hy.2.2.2.1 z hz
   ·exact zk _
 ·exact h.1 x (zg OX)
theorem Ci(s:MkS)(t:Wd):s.num t<(s.const t).cs.length:=(z8.1 (Ce (s0:=s) t (zx _))).1
theorem zlb(s:MkS)(t:Wd):s.cs.length<=(s.const t).cs.length:=by unfold MkS.const;split<;>simp
theorem fJ.one(h:fJ N s)(op:Nat)(t:Wd)(ht:t.length<=5000)(uC:shB op 1 0=true)(hN:1<=N):fJ N (s.one op t) :=
 (h.const t ht).put op 0 [s.num t] [] (fun j hj=>by rw[z7.1 hj];exact Ci s t) hN (zY _) (fun y hy=>by cases hy) uC
theorem fJ.kS:∀ (f:Fo) (s:MkS) (acc:List Nat),(∀ k∈f.keys,k.length<=5000)->fJ N s->(∀ j∈acc,j<s.cs.length)->acc≠[]->fJ N (MkS.kS f s acc).1/\(∀ j∈(MkS.kS f s acc).2,j<(MkS.kS f s acc).1.cs.length)/\(MkS.kS f s acc).2≠[]
 | .ug k _ _ r,s,acc,hk,h,ha,hn=>by
  rw[MkS.kS];have QY:∀ k∈r.keys,k.length<=5000:=fun x hx=>hk x (zf _ hx)
  split
  ·exact fJ.kS r s acc QY h ha hn
  ·refine fJ.kS r _ _ QY (h.const _ (hk k (zQ ..))) (fun j hj=>?_) (by simp);rw[zZ,z7] at hj;rcases hj with hj|rfl
   ·exact zo (ha j hj) (zlb s k)
   ·exact Ci s k
 | .nil,_,_,_,h,ha,hn=>⟨h,ha,hn⟩
 | .text _ _,_,_,_,h,ha,hn=>⟨h,ha,hn⟩
 | .hash _,_,_,_,h,ha,hn=>⟨h,ha,hn⟩
 | .put _ _ _,_,_,_,h,ha,hn=>⟨h,ha,hn⟩
 | .num _ _ _,_,_,_,h,ha,hn=>⟨h,ha,hn⟩
 | .br _ _ _ _ _ _ _,_,_,_,h,ha,hn=>⟨h,ha,hn⟩
theorem fJ.qJ:∀ (f:Fo) (s:MkS) (acc:List (Wd×Nat)),(∀ k∈f.keys,k.head? = some 61->xH k.tail<=1000000000)->fJ N s->fJ N (MkS.qJ f s acc).1
 | .ug k _ _ r,s,acc,hk,h=>by
  rw[MkS.qJ];have QY:∀ k∈r.keys,k.head? = some 61->xH k.tail<=1000000000:=fun x hx=>hk x (zf _ hx)
  split
  ·rename_i OC;exact fJ.qJ r _ _ QY (h.put _ _ _ _ (fun j hj=>by cases hj) (zY _) (hk k (zQ ..) OC) (fun y hy=>z7.1 hy) rfl)
  ·exact fJ.qJ r s acc QY h
 | .nil,_,_,_,h=>h
 | .text _ _,_,_,_,h=>h
 | .hash _,_,_,_,h=>h
 | .put _ _ _,_,_,_,h=>h
 | .num _ _ _,_,_,_,h=>h
 | .br _ _ _ _ _ _ _,_,_,_,h=>h
theorem fJ.plu(n o:Wd)(bs:Fo)(s0:MkS)(k:Wd)(h:fJ N s):fJ N (MkS.jY n o bs s0 k s):=by
 unfold MkS.jY;split
 ·exact h.u7 _ _
 ·exact MkS.fu (fJ N) _ (fun s c h=>by split;exact h.u7 _ _;exact h) _ _ h
theorem fJ.uk(h:fJ N s)(l:List Nat):fJ N (l.foldl (fun s i=>MkS.u7 s i 0) s):=MkS.fu (fJ N) _ (fun _ _ h=>h.u7 _ _) _ _ h
theorem fJ.go(hN:20<=N):∀ (f:Fo) (bg:Wd->MkS->MkS) (s:MkS) (ls:List Nat),(∀ k s,fJ N s->fJ N (bg k s))->f.UN->f.sh->f.cw<=N->fJ N s->fJ N (MkS.qv f bg s ls).1
 | .nil,_,_,_,_,_,_,_,h=>h
 | .text t r,bg,s,ls,hb,hc,hs,hw,h=>fJ.go hN r bg _ ls hb hc.2 hs.2 (by simp only[Fo.cw] at hw;omega) (h.one _ _ hs.1 rfl (by omega))
 | .hash r,bg,s,ls,hb,hc,hs,hw,h=>fJ.go hN r bg _ ls hb hc hs (by simp only[Fo.cw] at hw;omega) (h.put _ _ _ _ (fun j hj=>by cases hj) (zY _) (zY _) (fun y hy=>by cases hy) rfl)
 | .put n _ r,bg,s,ls,hb,hc,hs,hw,h=>fJ.go hN r bg _ ls hb hc.2 hs (by simp only[Fo.cw] at hw;omega) (h.one _ _ (by have:=hc.1;omega) rfl (by omega))
 | .num n _ r,bg,s,ls,hb,hc,hs,hw,h=>fJ.go hN r bg _ ls hb hc.2 hs (by simp only[Fo.cw] at hw;omega) (h.one _ _ (by have:=hc.1;omega) rfl (by omega))
 | .br n _ f o _ bs r,bg,s,ls,hb,hc,hs,hw,h=>by
  obtain⟨c1,c2,c3,c4,c5,c6,c7,c8⟩:=hc;have hw':=hw;simp only[Fo.cw] at hw;have hn:n.length<=5000:=by omega
  have LC:=Fo.Yu bs;rw[MkS.qv];split
  ·obtain⟨a1,a2,a3⟩:=fJ.kS bs (s.const n) [s.num n] (fun k hk=>by have:=(c6 k hk).1;omega) (h.const n hn) (fun j hj=>by rw[z7.1 hj];exact Ci s n) (by simp);have hl:=(MkS.UP bs (s.const n) [s.num n]).2.2.1;refine fJ.go hN r bg _ ls hb c8 hs.2 (by omega) (fJ.uk (fJ.go hN bs _ _ _ (fun k x hx=>hx.u7 _ _) c7 hs.1 (by omega) ?_) _);exact a1.put _ _ _ _ a2 (by rw[ze] at hl;simp only[MkS.gD];omega) (zY _) (fun y hy=>(zm.1 hy).2) (by rw[List.length_replicate];simp only[MkS.gD,shB,beq_self_eq_true,Bool.and_true,decide_eq_true_eq];exact decide_eq_true (List.length_pos_iff.2 a3))
  ·rename_i hf;refine fJ.go hN r bg _ ls hb c8 hs.2 (by omega) (fJ.put (fJ.uk (fJ.go hN bs _ _ _ (fun k x hx=>hx.plu n o bs s k) c7 hs.1 (by omega) ?_) _) _ _ _ _ (fun j hj=>by cases hj) (zY _) (zY _) (fun y hy=>by cases hy) rfl);refine fJ.put (fJ.qJ bs _ _ (fun k hk OC=>?_) ((h.const n hn).put _ _ _ _ (fun j hj=>by rw[z7.1 hj];exact Ci s n) (by simp;omega) (by omega) (fun y hy=>by cases hy) rfl)) _ _ _ _ (fun j hj=>by cases hj) (zY _) (zY _) (fun y hy=>(zm.1 hy).2) (by split<;>rfl);obtain⟨-,e2,e3⟩:=(c6 k hk).2 hf OC;have h1:=Q5 _ e3;have h2:10 ^ k.tail.length<=10 ^ 9:=Nat.pow_le_pow_right (by omega) e2;omega
 | .ug k _ m r,bg,s,ls,hb,hc,hs,hw,h=>by
  simp only[Fo.cw] at hw;exact fJ.go hN r bg _ _ hb hc.2.2 hs.2 (by omega) (fJ.put (fJ.go hN m _ _ _ (fun _ _ h=>h) hc.2.1 hs.1 (by omega) (hb k s h)) _ _ _ _ (fun j hj=>by cases hj) (zY _) (zY _) (fun y hy=>z7.1 hy) rfl)
end
theorem zu7{f:Fo}(hc:f.UN)(hs:f.sh):fJ (f.cw+20) (MkS.all f) :=
 fJ.put (fJ.go (N:=f.cw+20) (by omega) f _ _ [] (fun _ _ h=>h) hc hs (by omega) ⟨fun x hx=>(by cases hx),fun t ht=>(by cases ht)⟩) _ _ _ _ (fun j hj=>by cases hj) (zY _) (zY _) (fun y hy=>by cases hy) rfl
theorem zu8(f:Fo):(MkS.all f).sz<=f.cw+3:=by
 have h:=(ML f MkS.start).2;have h1:(uU ⟨0,(MkS.dD f MkS.start).pos,0,[],[]⟩).length=1:=by rfl
 rw[show MkS.start.sz=0 from rfl] at h;rw[MkS.all,ji,h1];omega
theorem sM{x:jf}{N c p:Nat}(h:OkX N c p x):(x.op=7->0<x.tg.length)/\(x.op=10->x.k≠[]/\x.tg.length=x.k.length)/\x.op<12/\okB (gR x.op) x.k.length x.tg.length=true:=by
 obtain⟨-,-,-,-,h⟩:=h;obtain⟨op,pos,v,k,tg⟩:=x;dsimp only at h ⊢;unfold shB at h;split at h<;>simp only[Bool.and_eq_true,beq_iff_eq,decide_eq_true_eq,reduceCtorEq] at h
 all_goals refine⟨by omega,fun q=>?_,by omega,?_⟩
 all_goals first|omega|skip
 all_goals first|(rw[h.1,h.2];rfl)|skip
 ·exact⟨fun e=>by rw[e] at h;exact Nat.lt_irrefl _ h.1,h.2⟩
 ·rw[h.2];simp only[gR,okB];simp;omega
theorem Ia{f:Fo}(hc:f.UN)(hs:f.sh)(hw:f.cw<=90000):cX (MkS.all f)/\(MkS.all f).code.length<=100000/\(MkS.all f).cs.length<=1000000/\(∀ t∈(MkS.all f).cs,t.length<=5000)/\∀ x∈(MkS.all f).code,x.v<=1000000000/\∀ y∈x.tg,y<=4000000000:=by
 obtain⟨h1,h2⟩:=zu7 hc hs;have hz:=zu8 f;simp only[MkS.sz] at hz;refine⟨fun x hx=>⟨(sM (h1 x hx)).1,fun uC=>?_⟩,by omega,by omega,h2,fun x hx=>⟨(h1 x hx).2.2.1,fun y hy=>by have:=(h1 x hx).2.2.2.1 y hy;omega⟩⟩;obtain⟨a1,a2,-⟩:=h1 x hx;obtain⟨b1,b2⟩:=(sM (h1 x hx)).2.1 uC;refine⟨by omega,zP.2 fun j hj=>decide_eq_true (a1 j (List.mem_of_mem_tail hj)),?_⟩
 cases hk:x.k with
 | nil=>exact absurd hk b1
 | cons a l=>rw[hk] at b2;simp only[zS,zw] at b2 ⊢;omega
end Go.Proofs.YthpldolmpinnhaaGreatDoor
