import Derived.Test.YthpldolmpinnhaaGreatDoorJG34
set_option maxHeartbeats 64000000
open List renaming mem_singleton→z7,getElem?_eq_some_iff→z8,getElem?_append_left→zy,prefix_refl→zx,getElem?_eq_getElem→zv,getElem?_append_right→zu,mem_of_getElem?→zg,mem_cons_of_mem→zf,mem_append→zZ,lookup_cons→zX,mem_map→zV,idxOf_lt_length_of_mem→zU,mem_cons_self→zQ,length_append→zJ,replicate→zG,idxOf_eq_length→zF,mem_filter→zH,prefix_append→zM,getElem_idxOf→zN,cons_append→zO,all_eq_true→zP,tail_cons→zS,range→zW,map_cons→za,length_singleton→ze,mem_iff_getElem→zi,idxOf_le_length→zl,mem_replicate→zm,append_assoc→zr,length_tail→zh,length_cons→zw,nodup_cons→yy,nil_append→yx,idxOf_cons→yv,foldl_map→yq
open Nat renaming le_refl→zk,zero_le→zY,le_trans→zc,lt_of_lt_of_le→zo,le_add_right→yz
open Go.Lib renaming hid→zj
open Prod.mk renaming inj→zD,injEq→zt
open Option.some renaming inj→zE,injEq→zL
open Go.Value.slice renaming injEq→zI
open Go.Addr.mk renaming injEq→zR
open Option renaming map_some→zn
open And renaming intro→yu
open Go.Proofs.Tryz
namespace Go.Proofs.YthpldolmpinnhaaGreatDoor
open Go Go.RowKit
set_option maxRecDepth 10000
section
variable {τ:Type} {w0 W:World} {A0 b q mb g k:Nat} {G:Nat->Prop} {s:MkS} {vC vI gv:Value} {rs:List (Value×Value)} {E:qJ τ} {F S:τ->Nat->Prop} {Inv:τ->World->Prop} {r:Z4 τ} {x:jG}
def iM(s:MkS)(x:jG)(u:Wd)(_:τ)(_:World)(e:Ending):Prop:=e = .returned (.int .i64 ((VN s x u:Nat):Int))
theorem iO{α:Type}[BEq α][LawfulBEq α]{l:List α}{a:α}{i:Nat}(hi:i<l.length)(h:a ∉ l.take i)(he:l[i]=a):l.idxOf a=i:=by
 have h1:l=l.take i++l[i]::l.drop (i+1):=by rw[<-List.drop_eq_getElem_cons hi,List.take_append_drop]
 rw[h1,List.idxOf_append,if_neg h,he,List.idxOf_cons_self,List.length_take];omega
theorem iP{α:Type}{l:List α}{a:α}{i:Nat}(hi:i<l.length)(h:a ∉ l.take i)(he:l[i]≠a):a ∉ l.take (i+1):=by
 rw[List.take_succ_eq_append_getElem hi,zZ,z7];exact fun q=>q.elim h (fun e=>he e.symm)
theorem Pq(hE:bU w0 A0 b G q mb g s vC vI rs gv E F S Inv)(hf:Fr G G w0 W)(hR:vh b A0 q g gv G F S Inv r W)(hk:s.code[k]? = some x){t:Wd}(hc:Yv s x=some t){I ic:Nat}(GF:vI = .slice (some ⟨I,0,none⟩) s.code.length ic)(qQ:x.k.tail.all (fun j=>decide (j<s.cs.length))=true)(CC:x.k.length<=1000000) :
  Calls prog 136 #[.pointer (some ⟨b,0,none⟩),.pointer (some ⟨I,k*5,none⟩)] W (Xh F S Inv r.gs W (iM s x) (Hg E t r.gs)):=by
 obtain⟨j,hj,ht⟩:=Zz hc;have hp:=hE.prog W hf;obtain⟨I1,ic1,kv,tv,q1,lt,i0,-,i3,-,kr,-⟩:=hp.ins hk;have Yi:=zE (hp.q1.symm.trans q1);rw[GF] at Yi;simp only[zI,zL,zR,and_true,true_and] at Yi;rw[<-Yi.1] at i3;obtain⟨C,cc,q0,cj,KY⟩:=hp.oY ht;obtain⟨K,kc,rfl,kj,ycf⟩:=kr.at_ hj;have h3:=hE.n3 t (zg ht);obtain⟨v,st,cs,hO,vM,fT,hi,Zc,Xz,hS,hA,hF⟩:=hR;have Lp:EO b A0 q g gv G F S Inv r v st cs W:=⟨hO,vM,fT,hi,Zc,Xz,hS,hA,hF⟩;have V0:Bk b q j t W:=⟨hO.cell.1,C,s.cs.length,cc,q0,cj,KY,hE.n2⟩;have BF:=zj (iE hE.get b q j t r.gs W hO.cell.2.2.1 V0 hi (by omega));obtain⟨z,hZ⟩:=xX x.k.length;rw[hZ] at i3 ycf CC;obtain⟨res,vE⟩:=xX (Hg E t r.gs);rw[vE] at BF |-
 have k3:(0:Int)<(z:Int):=by omega
 have HE:=zj hE;have HF:=zj hf;have Ij:=zj Lp;have HK:=zj hk;have HVI:=zj GF;have A7:=zj qQ;have HZ:=zj hZ;clear hE hf Lp hk GF qQ hp hO vM fT hi Zc Xz hS hA hF kr hj ht hc V0 vE q1 i0 q0 cj lt KY Yi hZ;go_enter func136,ntmps136;go_wp2_with fail;refine BF.out.mono ?_;intro e w1 hq
 cases res with
 | error er =>
  obtain⟨c,s'⟩:=er;obtain⟨⟨uf,rfl,hold⟩,hI⟩:=hq;have HQ:=zj (show Xh F S Inv r.gs W (iM s x) (.error (c,s'):Except (Nat×τ) (Wd×τ)) (.panicked ({ v:=qW c,recovered:=false }::uf)) w1 from⟨⟨uf,rfl,hold⟩,hI⟩);clear hold hI BF;go_wp2;exact⟨rfl,HQ.out⟩
 | ok p =>
  obtain⟨u,s'⟩:=p;obtain⟨⟨hu,rfl⟩,hI⟩:=hq;obtain⟨h1,h2⟩:=Ij.out.asked HE.out hI;have hp:=HE.out.prog w1 (HF.out.trans h2);obtain⟨I1,ic1,kv,tv,q1,lt,i0,-,i3',-,kr,-⟩:=hp.ins HK.out;have Yi:=zE (hp.q1.symm.trans q1);rw[HVI.out] at Yi;simp only[zI,zL,zR,and_true,true_and] at Yi;rw[<-Yi.1] at i3';obtain⟨K2,kc2,Ky,ycd,ycb,Hc⟩:=vZ kr (by rw[HZ.out];omega);have Az:x.k.length<=kc2:=by
   rcases kr.2 with⟨hv,hn⟩|⟨g2,uL,cur,hv,_,_,hh,_⟩
   .rw[HZ.out] at hn;omega
   .rw[Ky] at hv;cases hv;exact hh
  rw[Ky,HZ.out] at i3';rw[HZ.out] at Az;have b0:=h1.o.cell.1;have HI:=zj hI;have HP:=zj hp;have N2:=zj Hc;obtain⟨y,rfl⟩:∃ y,z=y+1:=⟨z - 1,by omega⟩;have l4:1<=kc2:=by omega
  have l5:((y:Int)+1) - 1=(y:Int):=by omega
  obtain⟨L,hL⟩:=xX (x.k.tail.map (fun j=>s.cs[j]?));have hLl:L.length=y:=by rw[<-hL,List.length_map,zh,HZ.out];omega
  have htI:VN s x u=L.idxOf (some u):=by unfold VN;rw[hL]
  have HL:=zj (yu hL (yu hLl htI));have qc:(⟨u.toArray⟩:ByteArray).size=u.length:=size_mk _;clear h1 h2 hI BF hp q1 lt i0 kr Yi Ky Hc ycd ycb kj i3 hL hLl htI;by_cases eP:kc2=1
  .obtain rfl:y=0:=by omega
   subst eP;have HQ:=zj (show VN s x u=0 by
    obtain⟨a,b,c⟩:=HL.out;rw[c,List.eq_nil_of_length_eq_zero b];rfl)
   go_wp2_with fail;go_loopw [20] (fun iv wr=>iv = .int .i64 0/\wr=w1) (fun _ _=>0)
   case atStart=>exact⟨rfl,rfl⟩
   case round =>
    obtain⟨rfl,rfl⟩:=hrel;go_wp2;go_ret;exact⟨by unfold iM;rw[HQ.out];rfl,HI.out⟩
  .go_wp2_with fail;go_loopw [20] (fun iv wr=>∃ i:Nat,iv = .int .i64 (i:Nat)/\i<=y/\some u ∉ L.take i/\Fr xI xI w1 wr) (fun iv _=>y - (intOf iv).toNat)
   case atStart=>exact⟨0,rfl,zY _,by simp,Fr.refl _ _⟩
   case round =>
    obtain⟨i,rfl,hiy,Hs,YG⟩:=hrel;have JA:=zj YG;have HN:=zj Hs;by_cases xB:i<y
    .obtain⟨hL,hLl,htI⟩:=HL.out;have UM:i<L.length:=by omega
     have hkt:i<x.k.tail.length:=by rw[zh,HZ.out];omega
     have PA:x.k.tail[i]<s.cs.length:=of_decide_eq_true (zP.1 A7.out _ (List.getElem_mem hkt));have hki:x.k[i+1]? = some x.k.tail[i]:=by rw[List.getElem_tail,zv]
     obtain⟨jj,hjj⟩:=xX (x.k.tail[i]);rw[hjj] at PA hki;obtain⟨c,Ps⟩:∃ c,s.cs[jj]? = some c:=⟨_,zv PA⟩;have hLi:L[i]=some c:=by
      have:L[i]? = some (some c):=by rw[<-hL,List.getElem?_map,zv hkt,hjj,zn,Ps]
      rw[zv UM] at this;exact zE this
     obtain⟨C2,cc2,q0,cj,KY⟩:=HP.out.oY Ps;have q0':=YG.cell q0 id;have cj':=YG.cell cj id;have b0':=YG.cell b0 id;have i3b:=YG.cell i3' id;have kj':wr.cell? ⟨K2,i+1,none⟩=some (.int .i64 jj):=YG.cell (by rw[N2.out _ (by rw[HZ.out];omega)];simp[Zb,hki]) id;obtain⟨mm,GM⟩:=xX s.cs.length;rw[GM] at q0' KY;have f1:(i:Int)<(y:Int):=by omega
     have f2:(1:Int)+(i:Int)<(y:Int)+1:=by omega
     have f3:(0:Int)<=1+(i:Int):=by omega
     have f4:IntKind.i64.wrap (1+(i:Int))=1+(i:Int):=by rw[IntKind.wrap_i64];omega
     have f5:(1+(i:Int)).toNat=i+1:=by omega
     have f6:(jj:Int)<(mm:Int):=by omega
     have xf8:(⟨c.toArray⟩:ByteArray).size=c.length:=size_mk _;clear YG Hs q0 cj KY Ps hjj hki PA hkt hL hLl htI GM;by_cases hcu:c=u
     .subst hcu;have HS:=zj (show VN s x c=i by rw[HL.out.2.2];exact iO UM HN.out hLi);clear hLi UM;go_wp2_with fail;refine rt (fun W':World=>W'.cell? ⟨b,0,none⟩=some (.pointer (some ⟨q,0,none⟩))/\W'.cell? ⟨q,0,none⟩=some (.slice (some ⟨C2,0,none⟩) mm cc2)/\W'.cell? ⟨I,k*5+3,none⟩=some (.slice (some ⟨K2,0,none⟩) (y+1) kc2)/\W'.cell? ⟨K2,i+1,none⟩=some (.int .i64 jj)/\W'.cell? ⟨C2,jj,none⟩=some (xg c)) (zW 19) 0 ⟨b0',q0',i3b,kj',cj'⟩ ?_;(iterate 19 (refine ty ?_;try simp only[pl]))
      refine xq ?_;refine b7 ?_ _;go_wp2;go_ret;exact⟨by unfold iM;rw[HS.out];rfl,Xh.more HE.out.get HI.out (JA.out.drew) (fun _ q=>q.elim)⟩
     .have nL:=zj (iP UM HN.out (by rw[hLi];exact fun e=>hcu (zE e)));have xf9:(c==u)=false:=by simpa using hcu
      clear hLi UM;go_wp2_with fail;refine rt (fun W':World=>W'.cell? ⟨b,0,none⟩=some (.pointer (some ⟨q,0,none⟩))/\W'.cell? ⟨q,0,none⟩=some (.slice (some ⟨C2,0,none⟩) mm cc2)/\W'.cell? ⟨I,k*5+3,none⟩=some (.slice (some ⟨K2,0,none⟩) (y+1) kc2)/\W'.cell? ⟨K2,i+1,none⟩=some (.int .i64 jj)/\W'.cell? ⟨C2,jj,none⟩=some (xg c)) (zW 19) 0 ⟨b0',q0',i3b,kj',cj'⟩ ?_;(iterate 19 (refine ty ?_;try simp only[pl]))
      refine xq ?_;refine b7 ?_ _;go_wp2;exact⟨⟨i+1,congrArg (Value.int .i64) (by omega),by omega,nL.out,JA.out.drew⟩,by simp only[intOf];omega⟩
    .obtain rfl:i=y:=by omega
     have HS:=zj (show VN s x u=i by
      obtain⟨hL,hLl,htI⟩:=HL.out;rw[htI];have h:=HN.out;rw[List.take_of_length_le (by omega)] at h;rw[zF h,hLl])
     have i3b:=YG.cell i3' id;have f1:¬((i:Int)<(i:Int)):=by omega
     clear YG Hs;go_wp2;go_ret;exact⟨by unfold iM;rw[HS.out];first|rfl|simp,Xh.more HE.out.get HI.out JA.out (fun _ q=>q.elim)⟩
end
theorem jX.bu{q mb k:Nat}{s:MkS}{vC vI:Value}{rs:List (Value×Value)}{w:World}{x:jG}(h:jX q s vC vI rs mb w)(hk:s.code[k]? = some x):∃ I ic kv tv,rs[k]? = some (kv,tv)/\vI = .slice (some ⟨I,0,none⟩) s.code.length ic/\zn0 q k x I s.code.length ic kv tv w:=by
 have tN:=(z8.1 hk).1;obtain⟨⟨kv,tv⟩,hr⟩:∃ r,rs[k]? = some r:=⟨_,zv (by have:=h.rows.len;omega)⟩;obtain⟨h1,h2⟩:=h.rows.k k x _ hk hr;obtain⟨I,ic,GF,-,hI,SU⟩:=vZ h.cI (by omega);have c:∀ j,j<5->w.cell? ⟨I,k*5+j,none⟩=(DT x (kv,tv))[j]? := fun j hj=>by rw[SU _ (by omega),Ul _ _ h.rows.len k j x _ hk hr hj]
 exact⟨I,ic,kv,tv,hr,GF,⟨by rw[h.q1,GF],tN,c 0 (by omega),c 2 (by omega),c 3 (by omega),c 4 (by omega),h1,h2⟩⟩
section
variable {τ:Type} {w0 W:World} {A0 b q mb g k:Nat} {G:Nat->Prop} {s:MkS} {vC vI gv:Value} {rs:List (Value×Value)} {E:qJ τ} {F S:τ->Nat->Prop} {Inv:τ->World->Prop} {r:Z4 τ} {x:jG}
def zpf(b A0 q g:Nat)(gv:Value)(G:Nat->Prop)(F S:τ->Nat->Prop)(Inv:τ->World->Prop)(s:MkS)(x:jG)(r:Z4 τ)(res:Except (Nat×τ) (Wd×τ))(W:World)(e:Ending)(w':World):Prop :=
 (match res with
  | .ok (u,s')=>(∀ p,x.tg[VN s x u]? = some p->e = .returned (.int .i64 (Jl s p)))/\vh b A0 q g gv G F S Inv { r with gs:=s' } w'
  | .error (n,s')=>zjk n e/\EN Inv S b { r with gs:=s' } w')/\Fr G G W w'
theorem Lr(hE:bU w0 A0 b G q mb g s vC vI rs gv E F S Inv)(hf:Fr G G w0 W)(hR:vh b A0 q g gv G F S Inv r W)(hk:s.code[k]? = some x)(uM:x.op=10){t:Wd}(hc:Yv s x=some t)(qQ:x.k.tail.all (fun j=>decide (j<s.cs.length))=true)(CC:x.k.length<=1000000)(Jm:∀ u,∃ p,x.tg[VN s x u]? = some p) :
  Calls prog 87 #[.pointer (some ⟨b,0,none⟩),.int .i64 (k:Nat)] W (zpf b A0 q g gv G F S Inv s x r (Hg E t r.gs) W):=by
 have hp:=hE.prog W hf;obtain⟨I,ic,kv,tv,ZA,GF,q1,lt,i0,-,-,i4,-,tr⟩:=hp.bu hk;obtain⟨p0,hp0⟩:=Jm [];obtain⟨T,tc,htv,-,ye4⟩:=tr.at_ hp0;obtain⟨v,st,cs,hO,vM,fT,hi,Zc,Xz,hS,hA,hF⟩:=hR;have Lp:EO b A0 q g gv G F S Inv r v st cs W.drew:=⟨hO,vM,fG.fr ((Fr.refl xI W).drew) (fun _ q=>q.elim) (fun _ q => .inl q) fT,hE.get.fr hi ((Fr.refl xI W).drew) (fun _ q=>q.elim),Zc,Xz,hS,hA,hF⟩;have hRA:vh b A0 q g gv G F S Inv r W.drew:=⟨v,st,cs,Lp.o,Lp.row,Lp.en,Lp.inv,Lp.sb,Lp.sv,Lp.ds,Lp.da,Lp.df⟩;have iV:Fr G G w0 W.drew:=hf.drew;have HCH:=zj (Pq hE iV hRA hk hc GF qQ CC);have b0:=hO.cell.1;have bO:=hE.n1;obtain⟨n,hN⟩:=xX s.code.length;obtain⟨z,hZ⟩:=xX x.tg.length;obtain⟨res,vE⟩:=xX (Hg E t r.gs);rw[vE] at HCH |-
 have HI4:=zj (fun (w:World) (h:jX q s vC vI rs mb w)=>show w.cell? ⟨I,k*5+4,none⟩=some (.slice (some ⟨T,0,none⟩) z tc)/\∀ j y,x.tg[j]? = some y->w.cell? ⟨T,j,none⟩=some (.int .i64 (y:Nat)) from by
  obtain⟨I',ic',px,tv',zpd,zg0,q1',-,-,-,-,i4',-,tr'⟩:=h.bu hk;rw[GF] at zg0;simp only[zI,zL,zR,and_true,true_and] at zg0;rw[ZA] at zpd
  cases zpd;rw[<-zg0.1] at i4';refine⟨by rw[i4',htv,hZ],fun j y hj=>?_⟩;obtain⟨T',tc',zpb,rH,-⟩:=tr'.at_ hj;rw[htv] at zpb
  cases zpb;exact rH)
 have i4W:=(HI4.out W hp).1;have tjW:=(HI4.out W hp).2;rw[hN] at q1 lt bO;rw[uM] at i0;have k1:(k:Int)<(n:Int):=by omega
 have HE:=zj hE;have HF:=zj iV;have Ij:=zj Lp;have HTB:=zj Jm;have HX4:=zj (fun p hp=>(hE.n4 x (zg hk)).2 p hp);obtain⟨TG,hTG⟩:=xX x.tg;rw[hTG] at tjW hZ HI4;have HZ:=zj hZ;have HTG:=zj hTG;clear hE hf Lp hRA hk uM hc qQ hp hO vM fT hi Zc Xz hS hA hF hN hZ tr ZA GF i4 ye4 Jm vE hp0 iV hTG htv;go_enter func87,ntmps87;go_wp2_with fail;refine rt (fun W':World=>W'.cell? ⟨b,0,none⟩=some (.pointer (some ⟨q,0,none⟩))/\W'.cell? ⟨I,k*5+4,none⟩=some (.slice (some ⟨T,0,none⟩) z tc)/\∀ j y,TG[j]? = some y->W'.cell? ⟨T,j,none⟩=some (.int .i64 (y:Nat))) (zW 10) 5 ⟨b0,i4W,tjW⟩ ?_;(iterate 10 (refine ty ?_;try simp only[pl]))
 refine xq ?_;refine jx 10 (fun J hJ=>?_);go_simp;refine HCH.out.mono ?_;intro e w1 hq
 cases res with
 | error er =>
  obtain⟨c,s'⟩:=er;obtain⟨⟨uf,rfl,hold⟩,hI⟩:=hq;obtain⟨h1,h2⟩:=Ij.out.asked HE.out hI;have HQ:=zj (show zpf b A0 q g gv G F S Inv s x r (.error (c,s'):Except (Nat×τ) (Wd×τ)) W (.panicked ({ v:=qW c,recovered:=false }::uf)) w1 from⟨⟨⟨uf,rfl,hold⟩,h1.inv,fun k hk=>(h1.ds k hk).1⟩,h2.und⟩);clear hold hI HCH h1 h2;exact⟨rfl,HQ.out⟩
 | ok p =>
  obtain⟨u,s'⟩:=p;obtain⟨OJ,hI⟩:=hq;obtain rfl:=OJ;obtain⟨h1,h2⟩:=Ij.out.asked HE.out hI;have Un:=HE.out.prog w1 (HF.out.trans h2);obtain⟨i4b,rW⟩:=HI4.out w1 Un;have b0b:=h1.o.cell.1;obtain⟨p,Uv⟩:=HTB.out u;obtain⟨ix,Iw⟩:=xX (VN s x u);rw[Iw] at Uv |-
  have zg1:TG[ix]? = some p:=by rw[<-HTG.out];exact Uv
  have k3:(ix:Int)<(z:Int):=by have:=(z8.1 zg1).1;have:=HZ.out;omega
  have Qs:=zj (Fm q mb s.code.length p (dF s.code s.code.length) w1 Un.q2 Un.mp (HX4.out p (zg Uv)));have tj1:=rW ix p zg1;have JA:=zj (show Fr G G W w1 from h2.und);have fI:=zj h1;obtain⟨jv,C7⟩:=xX (Jl s p);rw[show P9 (dF s.code s.code.length p)=jv from C7] at Qs;have HJV:=zj C7;have BB:=zj (yu Uv Iw);clear hI HCH h1 h2 Un C7 Uv Iw b0 i4W tjW;refine hJ.out _ _ ⟨b0b,i4b,rW⟩ fun _=>?_
  clear hJ J;refine VA [11,12] 2 ⟨b0b,i4b,rW⟩ ?_;refine ty ?_;try simp only[pl]
  refine K9 (v := .int .i64 (p:Nat)) rfl (by rfl) ?_ ?_
  .intro w' tB;have t1:=tB.2.2 ix p zg1;go_simp
  try simp only[pl]
  refine xq ?_;refine jx 13 (fun J hJ=>?_);go_simp;refine Qs.out.mono ?_;rintro e w3 ⟨rfl,rfl⟩;refine hJ.out _ _ ⟨b0b,i4b,rW⟩ fun _=>?_
  clear hJ J;refine VA [14] 0 ⟨b0b,i4b,rW⟩ ?_;refine ty ?_;try simp only[pl]
  refine xq ?_;refine b7 ?_ _;go_wp2;go_ret;refine⟨⟨fun p' hp'=>?_,⟨_,_,_,fI.out.o,fI.out.row,fI.out.en,fI.out.inv,fI.out.sb,fI.out.sv,fI.out.ds,fI.out.da,fI.out.df⟩⟩,JA.out⟩;rw[BB.out.2,BB.out.1] at hp'
  cases hp';rw[HJV.out];rfl
end
def iR(s:MkS):Prop:=∀ x∈s.code,(x.op=7->0<x.tg.length)/\(x.op=10->x.k.length<=1000000/\x.k.tail.all (fun j=>decide (j<s.cs.length))=true/\x.k.tail.length<x.tg.length)
section
variable {τ:Type} {w0 W:World} {A0 b q mb g k:Nat} {G:Nat->Prop} {s:MkS} {vC vI gv:Value} {rs:List (Value×Value)} {E:qJ τ} {F S:τ->Nat->Prop} {Inv:τ->World->Prop} {r:Z4 τ} {x:jG}
def VmI(w0:World)(b A0 q g:Nat)(gv:Value)(G:Nat->Prop)(F S:τ->Nat->Prop)(Inv:τ->World->Prop)(m _:Nat)(r:Z4 τ)(W:World):Prop :=
 vh b A0 q g gv G F S Inv r W/\Fr G G w0 W/\r.out.length+m*5000<=900000000/\r.stk.length+m<=900000
def VmJ(w0:World)(b A0 q g:Nat)(gv:Value)(G:Nat->Prop)(F S:τ->Nat->Prop)(Inv:τ->World->Prop)(r:Z4 τ)(W:World):Prop :=
 vh b A0 q g gv G F S Inv r W/\r.out.length<=900000000
theorem Ls{n k m:Nat}(hl:n+(m+1)*5000<=k):n+m*5000<=k:=by
 rw[Nat.succ_mul] at hl;exact zc (Nat.add_le_add_left (yz _ _) n) hl
theorem C8{n k m:Nat}(hl:n+(m+1)<=k):n+m<=k:=by omega
theorem WX{n k m:Nat}(hl:n+(m+1)*5000<=k):n<=k:=by omega
theorem Rw{m:Nat}(hf:Fr G G w0 W)(hl:r.out.length+(m+1)*5000<=900000000)(hs:r.stk.length+(m+1)<=900000){r':Z4 τ}{e:Ending}{w':World}(h1:e = .returned (.int .i64 ((k+1:Nat):Int)))(h2:VmQ b A0 q g gv G F S Inv r (k+1) r' w')(h3:Fr G G W w') :
  OQ G (VmI w0 b A0 q g gv G F S Inv m) (VmJ w0 b A0 q g gv G F S Inv) (EN Inv S b) (.go (k+1) r') W e w' :=
 ⟨⟨h1,h2.1,hf.trans h3,by have:=h2.2.1;omega,by have:=h2.2.2;omega⟩,h3⟩
theorem re{m:Nat}(hf:Fr G G w0 W)(hl:r.out.length+(m+1)*5000<=900000000)(hs:r.stk.length+(m+1)<=900000){r':Z4 τ}{e:Ending}{w':World}(h1:e = .returned (.int .i64 ((k+1:Nat):Int)))(h2:vh b A0 q g gv G F S Inv r' w')(h3:Fr G G W w')(a1:r'.out=r.out)(a2:r'.stk=r.stk) :
  OQ G (VmI w0 b A0 q g gv G F S Inv m) (VmJ w0 b A0 q g gv G F S Inv) (EN Inv S b) (.go (k+1) r') W e w':=by
 have k2:r.out.length+m*5000<=900000000:=Ls hl;have k3:r.stk.length+m<=900000:=C8 hs;exact⟨⟨h1,h2,hf.trans h3,by simp only[a1];exact k2,by simp only[a2];exact k3⟩,h3⟩
theorem Ft{m p:Nat}(hf:Fr G G w0 W)(hl:r.out.length+(m+1)*5000<=900000000)(hs:r.stk.length+(m+1)<=900000){r':Z4 τ}{e:Ending}{w':World}(h1:e = .returned (.int .i64 (Jl s p)))(h2:vh b A0 q g gv G F S Inv r' w')(h3:Fr G G W w')(a1:r'.out=r.out)(a2:r'.stk=r.stk) :
  OQ G (VmI w0 b A0 q g gv G F S Inv m) (VmJ w0 b A0 q g gv G F S Inv) (EN Inv S b) (Mw s (some p) r') W e w':=by
 have k2:r.out.length+m*5000<=900000000:=Ls hl;have k1:r.out.length<=900000000:=WX hl;have k3:r.stk.length+m<=900000:=C8 hs;refine⟨?_,h3⟩;simp only[Mw];subst h1;unfold Jl
 cases dF s.code s.code.length p with
 | none=>exact⟨rfl,h2,by simp only[a1];exact k1⟩
 | some k'=>exact⟨rfl,h2,hf.trans h3,by simp only[a1];exact k2,by simp only[a2];exact k3⟩
def ye7(r:Z4 τ)(k:Nat){α:Type}(fn:α->τ->Z4 τ)(res:Except (Nat×τ) (α×τ)):TZ (Z4 τ):=match res with | .error (n,s') => .err n { r with gs:=s' } | .ok (a,s') => .go (k+1) (fn a s')
theorem Pk{m:Nat}{α:Type}{fn:α->τ->Z4 τ}(hf:Fr G G w0 W)(hl:r.out.length+(m+1)*5000<=900000000)(hs:r.stk.length+(m+1)<=900000){res:Except (Nat×τ) (α×τ)}{e:Ending}{w':World}(h:Py b A0 q g gv G F S Inv r k fn res W e w'){o:TZ (Z4 τ)}
  (ho:o=ye7 r k fn res) :
  OQ G (VmI w0 b A0 q g gv G F S Inv m) (VmJ w0 b A0 q g gv G F S Inv) (EN Inv S b) o W e w':=by
 subst ho;obtain⟨h1,h2⟩:=h
 cases res with
 | error er=>exact⟨h1,h2⟩
 | ok a=>exact Rw hf hl hs h1.1 h1.2 h2
theorem Zy{α:Type}{l:List α}{t:α}(h:l.getLast? = some t):l=l.dropLast++[t]:=by
 obtain⟨ys,rfl⟩:=List.getLast?_eq_some_iff.1 h;simp
theorem iT{x:jG}{i:Nat}{r:Z4 τ}(h:Mw s x.tg[i]? r ≠ .bad):∃ p,x.tg[i]? = some p:=by
 cases hp:x.tg[i]? with
 | none=>rw[hp] at h;exact absurd rfl h
 | some p=>exact⟨p,rfl⟩
theorem ri(hE:bU w0 A0 b G q mb g s vC vI rs gv E F S Inv)(hT:iR s){m:Nat}(hI:VmI w0 b A0 q g gv G F S Inv (m+1) k r W)(hb:jn E s k r ≠ .bad) :
  Calls prog 87 #[.pointer (some ⟨b,0,none⟩),.int .i64 (k:Nat)] W (OQ G (VmI w0 b A0 q g gv G F S Inv m) (VmJ w0 b A0 q g gv G F S Inv) (EN Inv S b) (jn E s k r) W):=by
 obtain⟨hR,hf,hl,hs⟩:=hI;have CB:∀ {w w':World},Fr xI xI w w'->Fr G G w w':=fun h=>(h.tg (F'':=xI) (fun k hk=>hk.elim)).wide (fun k hk=>hk.elim)
 have dW:r.stk.length<=900000:=by omega
 have Xg:r.stk.length<=1000000:=by omega
 have Ha:r.out.length<=900000000:=by omega
 cases hk:s.code[k]? with
 | none=>exact absurd (by simp only[jn,hk]) hb
 | some x =>
  have vM:jn E s k r=uh E s x k r:=by simp only[jn,hk]
  rw[vM] at hb |-
  have Qn:x.op=0\/x.op=1\/x.op=2\/x.op=3\/x.op=4\/x.op=5\/x.op=6\/x.op=7\/x.op=8\/x.op=9\/x.op=10\/x.op=11\/12<=x.op:=by omega
  rcases Qn with uM|uM|uM|uM|uM|uM|uM|uM|uM|uM|uM|uM|uM
  .rw[show uh E s x k r = .fin r by unfold uh;rw[uM];rfl];obtain⟨v,st,cs,hO,oq⟩:=hR;refine(step_end hO (hE.prog W hf) hk uM hE.n1).mono ?_;rintro e w' ⟨rfl,rfl⟩;exact⟨⟨rfl,⟨v,st,cs,hO,oq⟩,Ha⟩,Fr.refl _ _⟩
  .cases hc:Yv s x with
   | none=>exact absurd (by unfold uh;rw[uM];simp only[hc]) hb
   | some t =>
    rw[show uh E s x k r = .go (k+1) { r with out:=r.out++t } by unfold uh;rw[uM];simp only[hc]];exact(iH hE hf hR hk uM hc Ha).mono fun e w' h=>Rw hf hl hs h.1 h.2.1 h.2.2
  .cases hc:Yv s x with
   | none=>exact absurd (by unfold uh;rw[uM];simp only[hc]) hb
   | some t =>
    refine(iI hE hf hR hk uM hc Ha).mono fun e w' h=>Pk hf hl hs h ?_
    unfold uh;rw[uM];simp only[hc];generalize Ze E t r.gs=z;rcases z with⟨n,g'⟩|⟨⟨t,num⟩,g'⟩<;>rfl
  .cases hc:Yv s x with
   | none=>exact absurd (by unfold uh;rw[uM];simp only[hc]) hb
   | some t =>
    refine(Lo hE hf hR hk uM hc Ha).mono fun e w' h=>Pk hf hl hs h ?_
    unfold uh;rw[uM];simp only[hc];generalize Zi E t r.gs=z;rcases z with⟨n,g'⟩|⟨v,g'⟩<;>rfl
  .cases hc:Yv s x with
   | none=>exact absurd (by unfold uh;rw[uM];simp only[hc]) hb
   | some t =>
    refine(Px hE hf hR hk uM hc dW).mono fun e w' h=>Pk hf hl hs h ?_
    unfold uh;rw[uM];simp only[hc];generalize Zi E t r.gs=z;rcases z with⟨n,g'⟩|⟨v,g'⟩<;>rfl
  .cases hc:r.stk.getLast? with
   | none=>exact absurd (by unfold uh;rw[uM];simp only[hc]) hb
   | some t =>
    rw[show uh E s x k r = .go (k+1) { r with stk:=r.stk.dropLast } by unfold uh;rw[uM];simp only[hc]];exact(Pz hE hf hR hk uM (Zy hc) Xg).mono fun e w' h=>Rw hf hl hs h.1 h.2.1 h.2.2
  .cases hc:r.stk.getLast? with
   | none=>exact absurd (by unfold uh;rw[uM];simp only[hc]) hb
   | some t =>
    rw[show uh E s x k r = .go (k+1) { r with out:=r.out++E.wr t.2 } by unfold uh;rw[uM];simp only[hc]];exact(Wf hE hf hR hk uM (Zy hc) Xg Ha).mono fun e w' h=>Rw hf hl hs h.1 h.2.1 h.2.2
  .cases hc:r.stk.getLast? with
   | none=>exact absurd (by unfold uh;rw[uM];simp only[hc]) hb
   | some t =>
    rw[show uh E s x k r=if dD t.1 x.v then Mw s x.tg[0]? r else .go (k+1) r by unfold uh;rw[uM];simp only[hc]] at hb |-
    obtain⟨p,hp⟩:∃ p,x.tg[0]? = some p:=⟨_,zv ((hT x (zg hk)).1 uM)⟩;rw[hp];refine(Pu hE hf hR hk uM hp (Zy hc) Xg).mono fun e w' h=>?_
    by_cases Hu:dD t.1 x.v=true
    .rw[if_pos Hu];exact Ft hf hl hs (by rw[h.1,if_pos Hu]) (hR.quiet hE h.2) (CB h.2) rfl rfl
    .rw[if_neg Hu];exact re hf hl hs (by rw[h.1,if_neg Hu]) (hR.quiet hE h.2) (CB h.2) rfl rfl
  .cases hc:r.stk.getLast? with
   | none=>exact absurd (by unfold uh;rw[uM];simp only[hc]) hb
   | some t =>
    rw[show uh E s x k r=Mw s x.tg[E.sort false t.2.2]? r by unfold uh;rw[uM];simp only[hc]] at hb |-
    obtain⟨p,hp⟩:=iT hb;rw[hp];exact(WZ hE hf hR hk uM (Zy hc) hp Xg).mono fun e w' h=>Ft hf hl hs h.1 (hR.quiet hE h.2) (CB h.2) rfl rfl
  .cases hc:r.stk.getLast? with
   | none=>exact absurd (by unfold uh;rw[uM];simp only[hc]) hb
   | some t =>
    rw[show uh E s x k r=Mw s x.tg[E.sort true t.2.2]? r by unfold uh;rw[uM];simp only[hc]] at hb |-
    obtain⟨p,hp⟩:=iT hb;rw[hp];exact(WY hE hf hR hk uM (Zy hc) hp Xg).mono fun e w' h=>Ft hf hl hs h.1 (hR.quiet hE h.2) (CB h.2) rfl rfl
  .cases hc:Yv s x with
   | none=>exact absurd (by unfold uh;rw[uM];simp only[hc]) hb
   | some t =>
    obtain⟨a1,a2,a3⟩:=(hT x (zg hk)).2 uM;have Jm:∀ u,∃ p,x.tg[VN s x u]? = some p:=fun u=>⟨_,zv (Nat.lt_of_le_of_lt (by unfold VN;exact zc zl (by simp)) a3)⟩
    refine(Lr hE hf hR hk uM hc a2 a1 Jm).mono fun e w' h=>?_
    rw[show uh E s x k r=(match Hg E t r.gs with | .error (e,g) => .err e { r with gs:=g } | .ok (t,g)=>Mw s x.tg[VN s x t]? { r with gs:=g }) by unfold uh;rw[uM];simp only[hc,a2,if_true];generalize Hg E t r.gs=z;rcases z with⟨n,g'⟩|⟨u,g'⟩<;>rfl];obtain⟨h1,h2⟩:=h
    cases hw:Hg E t r.gs with
    | error er =>
     rw[hw] at h1;exact⟨h1,h2⟩
    | ok p =>
     obtain⟨u,s'⟩:=p;rw[hw] at h1;obtain⟨p,hp⟩:=Jm u;show OQ _ _ _ _ (Mw s x.tg[VN s x u]? { r with gs:=s' }) _ _ _;rw[hp];exact Ft hf hl hs (h1.1 p hp) h1.2 h2 rfl rfl
  .rw[show uh E s x k r=Mw s x.tg[0]? r by unfold uh;rw[uM];rfl] at hb |-
   obtain⟨p,hp⟩:=iT hb;rw[hp];exact(step_goto hE hf hR hk uM hp).mono fun e w' h=>Ft hf hl hs h.1 (hR.quiet hE h.2) (CB h.2) rfl rfl
  .refine absurd ?_ hb;unfold uh;split<;>first|rfl|omega
end
def Fo.C9:Bool->Fo->Prop
 | _,.nil=>True
 | b,.text _ r=>r.C9 b
 | b,.hash r=>b=true/\r.C9 b
 | b,.put _ _ r=>r.C9 b
 | b,.num _ _ r=>r.C9 b
 | b,.br _ _ f _ _ bs r=>bs.uk=true/\bs.keys.Nodup/\qv∈bs.keys/\bs.C9 (decide (f≠0))/\r.C9 b
 | b,.uz _ _ m r=>m.vD=true/\m.C9 b/\r.C9 b
def S0(x:jG):Nat×Nat×Nat×List Nat×Nat:=(x.op,x.pos,x.v,x.k,x.tg.length)
theorem Yf(s:MkS)(i j n:Nat):(s.u7 i j).code[n]? = if i=n then (s.code[n]?).map (fun x=>{ x with tg:=x.tg.set j s.pos }) else s.code[n]? := by
 simp only[MkS.u7];rw[List.getElem?_modify];by_cases h:i=n
 .simp[h]
 .simp[h]
theorem iW(s:MkS)(i j:Nat):(s.u7 i j).code.length=s.code.length:=by simp[MkS.u7]
theorem xM(s:MkS)(op v:Nat)(k tg:List Nat):(s.put op v k tg).code=s.code++[⟨op,s.pos,v,k,tg⟩]:=rfl
theorem Zo(s:MkS):qi fun s'=>∀ (i:Nat) (x:jG),s.code[i]? = some x->∃ y,s'.code[i]? = some y/\S0 y=S0 x:=by
 refine⟨fun a op v k tg h i x hx=>?_,fun a t h i x hx=>?_,fun a i j h n x hx=>?_⟩
 .obtain⟨y,h1,h2⟩:=h i x hx;exact⟨y,by rw[xM,zy (z8.1 h1).1];exact h1,h2⟩
 .rw[(vY a t).2.1];exact h i x hx
 .obtain⟨y,h1,h2⟩:=h n x hx;rw[Yf];split
  .exact⟨_,by rw[h1];rfl,by rw[<-h2];simp[S0]⟩
  .exact⟨y,h1,h2⟩
theorem Zx(c:List Wd):qi fun s=>c <+: s.cs:=by
 refine⟨fun a op v k tg h=>h,fun a t h=>?_,fun a i j h=>h⟩;unfold MkS.const;split
 .exact h
 .exact h.trans (zM _ _)
def JG(s:MkS):Prop:=(∀ (i j:Nat) (x y:jG),i<j->s.code[i]? = some x->s.code[j]? = some y->x.pos<y.pos)/\∀ x∈s.code,x.pos<s.pos
theorem iA(x:jG):0<(uJ x).length:=by simp[uJ]
theorem WV:qi JG:=by
 refine⟨fun s op v k tg h=>?_,fun s t h=>?_,fun s i j h=>?_⟩
 .have hp:=iA ⟨op,s.pos,v,k,tg⟩;refine⟨fun i j x y hij hx hy=>?_,fun x hx=>?_⟩
  .rw[xM] at hx hy;rw[List.getElem?_append] at hx hy;split at hy
   .rw[if_pos (by omega)] at hx;exact h.1 i j x y hij hx hy
   .have hj:j - s.code.length=0:=by
     have:=(z8.1 hy).1;simp at this;omega
    rw[hj] at hy;simp at hy;subst hy;rw[if_pos (by omega)] at hx;exact h.2 x (zg hx)
  .show x.pos<s.pos+_;rw[xM,zZ,z7] at hx;rcases hx with hx|rfl
   .have:=h.2 x hx;omega
   .show s.pos<_;omega
 .obtain⟨-,z2,z3⟩:=vY s t;unfold JG;rw[z2,z3];exact h
 .have gx:∀ (n:Nat) (x:jG),(s.u7 i j).code[n]? = some x->∃ y,s.code[n]? = some y/\y.pos=x.pos:=by
   intro n x hx;rw[Yf] at hx;split at hx
   .cases hc:s.code[n]? with
    | none=>rw[hc] at hx;cases hx
    | some y=>rw[hc] at hx;cases hx;exact⟨y,rfl,rfl⟩
   .exact⟨x,hx,rfl⟩
  refine⟨fun a b x y hab hx hy=>?_,fun x hx=>?_⟩
  .obtain⟨x',h1,h2⟩:=gx a x hx;obtain⟨y',h3,h4⟩:=gx b y hy;rw[<-h2,<-h4];exact h.1 a b x' y' hab h1 h3
  .obtain⟨n,hn,e⟩:=zi.1 hx;obtain⟨x',h1,h2⟩:=gx n x (by rw[zv hn,e]);rw[<-h2];exact h.2 x' (zg h1)
theorem ie{s:MkS}(h:JG s){k:Nat}{x:jG}(hx:s.code[k]? = some x):dF s.code s.code.length x.pos=some k:=by
 have key:∀ n,k<n->n<=s.code.length->dF s.code n x.pos=some k:=by
  intro n;induction n with
  | zero=>intro h;omega
  | succ n ih =>
   intro h1 h2;simp only[dF];by_cases hk:k=n
   .subst hk;simp[hx]
   .obtain⟨y,hy⟩:∃ y,s.code[n]? = some y:=⟨_,zv (by omega)⟩;have:=h.1 k n x y (by omega) hx hy;rw[hy];rw[if_neg (by simp;omega)];exact ih (by omega) (by omega)
 exact key _ (z8.1 hx).1 (zk _)
def ud(l:List (Nat×Nat))(s:MkS):MkS:=l.foldl (fun s p=>s.u7 p.1 p.2) s
theorem qC:∀ (l:List (Nat×Nat)) (s:MkS),(ud l s).code.length=s.code.length/\(ud l s).pos=s.pos/\(ud l s).cs=s.cs
 | [],s=>⟨rfl,rfl,rfl⟩
 | p::l,s=>by
  obtain⟨a,b,c⟩:=qC l (s.u7 p.1 p.2);exact⟨a.trans (iW _ _ _),b,c⟩
theorem dE:∀ (l:List (Nat×Nat)) (s:MkS) (n:Nat),(∀ p∈l,p.1≠n)->(ud l s).code[n]? = s.code[n]?
 | [],s,n,_=>rfl
 | p::l,s,n,h=>by
  show(ud l (s.u7 p.1 p.2)).code[n]? = _;rw[dE l _ n (fun q hq=>h q (zf _ hq)),Yf,if_neg (h p (zQ ..))]
def slot(s:MkS)(p:Nat×Nat):Option Nat:=(s.code[p.1]?).bind fun x=>x.tg[p.2]?
theorem WU(s:MkS)(i j:Nat)(p:Nat×Nat):slot (s.u7 i j) p=if (i,j)=p/\(slot s p).isSome then some s.pos else slot s p:=by
 unfold slot;rw[Yf];by_cases h1:i=p.1
 .rw[if_pos h1]
  cases hc:s.code[p.1]? with
  | none=>simp
  | some x =>
   simp only[zn,Option.bind_some];rw[List.getElem?_set];by_cases h2:j=p.2
   .rw[if_pos h2];have:(i,j)=p:=by rw[h1,h2]
    by_cases h3:j<x.tg.length
    .rw[if_pos h3,if_pos ⟨this,by rw[<-h2,zv h3];rfl⟩]
    .have h4:x.tg[p.2]? = none:=List.getElem?_eq_none (by omega);rw[if_neg h3,h4,if_neg (by simp)]
   .rw[if_neg h2,if_neg (fun q=>h2 (by rw[<-q.1]))]
 .rw[if_neg h1,if_neg (fun q=>h1 (by rw[<-q.1]))]
theorem fW:∀ (l:List (Nat×Nat)) (s:MkS) (p:Nat×Nat),slot (ud l s) p=if p∈l/\(slot s p).isSome then some s.pos else slot s p
 | [],s,p=>by simp[ud]
 | q::l,s,p=>by
  show slot (ud l (s.u7 q.1 q.2)) p=_;rw[fW l,WU];have hp:(s.u7 q.1 q.2).pos=s.pos:=rfl;rw[hp];by_cases h1:(slot s p).isSome
  .by_cases h2:(q.1,q.2)=p
   .have:p∈q::l:=by rw[<-h2];exact zQ ..
    simp[h1,h2,this]
   .have h3:¬q=p:=fun e=>h2 (by rw[<-e])
    have h4:¬p=q:=fun e=>h3 e.symm
    simp[h1,h2,h4]
  .have h5:slot s p=none:=by simpa using h1
   simp[h5]
theorem Fh(s:MkS)(op v:Nat)(k tg:List Nat)(p:Nat×Nat)(h:p.1<s.code.length):slot (s.put op v k tg) p=slot s p:=by
 unfold slot;rw[xM,zy h]
theorem Gb{s s':MkS}{p:Nat×Nat}(h:s'.code[p.1]? = s.code[p.1]?):slot s' p=slot s p:=by unfold slot;rw[h]
def Steps{σ:Type}(F:Nat->σ->TZ σ)(k:Nat)(r:σ)(k':Nat)(r':σ):Prop:=∃ n,n+k<=k'/\∀ fuel,QY F (fuel+n) k r=QY F fuel k' r'
section
variable {σ:Type} {F:Nat->σ->TZ σ}
theorem Steps.refl(k:Nat)(r:σ):Steps F k r k r:=⟨0,by omega,fun _=>rfl⟩
theorem Steps.trans{k k1 k2:Nat}{r r1 r2:σ}(h:Steps F k r k1 r1)(h2:Steps F k1 r1 k2 r2):Steps F k r k2 r2:=by
 obtain⟨n,hk,hn⟩:=h;obtain⟨m,Nx,hm⟩:=h2;exact⟨m+n,by omega,fun fuel=>by rw[<-Nat.add_assoc,hn,hm]⟩
theorem Steps.one{k k':Nat}{r r':σ}(h:F k r = .go k' r')(hk:k<k':=by omega):Steps F k r k' r':=⟨1,by omega,fun fuel=>by rw[QY,h]⟩
end
section
variable {τ:Type} {F:Nat->Z4 τ->TZ (Z4 τ)}
def Jn(F:Nat->Z4 τ->TZ (Z4 τ))(k:Nat)(r:Z4 τ)(k':Nat)(stk:List (vq×vq)):Except (Nat×τ) (Wd×τ)->Prop
 | .ok (o,g)=>Steps F k r k' ⟨o,stk,g⟩
 | .error (n,g)=>∃ m r',m+k<=k'/\(∀ fuel,QY F (fuel+m) k r=some (.error (n,r')))/\r'.gs=g
theorem Jn.after{k k1 k':Nat}{r r1:Z4 τ}{stk:List (vq×vq)}{res:Except (Nat×τ) (Wd×τ)}(h:Steps F k r k1 r1)(h2:Jn F k1 r1 k' stk res):Jn F k r k' stk res:=by
 cases res with
 | ok p=>exact h.trans h2
 | error e =>
  obtain⟨n,hk,hn⟩:=h;obtain⟨m,r',Nx,hm,hg⟩:=h2;exact⟨m+n,r',by omega,fun fuel=>by rw[<-Nat.add_assoc,hn,hm],hg⟩
theorem Jn.err{k k' n:Nat}{r r':Z4 τ}{stk:List (vq×vq)}(h:F k r = .err n r')(hk:k<k':=by omega):Jn F k r k' stk (.error (n,r'.gs)):=⟨1,r',by omega,fun fuel=>by rw[QY,h],rfl⟩
theorem Jn.far{k k1 k':Nat}{r:Z4 τ}{stk:List (vq×vq)}{e:Nat×τ}{ye8:List (vq×vq)}(h:Jn F k r k1 stk (.error e))(hk:k1<=k'):Jn F k r k' ye8 (.error e):=by
 obtain⟨m,r',h1,h2,h3⟩:=h;exact⟨m,r',by omega,h2,h3⟩
end
theorem go_msg:∀ (f:Fo),f.vD=true->∀ (bg:Wd->MkS->MkS) (s:MkS) (ls:List Nat),MkS.qq f bg s ls=(MkS.dm f s,ls)
 | .nil,_,_,_,_=>rfl
 | .text t r,h,bg,s,ls=>go_msg r h bg _ ls
 | .hash r,h,bg,s,ls=>go_msg r h bg _ ls
 | .put n a r,h,bg,s,ls=>go_msg r h bg _ ls
 | .num n a r,h,bg,s,ls=>go_msg r h bg _ ls
 | .br n a f o c bs r,h,bg,s,ls=>by
  rw[MkS.dm,MkS.qq,MkS.qq];split
  .dsimp only;rw[go_msg r h bg,go_msg r h (fun _ s=>s)]
  .dsimp only;rw[go_msg r h bg,go_msg r h (fun _ s=>s)]
 | .uz k a m r,h,bg,s,ls=>by cases h
theorem ZO(l:List Nat)(s:MkS):l.foldl (fun s i=>MkS.u7 s i 0) s=ud (l.map fun i=>(i,0)) s:=by
 unfold ud;rw[yq]
def S1(ks:List Wd)(t:Nat)(key:Wd):List (Nat×Nat):=((zW 6).filter fun c=>decide (KQ.getD c []=key\/key=qv/\KQ.getD c [] ∉ ks)).map fun c=>(t,c)
theorem Pj(ks:List Wd)(t:Nat)(key:Wd)(s:MkS):MkS.Il ks t key s=ud (S1 ks t key) s:=by
 unfold ud S1 MkS.Il;rw[yq,List.foldl_filter];congr 1;funext s c;simp only[decide_eq_true_eq]
def JF(n:Wd)(bs:Fo)(s:MkS)(k:Wd):List (Nat×Nat):=[((MkS.gT n bs s).1.code.length,MkS.place bs.keys k)]
theorem fe(n:Wd)(bs:Fo)(s:MkS)(k:Wd)(x:MkS):MkS.bj n bs s k x=ud (JF n bs s k) x:=rfl
def Yd(n o:Wd)(bs:Fo)(s:MkS)(k:Wd):List (Nat×Nat) :=
 match (MkS.kP n o bs s).2.lookup k with
 | some i=>[(i,0)]
 | none=>S1 bs.keys (MkS.kP n o bs s).1.code.length k
theorem gY(n o:Wd)(bs:Fo)(s:MkS)(k:Wd)(x:MkS):MkS.jE n o bs s k x=ud (Yd n o bs s k) x:=by
 unfold MkS.jE Yd
 cases h:(MkS.kP n o bs s).2.lookup k with
 | some i=>rfl
 | none=>exact Pj _ _ _ _
theorem Yb(n:Wd)(bs:Fo)(s:MkS):(MkS.gT n bs s).1.code=s.code/\(MkS.gT n bs s).1.pos=s.pos:=by
 obtain⟨_,_,_,d,e⟩:=MkS.Qk bs (s.const n) [s.num n];obtain⟨_,z2,z3⟩:=vY s n;exact⟨d.trans z2,e.trans z3⟩
theorem bC:∀ (f:Fo) (s:MkS) (acc:List (Wd×Nat)),s.code <+: (MkS.qD f s acc).1.code/\acc <+: (MkS.qD f s acc).2/\∀ p∈(MkS.qD f s acc).2,p∈acc\/s.code.length<=p.2/\p.2<(MkS.qD f s acc).1.code.length
 | .uz k a m r,s,acc=>by
  rw[MkS.qD];split
  .obtain⟨h1,h2,h3⟩:=bC r (s.put 7 (xE k.tail) [] [0]) (acc++[(k,s.code.length)]);have hl:(s.put 7 (xE k.tail) [] [0]).code.length=s.code.length+1:=by simp[xM]
   have:=h1.length_le;refine⟨(show s.code <+: (s.put 7 (xE k.tail) [] [0]).code from zM _ _).trans h1,(zM _ _).trans h2,fun p hp=>?_⟩;rcases h3 p hp with q|q
   .rw[zZ,z7] at q;rcases q with q|rfl
    .exact .inl q
    .exact .inr ⟨zk _,by show s.code.length<_;omega⟩
   .exact .inr ⟨by omega,q.2⟩
  .exact bC r s acc
 | .nil,s,acc=>⟨zx _,zx _,fun p hp => .inl hp⟩
 | .text _ _,s,acc=>⟨zx _,zx _,fun p hp => .inl hp⟩
 | .hash _,s,acc=>⟨zx _,zx _,fun p hp => .inl hp⟩
 | .put _ _ _,s,acc=>⟨zx _,zx _,fun p hp => .inl hp⟩
 | .num _ _ _,s,acc=>⟨zx _,zx _,fun p hp => .inl hp⟩
 | .br _ _ _ _ _ _ _,s,acc=>⟨zx _,zx _,fun p hp => .inl hp⟩
theorem YZ{l:List (Wd×Nat)}{k:Wd}{i:Nat}(h:l.lookup k=some i):(k,i)∈l:=by
 induction l with
 | nil=>cases h
 | cons p l ih =>
  obtain⟨a,b⟩:=p;rw[zX] at h
  cases hk:k==a
  .rw[hk] at h;exact zf _ (ih h)
  .rw[hk] at h;cases h;rw[beq_iff_eq] at hk;subst hk;exact zQ ..
theorem il{l l':List (Wd×Nat)}{k:Wd}{i:Nat}(h:l.lookup k=some i)(hp:l <+: l'):l'.lookup k=some i:=by
 obtain⟨t,rfl⟩:=hp;induction l with
 | nil=>cases h
 | cons p l ih =>
  obtain⟨a,b⟩:=p;rw[zX] at h;rw[zO,zX]
  cases hk:k==a
  .rw[hk] at h;exact ih h
  .rw[hk] at h;exact h
theorem WQ{l:List (Wd×Nat)}{k:Wd}(h:l.lookup k=none)(i:Nat):(l++[(k,i)]).lookup k=some i:=by
 induction l with
 | nil=>rw[yx,zX,beq_self_eq_true]
 | cons p l ih =>
  obtain⟨a,b⟩:=p;rw[zX] at h;rw[zO,zX]
  cases hk:k==a
  .rw[hk] at h;exact ih h
  .rw[hk] at h;cases h
theorem EP{l:List (Wd×Nat)}{k k':Wd}(h:l.lookup k=none)(hn:k≠k')(i:Nat):(l++[(k',i)]).lookup k=none:=by
 induction l with
 | nil =>
  rw[yx,zX,show(k==k')=false from beq_eq_false_iff_ne.2 hn];rfl
 | cons p l ih =>
  obtain⟨a,b⟩:=p;rw[zX] at h;rw[zO,zX]
  cases hk:k==a
  .rw[hk] at h;exact ih h
  .rw[hk] at h;cases h
theorem Ko(n o:Wd)(bs:Fo)(s:MkS):s.code.length+1<=(MkS.kP n o bs s).1.code.length/\(∀ (i:Nat) (x:jG),s.code[i]? = some x->(MkS.kP n o bs s).1.code[i]? = some x)/\∀ k,∀ p∈Yd n o bs s k,s.code.length+1<=p.1/\p.1<=(MkS.kP n o bs s).1.code.length:=by
 obtain⟨h1,h2,h3⟩:=bC bs ((s.const n).put 4 (xE o) [s.num n] []) [];have hl:((s.const n).put 4 (xE o) [s.num n] []).code.length=s.code.length+1:=by simp[xM,(vY s n).2.1]
 have hle:=h1.length_le;rw[hl] at hle h3;refine⟨hle,fun i x hx=>?_,fun k p hp=>?_⟩
 .obtain⟨t,ht⟩:=h1;show(MkS.qD bs ((s.const n).put 4 (xE o) [s.num n] []) []).1.code[i]? = some x;rw[<-ht,zy (by rw[hl];have:=(z8.1 hx).1;omega),xM,(vY s n).2.1,zy (z8.1 hx).1];exact hx
 .unfold Yd at hp;split at hp
  .next i hi =>
   rw[z7] at hp;subst hp;rcases h3 _ (YZ hi) with q|q
   .cases q
   .exact⟨q.1,Nat.le_of_lt q.2⟩
  .obtain⟨c,_,rfl⟩:=zV.1 hp;exact⟨hle,zk _⟩
theorem go_facts:∀ (f:Fo) (sl:Wd->List (Nat×Nat)) (bg:Wd->MkS->MkS),(∀ k x,bg k x=ud (sl k) x)->∀ (s:MkS) (ls:List Nat),
  s.code.length<=(MkS.qq f bg s ls).1.code.length/\(∀ e∈(MkS.qq f bg s ls).2,e∈ls\/s.code.length<=e/\e<(MkS.qq f bg s ls).1.code.length)/\(∀ e∈ls,e∈(MkS.qq f bg s ls).2) /\
  ∀ i,i<s.code.length->(∀ k,∀ p∈sl k,p.1≠i)->(MkS.qq f bg s ls).1.code[i]? = s.code[i]?
 | .nil,sl,bg,hb,s,ls=>⟨zk _,fun e he => .inl he,fun e he=>he,fun _ _ _=>rfl⟩
 | .text t r,sl,bg,hb,s,ls=>by
  have hl:(s.one 1 t).code=s.code++[⟨1,(s.const t).pos,0,[s.num t],[]⟩]:=by rw[MkS.one,xM,(vY s t).2.1]
  exact go_more (x:=⟨1,(s.const t).pos,0,[s.num t],[]⟩) hl (go_facts r sl bg hb (s.one 1 t) ls)
 | .hash r,sl,bg,hb,s,ls=>go_more rfl (go_facts r sl bg hb (s.put 6 0 [] []) ls)
 | .put n a r,sl,bg,hb,s,ls=>by
  have hl:(s.one 2 n).code=s.code++[⟨2,(s.const n).pos,0,[s.num n],[]⟩]:=by rw[MkS.one,xM,(vY s n).2.1]
  exact go_more hl (go_facts r sl bg hb (s.one 2 n) ls)
 | .num n a r,sl,bg,hb,s,ls=>by
  have hl:(s.one 3 n).code=s.code++[⟨3,(s.const n).pos,0,[s.num n],[]⟩]:=by rw[MkS.one,xM,(vY s n).2.1]
  exact go_more hl (go_facts r sl bg hb (s.one 3 n) ls)
 | .br n a f o c bs r,sl,bg,hb,s,ls=>by
  rw[MkS.qq];split
  .have hS:(MkS.kY n bs s).code=s.code++[⟨10,(MkS.gT n bs s).1.pos,0,(MkS.gT n bs s).2,zG (MkS.gT n bs s).2.length 0⟩]:=by rw[MkS.kY,xM,(Yb n bs s).1]
   have hlen:(MkS.kY n bs s).code.length=s.code.length+1:=by rw[hS];simp
   obtain⟨a1,a2,a3,a4⟩:=go_facts bs (JF n bs s) (MkS.bj n bs s) (fe n bs s) (MkS.kY n bs s) [];dsimp only;rw[ZO];refine go_join (n:=s.code.length) ?_ ?_ (go_facts r sl bg hb _ ls)
   .rw[(qC _ _).1];omega
   .intro i hi;rw[dE _ _ _ (fun p hp=>?_),a4 i (by omega) (fun k p hp=>?_),hS,zy hi]
    .rw[JF,z7] at hp;subst hp;show(MkS.gT n bs s).1.code.length≠i;rw[(Yb n bs s).1];omega
    .obtain⟨e,he,rfl⟩:=zV.1 hp;rcases a2 e he with q|q
     .cases q
     .show e≠i;omega
  .obtain⟨b1,b2,b3⟩:=Ko n o bs s;have hS:(MkS.qM n o f bs s).code=(MkS.kP n o bs s).1.code++[⟨if f=2 then 9 else 8,(MkS.kP n o bs s).1.pos,0,[],zG 6 0⟩]:=by rw[MkS.qM,xM]
   have hlen:(MkS.qM n o f bs s).code.length=(MkS.kP n o bs s).1.code.length+1:=by rw[hS];simp
   obtain⟨a1,a2,a3,a4⟩:=go_facts bs (Yd n o bs s) (MkS.jE n o bs s) (gY n o bs s) (MkS.qM n o f bs s) [];dsimp only;rw[ZO];refine go_join (n:=s.code.length) ?_ ?_ (go_facts r sl bg hb _ ls)
   .rw[xM,zJ,(qC _ _).1];omega
   .intro i hi;obtain⟨x,hx⟩:∃ x,s.code[i]? = some x:=⟨_,zv hi⟩;rw[xM,zy (by rw[(qC _ _).1];omega),dE _ _ _ (fun p hp=>?_),a4 i (by omega) (fun k p hp=>?_),hS,zy (by omega),b2 i x hx,hx]
    .have:=b3 k p hp;omega
    .obtain⟨e,he,rfl⟩:=zV.1 hp;rcases a2 e he with q|q
     .cases q
     .show e≠i;omega
 | .uz k a m r,sl,bg,hb,s,ls=>by
  rw[MkS.qq];rw[hb];obtain⟨a1,a2,a3,a4⟩:=go_facts m (fun _=>[]) (fun _ s=>s) (fun _ _=>rfl) (ud (sl k) s) [];rw[(qC _ _).1] at a1 a2 a4;obtain⟨c1,c2,c3,c4⟩:=go_facts r sl bg hb ((MkS.qq m (fun _ s=>s) (ud (sl k) s) []).1.put 11 0 [] [0]) (ls++[(MkS.qq m (fun _ s=>s) (ud (sl k) s) []).1.code.length]);rw[xM,zJ] at c1 c2 c4;simp only[zw,List.length_nil] at c1 c2 c4;refine⟨by omega,fun e he=>?_,fun e he=>c3 e (List.mem_append_left _ he),fun i hi hp=>?_⟩
  .rcases c2 e he with q|q
   .rw[zZ,z7] at q;rcases q with q|rfl
    .exact .inl q
    .exact .inr ⟨by omega,by omega⟩
   .exact .inr ⟨by omega,q.2⟩
  .rw[c4 i (by omega) hp,zy (by omega),a4 i hi (fun _ _ q=>by cases q),dE _ _ _ (fun p h=>hp k p h)]
where
 go_join {n:Nat} {s s':MkS} {ls:List Nat} {r:MkS×List Nat} {sl:Wd->List (Nat×Nat)} (h1:s.code.length<=s'.code.length) (h2:∀ i,i<s.code.length->s'.code[i]? = s.code[i]?)
   (h:s'.code.length<=r.1.code.length/\(∀ e∈r.2,e∈ls\/s'.code.length<=e/\e<r.1.code.length)/\(∀ e∈ls,e∈r.2)/\∀ i,i<s'.code.length->(∀ k,∀ p∈sl k,p.1≠i)->r.1.code[i]? = s'.code[i]?) :
   s.code.length<=r.1.code.length/\(∀ e∈r.2,e∈ls\/s.code.length<=e/\e<r.1.code.length)/\(∀ e∈ls,e∈r.2)/\∀ i,i<s.code.length->(∀ k,∀ p∈sl k,p.1≠i)->r.1.code[i]? = s.code[i]? := by
  obtain⟨a,b,c,d⟩:=h;exact⟨by omega,fun e he=>(b e he).imp id (fun q=>⟨by omega,q.2⟩),c,fun i hi hp=>(d i (by omega) hp).trans (h2 i hi)⟩
 go_more {s s':MkS} {x:jG} {ls:List Nat} {r:MkS×List Nat} {sl:Wd->List (Nat×Nat)} (hx:s'.code=s.code++[x])
   (h:s'.code.length<=r.1.code.length/\(∀ e∈r.2,e∈ls\/s'.code.length<=e/\e<r.1.code.length)/\(∀ e∈ls,e∈r.2)/\∀ i,i<s'.code.length->(∀ k,∀ p∈sl k,p.1≠i)->r.1.code[i]? = s'.code[i]?) :
   s.code.length<=r.1.code.length/\(∀ e∈r.2,e∈ls\/s.code.length<=e/\e<r.1.code.length)/\(∀ e∈ls,e∈r.2)/\∀ i,i<s.code.length->(∀ k,∀ p∈sl k,p.1≠i)->r.1.code[i]? = s.code[i]? :=
  go_join (n:=0) (by rw[hx];simp) (fun i hi=>by rw[hx,zy hi]) h
theorem gH{P:MkS->Prop}(I:qi P)(l:List (Nat×Nat))(s:MkS)(h:P s):P (ud l s):=MkS.fM P _ (fun s p hs=>I.u7 s p.1 p.2 hs) l s h
theorem go_inv{P:MkS->Prop}(I:qi P)(f:Fo){sl:Wd->List (Nat×Nat)}{bg:Wd->MkS->MkS}(hb:∀ k x,bg k x=ud (sl k) x)(s:MkS)(ls:List Nat)(h:P s):P (MkS.qq f bg s ls).1 :=
 I.go f bg s ls (fun k s hs=>by rw[hb];exact gH I _ _ hs) h
theorem ER{P:MkS->Prop}(I:qi P)(f:Fo)(s:MkS)(h:P s):P (MkS.dm f s):=I.go f _ s [] (fun _ _ h=>h) h
theorem QP(s:MkS):∀ (i:Nat) (x:jG),s.code[i]? = some x->∃ y,s.code[i]? = some y/\S0 y=S0 x:=fun i x h=>⟨x,h,rfl⟩
theorem gI(f:Fo)(s:MkS):s.code.length<=(MkS.dm f s).code.length/\∀ i,i<s.code.length->(MkS.dm f s).code[i]? = s.code[i]? := by
 obtain⟨a,_,_,d⟩:=go_facts f (fun _=>[]) (fun _ s=>s) (fun _ _=>rfl) s [];exact⟨a,fun i hi=>d i hi (fun _ _ q=>by cases q)⟩
theorem S2(n:Wd)(a:Nat)(o:Wd)(c:Nat)(bs r:Fo)(s:MkS)(hr:r.vD=true) :
  MkS.dm (.br n a 0 o c bs r) s=MkS.dm r (ud ((MkS.qq bs (MkS.bj n bs s) (MkS.kY n bs s) []).2.map fun i=>(i,0)) (MkS.qq bs (MkS.bj n bs s) (MkS.kY n bs s) []).1):=by
 rw[MkS.dm,MkS.qq,if_pos rfl,go_msg r hr,<-ZO]
theorem S3(n:Wd)(a f:Nat)(o:Wd)(c:Nat)(bs r:Fo)(s:MkS)(hf:f≠0)(hr:r.vD=true) :
  MkS.dm (.br n a f o c bs r) s=MkS.dm r ((ud ((MkS.qq bs (MkS.jE n o bs s) (MkS.qM n o f bs s) []).2.map fun i=>(i,0)) (MkS.qq bs (MkS.jE n o bs s) (MkS.qM n o f bs s) []).1).put 5 0 [] []):=by
 rw[MkS.dm,MkS.qq,if_neg hf,go_msg r hr,<-ZO]
theorem Cz(n:Wd)(bs:Fo)(s:MkS):(MkS.kY n bs s).code=s.code++[⟨10,s.pos,0,(MkS.gT n bs s).2,zG (MkS.gT n bs s).2.length 0⟩]:=by
 rw[MkS.kY,xM,(Yb n bs s).1,(Yb n bs s).2]
theorem Cy(n o:Wd)(f:Nat)(bs:Fo)(s:MkS):(MkS.qM n o f bs s).code=(MkS.kP n o bs s).1.code++[⟨if f=2 then 9 else 8,(MkS.kP n o bs s).1.pos,0,[],zG 6 0⟩]:=rfl
theorem S4(n o:Wd)(bs:Fo)(s:MkS):(MkS.kP n o bs s).1.code[s.code.length]? = some ⟨4,s.pos,xE o,[s.num n],[]⟩:=by
 obtain⟨⟨t,ht⟩,_⟩:=bC bs ((s.const n).put 4 (xE o) [s.num n] []) [];rw[MkS.kP,<-ht,xM,(vY s n).2.1,(vY s n).2.2];rw[zr,zu (zk _)];simp
theorem Cx:∀ (f:Fo),f.vD=true->∀ (s:MkS),((MkS.dm f s).code.length=s.code.length/\(MkS.dm f s).pos=s.pos)\/∃ x,(MkS.dm f s).code[s.code.length]? = some x/\x.pos=s.pos:=by
 have key:∀ (r:Fo) (s s':MkS) (x:jG),s'.code[s.code.length]? = some x->x.pos=s.pos->∃ x,(MkS.dm r s').code[s.code.length]? = some x/\x.pos=s.pos:=by
  intro r s s' x hx hp;exact⟨x,by rw[(gI r s').2 _ (z8.1 hx).1];exact hx,hp⟩
 have rp:∀ (s s':MkS) (op v:Nat) (k tg:List Nat),s'.code=s.code->s'.pos=s.pos->(s'.put op v k tg).code[s.code.length]? = some ⟨op,s.pos,v,k,tg⟩:=by
  intro s s' op v k tg h1 h2;rw[xM,h1,h2,zu (zk _)];simp
 intro f hf s
 cases f with
 | nil=>exact .inl ⟨rfl,rfl⟩
 | text t r=>exact .inr (key r s (s.one 1 t) _ (rp s (s.const t) _ _ _ _ (vY s t).2.1 (vY s t).2.2) rfl)
 | hash r=>exact .inr (key r s (s.put 6 0 [] []) _ (rp s s _ _ _ _ rfl rfl) rfl)
 | put n a r=>exact .inr (key r s (s.one 2 n) _ (rp s (s.const n) _ _ _ _ (vY s n).2.1 (vY s n).2.2) rfl)
 | num n a r=>exact .inr (key r s (s.one 3 n) _ (rp s (s.const n) _ _ _ _ (vY s n).2.1 (vY s n).2.2) rfl)
 | br n a f o c bs r =>
  right;by_cases h0:f=0
  .subst h0;rw[S2 n a o c bs r s hf];have h1:(MkS.kY n bs s).code[s.code.length]? = some ⟨10,s.pos,0,(MkS.gT n bs s).2,zG (MkS.gT n bs s).2.length 0⟩:=by
    rw[Cz,zu (zk _)];simp
   obtain⟨y,h2,h3⟩:=gH (Zo (MkS.kY n bs s)) ((MkS.qq bs (MkS.bj n bs s) (MkS.kY n bs s) []).2.map fun i=>(i,0)) _ (go_inv (Zo (MkS.kY n bs s)) bs (fe n bs s) _ [] (QP _)) _ _ h1;exact key r s _ y h2 (by simp only[S0,zt] at h3;exact h3.2.1)
  .rw[S3 n a f o c bs r s h0 hf];have h1:(MkS.qM n o f bs s).code[s.code.length]? = some ⟨4,s.pos,xE o,[s.num n],[]⟩:=by
    have:=(Ko n o bs s).1;rw[Cy,zy (by omega)];exact S4 n o bs s
   obtain⟨y,h2,h3⟩:=(Zo (MkS.qM n o f bs s)).put _ 5 0 [] [] (gH (Zo (MkS.qM n o f bs s)) ((MkS.qq bs (MkS.jE n o bs s) (MkS.qM n o f bs s) []).2.map fun i=>(i,0)) _ (go_inv (Zo (MkS.qM n o f bs s)) bs (gY n o bs s) _ [] (QP _))) _ _ h1;exact key r s _ y h2 (by simp only[S0,zt] at h3;exact h3.2.1)
 | uz k a m r=>cases hf
theorem Cv:∀ (f:Fo) (sl:Wd->List (Nat×Nat)) (bg:Wd->MkS->MkS),(∀ k x,bg k x=ud (sl k) x)->f.uk=true->∀ (s:MkS) (ls:List Nat) (q:Nat×Nat),q.1<s.code.length->(∀ k∈f.keys,q ∉ sl k)->slot (MkS.qq f bg s ls).1 q=slot s q
 | .uz k a m r,sl,bg,hb,hl,s,ls,q,hq,hk=>by
  rw[MkS.qq,hb];obtain⟨a1,a2⟩:=gI m (ud (sl k) s);rw[(qC _ _).1] at a1 a2;show slot (MkS.qq r bg ((MkS.dm m (ud (sl k) s)).put 11 0 [] [0]) _).1 q=_;rw[Cv r sl bg hb hl _ _ q (by rw[xM,zJ];omega) (fun k' h'=>hk k' (zf _ h')),Fh _ _ _ _ _ _ (by omega),Gb (a2 _ hq),fW,if_neg (fun e=>hk k (zQ ..) e.1)]
 | .nil,_,_,_,_,_,_,_,_,_=>rfl
 | .text _ _,_,_,_,h,_,_,_,_,_=>by cases h
 | .hash _,_,_,_,h,_,_,_,_,_=>by cases h
 | .put _ _ _,_,_,_,h,_,_,_,_,_=>by cases h
 | .num _ _ _,_,_,_,h,_,_,_,_,_=>by cases h
 | .br _ _ _ _ _ _ _,_,_,_,h,_,_,_,_,_=>by cases h
theorem Fw:∀ (f:Fo) (s:MkS) (acc:List (Wd×Nat)),∀ p∈(MkS.qD f s acc).2,p∈acc\/p.1.head? = some 61
 | .uz k a m r,s,acc,p,hp=>by
  rw[MkS.qD] at hp;split at hp
  .next hk =>
   rcases Fw r _ _ p hp with q|q
   .rw[zZ,z7] at q;rcases q with q|rfl
    .exact .inl q
    .exact .inr hk
   .exact .inr q
  .exact Fw r s acc p hp
 | .nil,_,_,_,hp => .inl hp
 | .text _ _,_,_,_,hp => .inl hp
 | .hash _,_,_,_,hp => .inl hp
 | .put _ _ _,_,_,_,hp => .inl hp
 | .num _ _ _,_,_,_,hp => .inl hp
 | .br _ _ _ _ _ _ _,_,_,_,hp => .inl hp
theorem ES:∀ (f:Fo) (s:MkS) (acc:List (Wd×Nat)),(∀ p∈acc,p.2<s.code.length)->(∀ p∈acc,∀ q∈acc,p.2=q.2->p=q)->∀ p∈(MkS.qD f s acc).2,∀ q∈(MkS.qD f s acc).2,p.2=q.2->p=q
 | .uz k a m r,s,acc,h1,h2=>by
  rw[MkS.qD];split
  .refine ES r _ _ (fun p hp=>?_) (fun p hp q hq e=>?_)
   .rw[xM,zJ];rw[zZ,z7] at hp;rcases hp with hp|rfl
    .have:=h1 p hp;simp;omega
    .simp
   .rw[zZ,z7] at hp hq;rcases hp with hp|rfl
    .rcases hq with hq|rfl
     .exact h2 p hp q hq e
     .have:=h1 p hp;simp only at e;omega
    .rcases hq with hq|rfl
     .have:=h1 q hq;simp only at e;omega
     .rfl
  .exact ES r s acc h1 h2
 | .nil,_,_,_,h2=>h2
 | .text _ _,_,_,_,h2=>h2
 | .hash _,_,_,_,h2=>h2
 | .put _ _ _,_,_,_,h2=>h2
 | .num _ _ _,_,_,_,h2=>h2
 | .br _ _ _ _ _ _ _,_,_,_,h2=>h2
section
variable {τ:Type} {E:qJ τ} {s:MkS}
def eqP(v:vq)(k:Wd):Bool:=decide (k.head? = some 61) && dD v (xE k.tail)
theorem qo{k:Nat}{x:jG}(h:s.code[k]? = some x)(r:Z4 τ):jn E s k r=uh E s x k r:=by unfold jn;rw[h]
theorem QR(h:JG s){k:Nat}{x:jG}(hx:s.code[k]? = some x){p:Nat}(hp:x.pos=p)(r:Z4 τ):Mw s (some p) r = .go k r:=by
 subst hp;simp only[Mw,ie h hx]
theorem ft{x y:jG}(h:S0 y=S0 x):y.op=x.op/\y.pos=x.pos/\y.v=x.v/\y.k=x.k/\y.tg.length=x.tg.length:=by
 simpa[S0] using h
theorem ET(v z:vq):∀ (bs:Fo) (s0:MkS) (acc:List (Wd×Nat)),bs.uk=true->bs.keys.Nodup->(∀ k∈bs.keys,acc.lookup k=none)->(∀ (i:Nat) (x:jG),s0.code.length<=i->(MkS.qD bs s0 acc).1.code[i]? = some x->∃ y,s.code[i]? = some y/\S0 y=S0 x) ->
  match bs.keys.find? (eqP v) with
  | none=>∀ (o:Wd) (g:τ) (stk:List (vq×vq)),stk.getLast? = some (v,z)->Steps (jn E s) s0.code.length ⟨o,stk,g⟩ (MkS.qD bs s0 acc).1.code.length ⟨o,stk,g⟩
  | some k=>∃ i x,(MkS.qD bs s0 acc).2.lookup k=some i/\(MkS.qD bs s0 acc).1.code[i]? = some x/\x.op=7/\x.tg.length=1/\dD v x.v=true /\
    ∀ (o:Wd) (g:τ) (stk:List (vq×vq)),stk.getLast? = some (v,z)->Steps (jn E s) s0.code.length ⟨o,stk,g⟩ i ⟨o,stk,g⟩
 | .uz k a m r,s0,acc,hl,hd,ha,hs=>by
  have o9:=yy.1 (show(k::r.keys).Nodup from hd);rw[show(Fo.uz k a m r).keys=k::r.keys from rfl,List.find?_cons];rw[MkS.qD] at hs |-
  by_cases hk:k.head? = some 61
  .rw[if_pos hk] at hs |-
   obtain⟨⟨t,ht⟩,h2,h3⟩:=bC r (s0.put 7 (xE k.tail) [] [0]) (acc++[(k,s0.code.length)]);have hx:(MkS.qD r (s0.put 7 (xE k.tail) [] [0]) (acc++[(k,s0.code.length)])).1.code[s0.code.length]? = some ⟨7,s0.pos,xE k.tail,[],[0]⟩:=by
    rw[<-ht,xM,zr,zu (zk _)];simp
   obtain⟨y,hy,A1⟩:=hs _ _ (zk _) hx;obtain⟨e1,e2,e3,e4,e5⟩:=ft A1;have hp:eqP v k=dD v (xE k.tail):=by unfold eqP;simp[hk]
   cases jU:dD v (xE k.tail)
   .rw[hp,jU];have ih:=ET v z r (s0.put 7 (xE k.tail) [] [0]) (acc++[(k,s0.code.length)]) hl o9.2 (fun k' h'=>EP (ha k' (zf _ h')) (fun e=>o9.1 (by rw[<-e];exact h')) _) (fun i x hi=>hs i x (by rw[xM] at hi;simp at hi;omega));have hlen:(s0.put 7 (xE k.tail) [] [0]).code.length=s0.code.length+1:=by rw[xM];simp
    rw[hlen] at ih;have vM:∀ (o:Wd) (g:τ) (stk:List (vq×vq)),stk.getLast? = some (v,z)->Steps (jn E s) s0.code.length ⟨o,stk,g⟩ (s0.code.length+1) ⟨o,stk,g⟩:=by
     intro o g stk Xd;refine Steps.one ?_;rw[qo hy];unfold uh;rw[e1];simp only[Xd,e3,jU];rfl
    dsimp only;split at ih
    .next hf=>rw[hf];exact fun o g stk Xd=>(vM o g stk Xd).trans (ih o g stk Xd)
    .next k' hf =>
     rw[hf];obtain⟨i,x,h1,h2,h3,h4,h5,h6⟩:=ih;exact⟨i,x,h1,h2,h3,h4,h5,fun o g stk Xd=>(vM o g stk Xd).trans (h6 o g stk Xd)⟩
   .rw[hp,jU];exact⟨s0.code.length,_,il (WQ (ha k (zQ ..)) _) h2,hx,rfl,rfl,jU,fun o g stk Xd=>Steps.refl _ _⟩
  .rw[if_neg hk] at hs |-
   have hp:eqP v k=false:=by unfold eqP;simp[hk]
   rw[hp];exact ET v z r s0 acc hl o9.2 (fun k' h'=>ha k' (zf _ h')) hs
 | .nil,s0,acc,_,_,_,_=>fun o g stk _=>Steps.refl _ _
 | .text _ _,_,_,h,_,_,_=>by cases h
 | .hash _,_,_,h,_,_,_=>by cases h
 | .put _ _ _,_,_,h,_,_,_=>by cases h
 | .num _ _ _,_,_,h,_,_,_=>by cases h
 | .br _ _ _ _ _ _ _,_,_,h,_,_,_=>by cases h
end
def zzk{τ:Type}(E:qJ τ)(f:Fo):Prop:=f.vD=true->∀ (b:Bool),f.C9 b->∀ (s0 s:MkS),
 (∀ i,s0.code.length<=i->i<(MkS.dm f s0).code.length->s.code[i]? = (MkS.dm f s0).code[i]?)->(MkS.dm f s0).cs <+: s.cs->JG s->(∃ x,s.code[(MkS.dm f s0).code.length]? = some x/\x.pos=(MkS.dm f s0).pos) ->
 ∀ (k:Wd) (x:vq) (o:Wd) (g:τ) (stk:List (vq×vq)),(b=true->∃ n,stk.getLast? = some (n,x))->Jn (jn E s) s0.code.length ⟨o,stk,g⟩ (MkS.dm f s0).code.length stk (kT E f k x o g)
def zzj{τ:Type}(E:qJ τ)(bs:Fo):Prop:=bs.uk=true->∀ (b:Bool),bs.C9 b->∀ (sl:Wd->List (Nat×Nat)) (bg:Wd->MkS->MkS),(∀ k x,bg k x=ud (sl k) x)->∀ (s2:MkS) (ls:List Nat) (K:Wd),bs.keys.Nodup->K∈bs.keys ->
 (∀ k,∀ p∈sl k,p.1<s2.code.length)->(∀ e∈ls,e<s2.code.length) ->
 ∃ a p e xa xe,s2.code.length<=a/\a<=e/\e<(MkS.qq bs bg s2 ls).1.code.length/\e∈(MkS.qq bs bg s2 ls).2/\(∀ i,a<=i->i<e->i ∉ (MkS.qq bs bg s2 ls).2) /\
  (MkS.qq bs bg s2 ls).1.code[e]? = some xe/\xe.op=11/\xe.tg.length=1/\(MkS.qq bs bg s2 ls).1.code[a]? = some xa/\xa.pos=p /\
  (∀ q∈sl K,(slot s2 q).isSome->(∀ k'∈bs.keys,k'≠K->q ∉ sl k')->slot (MkS.qq bs bg s2 ls).1 q=some p) /\
  ∀ s:MkS,(∀ i,a<=i->i<e->s.code[i]? = (MkS.qq bs bg s2 ls).1.code[i]?)->(∃ z,s.code[e]? = some z/\z.pos=xe.pos)->(MkS.qq bs bg s2 ls).1.cs <+: s.cs->JG s ->
   ∀ (x:vq) (o:Wd) (g:τ) (stk:List (vq×vq)),(b=true->∃ n,stk.getLast? = some (n,x))->Jn (jn E s) a ⟨o,stk,g⟩ e stk (kT E bs K x o g)
section
variable {τ:Type} {E:qJ τ}
theorem QS{r:Fo}(hr:zzk E r)(hm:r.vD=true){b:Bool}(hv:r.C9 b){s0 s1 s:MkS}{x:jG}(h1:s1.code=s0.code++[x])(ha:∀ i,s0.code.length<=i->i<(MkS.dm r s1).code.length->s.code[i]? = (MkS.dm r s1).code[i]?)(dT:(MkS.dm r s1).cs <+: s.cs)(hp:JG s)
  (hn:∃ x,s.code[(MkS.dm r s1).code.length]? = some x/\x.pos=(MkS.dm r s1).pos) {z:vq} {stk:List (vq×vq)} (hs:b=true->∃ n,stk.getLast? = some (n,z)) (k:Wd) :
  s.code[s0.code.length]? = some x/\s1.cs <+: s.cs/\s0.code.length<(MkS.dm r s1).code.length/\∀ (o:Wd) (g:τ),Jn (jn E s) (s0.code.length+1) ⟨o,stk,g⟩ (MkS.dm r s1).code.length stk (kT E r k z o g):=by
 have hl:s1.code.length=s0.code.length+1:=by rw[h1];simp
 obtain⟨a1,a2⟩:=gI r s1;refine⟨?_,(ER (Zx s1.cs) r s1 (zx _)).trans dT,by omega,fun o g=>?_⟩
 .rw[ha _ (zk _) (by omega),a2 _ (by omega),h1,zu (zk _)];simp
 .have:=hr hm b hv s1 s (fun i h1 h2=>ha i (by omega) h2) dT hp hn k z o g stk hs;rw[hl] at this;exact this
theorem EW{s0 s:MkS}(t:Wd)(h:(s0.const t).cs <+: s.cs):s.cs[s0.num t]? = some t:=by
 obtain⟨u,hu⟩:=h;have h1:(s0.const t).cs[s0.num t]? = some t:=by
  unfold MkS.const MkS.num;by_cases ht:t∈s0.cs
  .rw[if_pos ht];rw[zv (zU ht),zN]
  .rw[if_neg ht];simp only;rw[zF ht,zu (zk _)];simp
 rw[<-hu,zy (z8.1 h1).1];exact h1
theorem D0:∀ (bs:Fo) (s:MkS) (acc:List Nat) (c:List Wd),bs.uk=true->(MkS.j7 bs s acc).1.cs <+: c->∃ t,(MkS.j7 bs s acc).2=acc++t/\t.map (fun j=>c[j]?)=(bs.keys.filter (· ≠ qv)).map some
 | .uz k a m r,s,acc,c,hl,hc=>by
  rw[MkS.j7] at hc |-
  rw[show(Fo.uz k a m r).keys=k::r.keys from rfl];by_cases hk:k=qv
  .rw[if_pos hk] at hc |-
   rw[List.filter_cons_of_neg (by simp[hk])];exact D0 r s acc c hl hc
  .rw[if_neg hk] at hc |-
   rw[List.filter_cons_of_pos (by simp[hk])];obtain⟨t,h1,h2⟩:=D0 r (s.const k) (acc++[s.num k]) c hl hc;have h3:(s.const k).cs <+: c:=((Zx (s.const k).cs).j7 r (s.const k) _ (zx _)).trans hc;refine⟨s.num k::t,by rw[h1];simp,?_⟩;rw[za,za,h2,EW (s:=⟨c,[],0⟩) k h3]
 | .nil,s,acc,c,_,_=>⟨[],by simp[MkS.j7],rfl⟩
 | .text _ _,_,_,_,h,_=>by cases h
 | .hash _,_,_,_,h,_=>by cases h
 | .put _ _ _,_,_,_,h,_=>by cases h
 | .num _ _ _,_,_,_,h,_=>by cases h
 | .br _ _ _ _ _ _ _,_,_,_,h,_=>by cases h
theorem im(l:List Wd)(t:Wd):(l.map some).idxOf (some t)=l.idxOf t:=by
 induction l with
 | nil=>rfl
 | cons a l ih =>
  rw[za,yv,yv,ih];rfl
theorem WK{ks:List Wd}{k k':Wd}(h:k∈ks)(h':k'∈ks)(he:MkS.place ks k=MkS.place ks k'):k=k':=by
 unfold MkS.place at he;have dI:∀ {x},x∈ks->¬x=qv->x∈ks.filter (· ≠ qv):=fun hx hn=>zH.2 ⟨hx,by simpa using hn⟩
 split at he
 .next h1 =>
  split at he
  .next h2=>rw[h1,h2]
  .next h2=>have:=zU (dI h' h2);omega
 .next h1 =>
  split at he
  .next h2=>have:=zU (dI h h1);omega
  .next h2 =>
   have e1:=zN (zU (dI h h1));have e2:=zN (zU (dI h' h2));rw[<-e1,<-e2];congr 1
theorem ir{ks:List Wd}(k:Wd):MkS.place ks k<=(ks.filter (· ≠ qv)).length:=by
 unfold MkS.place;split
 .exact zk _
 .exact zl
theorem WJ(ks:List Wd)(t:Wd):(ks.filter (· ≠ qv)).idxOf t=MkS.place ks (Zl ks t):=by
 unfold MkS.place Zl;by_cases h:t∈ks
 .rw[if_pos h];by_cases h2:t=qv
  .rw[if_pos h2,zF (by simp[h2])]
  .rw[if_neg h2]
 .rw[if_neg h,if_pos rfl,zF (fun q=>h (zH.1 q).1)]
theorem VJ{s:MkS}{i j p:Nat}(h:slot s (i,j)=some p):∃ x,s.code[i]? = some x/\x.tg[j]? = some p:=by
 unfold slot at h
 cases hc:s.code[i]? with
 | none=>rw[hc] at h;cases h
 | some x=>rw[hc] at h;exact⟨x,rfl,h⟩
end
section
variable {τ:Type} {E:qJ τ}
theorem V1{s0 s:MkS}(t:Wd)(h:(s0.const t).cs <+: s.cs)(x:jG){l:List Nat}(hx:x.k=s0.num t::l):Yv s x=some t:=by
 unfold Yv;rw[hx];exact EW t h
theorem D1{bs:Fo}(hb:zzj E bs)(hl:bs.uk=true){b:Bool}(hv:bs.C9 b){sl:Wd->List (Nat×Nat)}{bg:Wd->MkS->MkS}(Dl:∀ k x,bg k x=ud (sl k) x){s2:MkS}{K:Wd}(hd:bs.keys.Nodup)(hK:K∈bs.keys)(qf:∀ k,∀ p∈sl k,p.1<s2.code.length)
  {s:MkS} (hp:JG s) {sE:MkS} (WG:sE=ud ((MkS.qq bs bg s2 []).2.map fun i=>(i,0)) (MkS.qq bs bg s2 []).1) (hse:∀ i,s2.code.length<=i->i<sE.code.length->s.code[i]? = sE.code[i]?) (dT:sE.cs <+: s.cs) (hn:∃ x,s.code[sE.code.length]? = some x/\x.pos=sE.pos) :
  ∃ (a:Nat) (xa:jG),s2.code.length<=a/\s.code[a]? = some xa/\(∀ q∈sl K,(slot s2 q).isSome->(∀ k'∈bs.keys,k'≠K->q ∉ sl k')->slot sE q=some xa.pos)/\∀ (x:vq) (o:Wd) (g:τ) (stk:List (vq×vq)),(b=true->∃ n,stk.getLast? = some (n,x))->Jn (jn E s) a ⟨o,stk,g⟩ sE.code.length stk (kT E bs K x o g):=by
 obtain⟨a,p,e,xa,xe,h1,h2,h3,h4,h5,h6,h7,h8,h9,du,Qn,Qp⟩:=hb hl b hv sl bg Dl s2 [] K hd hK qf (fun e he=>by cases he);obtain⟨f1,f2,f3,f4⟩:=go_facts bs sl bg Dl s2 [];have hlen:sE.code.length=(MkS.qq bs bg s2 []).1.code.length:=by rw[WG,(qC _ _).1]
 have gx:sE.pos=(MkS.qq bs bg s2 []).1.pos:=by rw[WG,(qC _ _).2.1]
 have hcE:sE.cs=(MkS.qq bs bg s2 []).1.cs:=by rw[WG,(qC _ _).2.2]
 have shE:=gH (Zo (MkS.qq bs bg s2 []).1) ((MkS.qq bs bg s2 []).2.map fun i=>(i,0)) _ (QP _);rw[<-WG] at shE;obtain⟨ya,tR,tS⟩:=shE a xa h9;obtain⟨ye,Ch,Ct⟩:=shE e xe h6;have sa:s.code[a]? = some ya:=(hse a h1 (by omega)).trans tR;have se:s.code[e]? = some ye:=(hse e (by omega) (by omega)).trans Ch;obtain⟨_,pa,_⟩:=ft tS;obtain⟨oe,pe,_,_,te⟩:=ft Ct;refine⟨a,ya,h1,sa,fun q hq UP kh=>?_,fun x o g stk vM=>?_⟩
 .rw[WG,fW,if_neg (fun h=>?_),Qn q hq UP kh,pa,du];obtain⟨e',he',rfl⟩:=zV.1 h.1;have:=qf K _ hq;rcases f2 e' he' with r|r
  .cases r
  .simp only at this;omega
 .have run:=Qp s (fun i UM Kk=>by
   rw[hse i (by omega) (by omega),WG,dE];intro p hp;obtain⟨e',he',rfl⟩:=zV.1 hp;exact fun q=>h5 i UM Kk (by simp only at q;rw[<-q];exact he')) ⟨ye,se,pe⟩ (by rw[<-hcE];exact dT) hp x o g stk vM
  cases hr:kT E bs K x o g with
  | error er=>rw[hr] at run;exact run.far (by omega)
  | ok pr =>
   rw[hr] at run;refine Steps.trans run (Steps.one ?_);have zr0:slot sE (e,0)=some sE.pos:=by
    have Xg:(slot (MkS.qq bs bg s2 []).1 (e,0)).isSome=true:=by
     unfold slot;rw[h6];show(xe.tg[0]?).isSome=true;rw[zv (by omega)];rfl
    rw[gx,WG,fW,if_pos ⟨zV.2 ⟨e,h4,rfl⟩,Xg⟩]
   obtain⟨z,Qv,Qw⟩:=VJ ((Gb (p:=(e,0)) (hse e (by omega) (by omega))).trans zr0);rw[se] at Qv
   cases Qv;rw[qo se];unfold uh;rw[oe,h7,Qw];obtain⟨xn,bO,dN⟩:=hn;exact QR hp bO dN _
end
theorem D2{s2:MkS}{i j:Nat}{x:jG}(h:s2.code[i]? = some x)(hj:j<x.tg.length):(slot s2 (i,j)).isSome=true:=by
 unfold slot;rw[h];show(x.tg[j]?).isSome=true;rw[zv hj];rfl
section
variable {τ:Type} {E:qJ τ} (hE:∀ b d,E.sort b d<6)
include hE
theorem jw:∀ f:Fo,zzk E f/\zzj E f
 | .nil=>⟨fun _ b _ s0 s _ _ _ _ k x o g stk _=>Steps.refl _ _,fun _ _ _ _ _ _ _ _ _ _ hK=>by cases hK⟩
 | .text t r=>⟨fun hm b hv s0 s ha dT hp hn k x o g stk hs=>by
   obtain⟨c1,c2,c4,c3⟩:=QS (jw r).1 hm hv (s0:=s0) (s1:=s0.one 1 t) (x:=⟨1,(s0.const t).pos,0,[s0.num t],[]⟩) (by rw[MkS.one,xM,(vY s0 t).2.1]) ha dT hp hn hs k;refine Jn.after (Steps.one ?_) (c3 (o++t) g);rw[qo c1];unfold uh;simp only[V1 (s0:=s0) t c2 ⟨1,(s0.const t).pos,0,[s0.num t],[]⟩ rfl];,fun h=>by cases h⟩
 | .hash r=>⟨fun hm b hv s0 s ha dT hp hn k x o g stk hs=>by
   obtain⟨c1,c2,c4,c3⟩:=QS (jw r).1 hm hv.2 (s0:=s0) (s1:=s0.put 6 0 [] []) rfl ha dT hp hn hs k;refine Jn.after (Steps.one ?_) (c3 (o++E.wr x) g);obtain⟨n,Xd⟩:=hs hv.1;rw[qo c1];unfold uh;simp only[Xd];,fun h=>by cases h⟩
 | .put n a r=>⟨fun hm b hv s0 s ha dT hp hn k x o g stk hs=>by
   obtain⟨c1,c2,c4,c3⟩:=QS (jw r).1 hm hv (s0:=s0) (s1:=s0.one 2 n) (x:=⟨2,(s0.const n).pos,0,[s0.num n],[]⟩) (by rw[MkS.one,xM,(vY s0 n).2.1]) ha dT hp hn hs k;have hc:=V1 (s0:=s0) n c2 ⟨2,(s0.const n).pos,0,[s0.num n],[]⟩ rfl;simp only[kT]
   cases h:Ze E n g with
   | error e =>
    obtain⟨e,g'⟩:=e;refine Jn.err (r':=⟨o,stk,g'⟩) ?_ c4;rw[qo c1];unfold uh;simp only[hc,h]
   | ok p =>
    obtain⟨⟨t,num⟩,g'⟩:=p;refine Jn.after (Steps.one ?_) (c3 _ g');rw[qo c1];unfold uh;simp only[hc,h]
   ,fun h=>by cases h⟩
 | .num n a r=>⟨fun hm b hv s0 s ha dT hp hn k x o g stk hs=>by
   obtain⟨c1,c2,c4,c3⟩:=QS (jw r).1 hm hv (s0:=s0) (s1:=s0.one 3 n) (x:=⟨3,(s0.const n).pos,0,[s0.num n],[]⟩) (by rw[MkS.one,xM,(vY s0 n).2.1]) ha dT hp hn hs k;have hc:=V1 (s0:=s0) n c2 ⟨3,(s0.const n).pos,0,[s0.num n],[]⟩ rfl;simp only[kT]
   cases h:Zi E n g with
   | error e =>
    obtain⟨e,g'⟩:=e;refine Jn.err (r':=⟨o,stk,g'⟩) ?_ c4;rw[qo c1];unfold uh;simp only[hc,h]
   | ok p =>
    obtain⟨v,g'⟩:=p;refine Jn.after (Steps.one ?_) (c3 _ g');rw[qo c1];unfold uh;simp only[hc,h]
   ,fun h=>by cases h⟩
 | .br n a f off c bs r=>⟨fun hm b hv s0 s ha dT hp hn k x o g stk hs=>by
   obtain⟨v1,v2,v3,v4,v5⟩:=hv;by_cases h0:f=0
   .subst h0;obtain⟨sE,WG⟩:∃ sE,sE=ud ((MkS.qq bs (MkS.bj n bs s0) (MkS.kY n bs s0) []).2.map fun i=>(i,0)) (MkS.qq bs (MkS.bj n bs s0) (MkS.kY n bs s0) []).1:=⟨_,rfl⟩;have hms:=S2 n a off c bs r s0 hm;rw[<-WG] at hms;rw[hms] at ha dT hn |-
    obtain⟨m1,m2⟩:=gI r sE;obtain⟨f1,f2,f3,f4⟩:=go_facts bs (JF n bs s0) (MkS.bj n bs s0) (fe n bs s0) (MkS.kY n bs s0) [];have hS:=Cz n bs s0;have hSl:(MkS.kY n bs s0).code.length=s0.code.length+1:=by rw[hS];simp
    have hSE:sE.code.length=(MkS.qq bs (MkS.bj n bs s0) (MkS.kY n bs s0) []).1.code.length:=by rw[WG,(qC _ _).1]
    have hT:(MkS.gT n bs s0).1.code.length=s0.code.length:=by rw[(Yb n bs s0).1]
    have hcE:sE.cs <+: s.cs:=(ER (Zx sE.cs) r sE (zx _)).trans dT;have iw:∀ i,s0.code.length<=i->i<sE.code.length->s.code[i]? = sE.code[i]? := fun i h1 h2=>(ha i h1 (by omega)).trans (m2 i h2)
    have qK:(MkS.gT n bs s0).1.cs <+: s.cs:=(gH (Zx _) _ _ (go_inv (Zx (MkS.gT n bs s0).1.cs) bs (fe n bs s0) (MkS.kY n bs s0) [] (zx _)):(MkS.gT n bs s0).1.cs <+: (ud ((MkS.qq bs (MkS.bj n bs s0) (MkS.kY n bs s0) []).2.map fun i=>(i,0)) (MkS.qq bs (MkS.bj n bs s0) (MkS.kY n bs s0) []).1).cs).trans (WG▸hcE);have ff:(s0.const n).cs <+: s.cs:=((Zx (s0.const n).cs).j7 bs (s0.const n) [s0.num n] (zx _)).trans qK;obtain⟨tl,ht1,tL⟩:=D0 bs (s0.const n) [s0.num n] s.cs v1 qK;have Jm:(MkS.kY n bs s0).code[s0.code.length]? = some ⟨10,s0.pos,0,s0.num n::tl,zG (tl.length+1) 0⟩:=by
     rw[hS,zu (zk _)];have:(MkS.gT n bs s0).2=s0.num n::tl:=ht1;rw[this];simp
    obtain⟨y,hy,A1⟩:=gH (Zo (MkS.kY n bs s0)) ((MkS.qq bs (MkS.bj n bs s0) (MkS.kY n bs s0) []).2.map fun i=>(i,0)) _ (go_inv (Zo (MkS.kY n bs s0)) bs (fe n bs s0) _ [] (QP _)) _ _ Jm;rw[<-WG] at hy;have sy:s.code[s0.code.length]? = some y:=(iw _ (zk _) (by omega)).trans hy;obtain⟨y1,y2,y3,y4,y5⟩:=ft A1;have V0:=V1 (s0:=s0) n ff y y4;have G7:tl.length=(bs.keys.filter (· ≠ qv)).length:=by have:=congrArg List.length tL;simpa using this
    have qQ:y.k.tail.all (fun j=>decide (j<s.cs.length))=true:=by
     rw[y4,zS,zP];intro j hj;have h1:s.cs[j]?∈(bs.keys.filter (· ≠ qv)).map some:=by rw[<-tL];exact zV.2 ⟨j,hj,rfl⟩
     obtain⟨u,_,hu⟩:=zV.1 h1;exact decide_eq_true (z8.1 hu.symm).1
    have htI:∀ t,VN s y t=MkS.place bs.keys (Zl bs.keys t):=by
     intro t;unfold VN;rw[y4,zS,tL,im,WJ]
    have hnE:∃ x,s.code[sE.code.length]? = some x/\x.pos=sE.pos:=by
     rcases Cx r hm sE with⟨q1,q2⟩|⟨x,q1,q2⟩
     .rw[q1,q2] at hn;exact hn
     .exact⟨x,(ha _ (by omega) (z8.1 q1).1).trans q1,q2⟩
    have hK:∀ t,Zl bs.keys t∈bs.keys:=by intro t;unfold Zl;split<;>assumption
    simp only[kT,↓reduceIte]
    cases h:Hg E n g with
    | error e =>
     obtain⟨e,g'⟩:=e;refine Jn.err (r':=⟨o,stk,g'⟩) ?_;rw[qo sy];unfold uh;simp only[y1,V0,h]
    | ok pr =>
     obtain⟨t,g'⟩:=pr;dsimp only;have rr:∀ k,∀ p∈JF n bs s0 k,p.1<(MkS.kY n bs s0).code.length:=by
      intro k p hp;rw[JF,z7] at hp;subst hp;show(MkS.gT n bs s0).1.code.length<_;omega
     obtain⟨A,xa,hA0,hA1,Rf,oW⟩:=D1 (s:=s) (jw bs).2 v1 v4 (fe n bs s0) v2 (hK t) rr hp WG (fun i h1 h2=>iw i (by omega) h2) hcE hnE
     .have dW:=Rf (s0.code.length,MkS.place bs.keys (Zl bs.keys t)) (by rw[JF,hT];exact z7.2 rfl) (D2 Jm (by have:=ir (ks:=bs.keys) (Zl bs.keys t);simp;omega))
       (fun k' Qr vy hq=>by
        rw[JF,z7] at hq;exact vy (WK Qr (hK t) (zD hq).2.symm))
      obtain⟨z,Qv,Qw⟩:=VJ dW;rw[hy] at Qv
      cases Qv;refine Jn.after (k1:=A) (r1:=⟨o,stk,g'⟩) (Steps.one ?_) ?_
      .rw[qo sy];unfold uh;simp only[y1,V0,h,qQ,↓reduceIte,htI,Qw];exact QR hp hA1 rfl _
      .have run:=oW x o g' stk (fun q=>by cases q)
       cases hr:kT E bs (Zl bs.keys t) x o g' with
       | error er=>rw[hr] at run;exact run.far (by omega)
       | ok pr =>
        obtain⟨o2,g2⟩:=pr;rw[hr] at run;exact Jn.after run ((jw r).1 hm b v5 sE s (fun i h1 h2=>ha i (by omega) h2) dT hp hn k x o2 g2 stk hs)
   .obtain⟨sL,hsL⟩:∃ sL,sL=ud ((MkS.qq bs (MkS.jE n off bs s0) (MkS.qM n off f bs s0) []).2.map fun i=>(i,0)) (MkS.qq bs (MkS.jE n off bs s0) (MkS.qM n off f bs s0) []).1:=⟨_,rfl⟩;have hms:=S3 n a f off c bs r s0 h0 hm;rw[<-hsL] at hms;rw[hms] at ha dT hn |-
    obtain⟨m1,m2⟩:=gI r (sL.put 5 0 [] []);have hPl:(sL.put 5 0 [] []).code.length=sL.code.length+1:=by rw[xM];simp
    rw[hPl] at m1 m2;obtain⟨b1,b2,b3⟩:=Ko n off bs s0;obtain⟨f1,f2,f3,f4⟩:=go_facts bs (Yd n off bs s0) (MkS.jE n off bs s0) (gY n off bs s0) (MkS.qM n off f bs s0) [];have hS:=Cy n off f bs s0;have hSl:(MkS.qM n off f bs s0).code.length=(MkS.kP n off bs s0).1.code.length+1:=by rw[hS];simp
    have hSL:sL.code.length=(MkS.qq bs (MkS.jE n off bs s0) (MkS.qM n off f bs s0) []).1.code.length:=by rw[hsL,(qC _ _).1]
    have hcE:sL.cs <+: s.cs:=(ER (Zx sL.cs) r (sL.put 5 0 [] []) (zx _)).trans dT;have iw:∀ i,s0.code.length<=i->i<sL.code.length+1->s.code[i]? = (sL.put 5 0 [] []).code[i]? := fun i h1 h2=>(ha i h1 (by omega)).trans (m2 i h2)
    have zg4:∀ i,s0.code.length<=i->i<sL.code.length->s.code[i]? = sL.code[i]? := fun i h1 h2=>(iw i h1 (by omega)).trans (by rw[xM,zy h2])
    have Pg:s.code[sL.code.length]? = some ⟨5,sL.pos,0,[],[]⟩:=by
     rw[iw _ (by omega) (by omega),xM,zu (zk _)];simp
    have qK:(MkS.kP n off bs s0).1.cs <+: s.cs:=(gH (Zx _) _ _ (go_inv (Zx (MkS.kP n off bs s0).1.cs) bs (gY n off bs s0) (MkS.qM n off f bs s0) [] (zx _)):(MkS.kP n off bs s0).1.cs <+: (ud ((MkS.qq bs (MkS.jE n off bs s0) (MkS.qM n off f bs s0) []).2.map fun i=>(i,0)) (MkS.qq bs (MkS.jE n off bs s0) (MkS.qM n off f bs s0) []).1).cs).trans (hsL▸hcE);have ff:(s0.const n).cs <+: s.cs:=((Zx (s0.const n).cs).qD bs ((s0.const n).put 4 (xE off) [s0.num n] []) [] (zx _)).trans qK;have sh0:=gH (Zo (MkS.qM n off f bs s0)) ((MkS.qq bs (MkS.jE n off bs s0) (MkS.qM n off f bs s0) []).2.map fun i=>(i,0)) _ (go_inv (Zo (MkS.qM n off f bs s0)) bs (gY n off bs s0) _ [] (QP _));rw[<-hsL] at sh0;have sh1:∀ (i:Nat) (x:jG),s0.code.length<=i->(MkS.qM n off f bs s0).code[i]? = some x->∃ y,s.code[i]? = some y/\sL.code[i]? = some y/\S0 y=S0 x:=by
     intro i x hi hx;obtain⟨y,h1,h2⟩:=sh0 i x hx;exact⟨y,(zg4 i hi (z8.1 h1).1).trans h1,h1,h2⟩
    have L5:∀ (i:Nat) (x:jG),(MkS.kP n off bs s0).1.code[i]? = some x->(MkS.qM n off f bs s0).code[i]? = some x:=by
     intro i x hx;rw[hS,zy (z8.1 hx).1];exact hx
    obtain⟨y,hy,_,A1⟩:=sh1 _ _ (zk _) (L5 _ _ (S4 n off bs s0));obtain⟨y1,y2,y3,y4,y5⟩:=ft A1;have V0:=V1 (s0:=s0) n ff y y4;have zr3:((s0.const n).put 4 (xE off) [s0.num n] []).code.length=s0.code.length+1:=by rw[xM,(vY s0 n).2.1];simp
    have Jm:(MkS.qM n off f bs s0).code[(MkS.kP n off bs s0).1.code.length]? = some ⟨if f=2 then 9 else 8,(MkS.kP n off bs s0).1.pos,0,[],zG 6 0⟩:=by
     rw[hS,zu (zk _)];simp
    obtain⟨_,k2,k3⟩:=bC bs ((s0.const n).put 4 (xE off) [s0.num n] []) [];simp only[kT,if_neg h0]
    cases h:Zi E n g with
    | error e =>
     obtain⟨e,g'⟩:=e;refine Jn.err (r':=⟨o,stk,g'⟩) ?_;rw[qo hy];unfold uh;simp only[y1,V0,h]
    | ok pr =>
     obtain⟨v,g'⟩:=pr;dsimp only;obtain⟨z,hz⟩:=xX (X9 v (xE off));rw[hz];have Xd:(stk++[(v,z)]).getLast? = some (v,z):=by simp
     have st1:Steps (jn E s) s0.code.length ⟨o,stk,g⟩ (s0.code.length+1) ⟨o,stk++[(v,z)],g'⟩:=by
      refine Steps.one ?_;rw[qo hy];unfold uh;simp only[y1,V0,h,y3,hz]
     have ask:=ET (E:=E) (s:=s) v z bs ((s0.const n).put 4 (xE off) [s0.num n] []) [] v1 v2 (fun _ _=>rfl) (fun i x hi hx=>by
      obtain⟨y,h1,_,h3⟩:=sh1 i x (by omega) (L5 i x hx);exact⟨y,h1,h3⟩)
     rw[zr3] at ask;have rr:∀ k,∀ p∈Yd n off bs s0 k,p.1<(MkS.qM n off f bs s0).code.length:=by
      intro k p hp;have:=b3 k p hp;omega
     have key:∃ A,Steps (jn E s) s0.code.length ⟨o,stk,g⟩ A ⟨o,stk++[(v,z)],g'⟩/\Jn (jn E s) A ⟨o,stk++[(v,z)],g'⟩ sL.code.length (stk++[(v,z)]) (kT E bs (Ff E f bs.keys v z) z o g'):=by
      unfold Ff;rw[show(bs.keys.find? fun k=>decide (k.head? = some 61) && dD v (xE k.tail))=bs.keys.find? (eqP v) from rfl]
      cases hf:bs.keys.find? (eqP v) with
      | some K =>
       rw[hf] at ask;obtain⟨i,x0,q1,q2,q3,q4,q5,q6⟩:=ask;have hKm:=List.mem_of_find?_eq_some hf;obtain⟨A,xa,hA0,hA1,Rf,oW⟩:=D1 (s:=s) (jw bs).2 v1 v4 (gY n off bs s0) v2 hKm rr hp hsL (fun i h1 h2=>zg4 i (by omega) h2) hcE ⟨_,Pg,rfl⟩;have hi0:s0.code.length+1<=i:=by
        rcases k3 _ (YZ q1) with w|w
        .cases w
        .simp only[zr3] at w;omega
       have zg5:Yd n off bs s0 K=[(i,0)]:=by
        unfold Yd;rw[show(MkS.kP n off bs s0).2.lookup K=some i from q1]
       have dW:=Rf (i,0) (by rw[zg5];exact z7.2 rfl) (D2 (L5 i x0 q2) (by omega)) (fun k' Qr vy hq=>by
        unfold Yd at hq
        cases hl:(MkS.kP n off bs s0).2.lookup k' with
        | some i' =>
         rw[hl,z7] at hq;have e:=(zD hq).1;have:=ES bs _ [] (fun p hp=>by cases hp) (fun p hp=>by cases hp) _ (YZ q1) _ (YZ hl) e;exact vy (zD this).1.symm
        | none =>
         rw[hl] at hq;obtain⟨cc,_,e⟩:=zV.1 hq;have e1:=(zD e).1;have:=(z8.1 q2).1;rw[show(MkS.qD bs ((s0.const n).put 4 (xE off) [s0.num n] []) []).1.code.length=(MkS.kP n off bs s0).1.code.length from rfl] at this;omega)
       obtain⟨yi,w1,w2,w3⟩:=sh1 i x0 (by omega) (L5 i x0 q2);obtain⟨p1,p2,p3,p4,p5⟩:=ft w3;obtain⟨yi',u1,u2⟩:=VJ dW;rw[w2] at u1
       cases u1;have hiA:i<A:=by have h1:=(z8.1 q2).1;rw[show(MkS.qD bs ((s0.const n).put 4 (xE off) [s0.num n] []) []).1.code.length=(MkS.kP n off bs s0).1.code.length from rfl] at h1;omega
       refine⟨A,st1.trans ((q6 o g' _ Xd).trans (Steps.one ?_ hiA)),oW z o g' _ (fun _=>⟨v,Xd⟩)⟩;rw[qo w1];unfold uh;simp only[p1,q3,Xd,p3,q5,↓reduceIte,u2];exact QR hp hA1 rfl _
      | none =>
       rw[hf] at ask;dsimp only;have ar:=hE (decide (f=2)) z.2;obtain⟨cn,JT⟩:=xX (E.sort (decide (f=2)) z.2);rw[JT] at ar |-
       obtain⟨K,hKe⟩:=xX ((if KQ.getD cn []∈bs.keys then KQ.getD cn [] else qv));rw[hKe];have hKm:K∈bs.keys:=by rw[<-hKe];split<;>assumption
       have zij:(KQ.getD cn []).head?≠some 61:=by
        rcases cn with _|_|_|_|_|_|cn
        .decide
        .decide
        .decide
        .decide
        .decide
        .decide
        .omega
       have hKh:K.head?≠some 61:=by rw[<-hKe];split;exact zij;decide
       have VE:(MkS.kP n off bs s0).2.lookup K=none:=by
        cases hl:(MkS.kP n off bs s0).2.lookup K with
        | none=>rfl
        | some i =>
         rcases Fw bs _ [] _ (YZ hl) with w|w
         .cases w
         .exact absurd w hKh
       have zg5:Yd n off bs s0 K=S1 bs.keys (MkS.kP n off bs s0).1.code.length K:=by
        unfold Yd;rw[VE]
       obtain⟨A,xa,hA0,hA1,Rf,oW⟩:=D1 (s:=s) (jw bs).2 v1 v4 (gY n off bs s0) v2 hKm rr hp hsL (fun i h1 h2=>zg4 i (by omega) h2) hcE ⟨_,Pg,rfl⟩;have dW:=Rf ((MkS.kP n off bs s0).1.code.length,cn) (by
        rw[zg5];refine zV.2 ⟨cn,zH.2 ⟨List.mem_range.2 ar,?_⟩,rfl⟩;rw[decide_eq_true_eq,<-hKe];split
        .next h=>exact .inl rfl
        .next h=>exact .inr ⟨rfl,h⟩) (D2 Jm (by simp;omega)) (fun k' Qr vy hq=>by
        unfold Yd at hq
        cases hl:(MkS.kP n off bs s0).2.lookup k' with
        | some i' =>
         rw[hl,z7] at hq;have e:=(zD hq).1;rcases k3 _ (YZ hl) with w|w
         .cases w
         .have w2:=w.2;rw[show(MkS.qD bs ((s0.const n).put 4 (xE off) [s0.num n] []) []).1.code.length=(MkS.kP n off bs s0).1.code.length from rfl] at w2;simp only at w2;omega
        | none =>
         rw[hl] at hq;obtain⟨cc,Ps,e⟩:=zV.1 hq;have e1:=(zD e).2;subst e1;have eA:=of_decide_eq_true (zH.1 Ps).2;rw[<-hKe] at vy;by_cases dI:KQ.getD cc []∈bs.keys
         .rw[if_pos dI] at vy;rcases eA with w|w
          .exact vy w.symm
          .exact w.2 dI
         .rw[if_neg dI] at vy;rcases eA with w|w
          .exact dI (by rw[w];exact Qr)
          .exact vy w.1)
       obtain⟨yt,w1,w2,w3⟩:=sh1 _ _ (by omega) Jm;obtain⟨p1,p2,p3,p4,p5⟩:=ft w3;obtain⟨yt',u1,u2⟩:=VJ dW;rw[w2] at u1
       cases u1;have hiA:(MkS.kP n off bs s0).1.code.length<A:=by omega
       refine⟨A,st1.trans ((ask o g' _ Xd).trans (Steps.one ?_ hiA)),oW z o g' _ (fun _=>⟨v,Xd⟩)⟩;rw[show(MkS.qD bs ((s0.const n).put 4 (xE off) [s0.num n] []) []).1.code.length=(MkS.kP n off bs s0).1.code.length from rfl,qo w1];unfold uh;by_cases vU:f=2
       .rw[if_pos vU] at p1;rw[decide_eq_true vU] at JT;simp only[p1,Xd,JT,u2];exact QR hp hA1 rfl _
       .rw[if_neg vU] at p1;rw[decide_eq_false vU] at JT;simp only[p1,Xd,JT,u2];exact QR hp hA1 rfl _
     obtain⟨A,hA,run⟩:=key;refine Jn.after hA ?_
     cases hr:kT E bs (Ff E f bs.keys v z) z o g' with
     | error er=>rw[hr] at run;exact run.far (by omega)
     | ok pr =>
      obtain⟨o2,g2⟩:=pr;rw[hr] at run;refine Jn.after (Steps.trans run (Steps.one (k':=sL.code.length+1) (r':=⟨o2,stk,g2⟩) ?_)) ?_
      .rw[qo Pg];unfold uh;simp
      .have:=(jw r).1 hm b v5 (sL.put 5 0 [] []) s (fun i h1 h2=>ha i (by omega) h2) dT hp hn k x o2 g2 stk hs;rw[hPl] at this;exact this
   ,fun h=>by cases h⟩
 | .uz k a m r=>⟨fun h=>(by cases h),fun hl b hv sl bg hb s2 ls K hd hK dW hls=>by
   obtain⟨v1,v2,v3⟩:=hv;have o9:=yy.1 (show(k::r.keys).Nodup from hd);rw[MkS.qq,hb];obtain⟨sb,Zc⟩:=xX (ud (sl k) s2);obtain⟨l1,l2,l3⟩:=qC (sl k) s2;rw[Zc] at l1 l2 l3 |-
   obtain⟨sm,Xg⟩:=xX (MkS.dm m sb);rw[show(MkS.qq m (fun _ s=>s) sb []).1=sm from Xg];obtain⟨m1,m2⟩:=gI m sb;rw[Xg] at m1 m2;have Oy:(sm.put 11 0 [] [0]).code.length=sm.code.length+1:=by rw[xM];simp
   obtain⟨g1,g2,g3,g4⟩:=go_facts r sl bg hb (sm.put 11 0 [] [0]) (ls++[sm.code.length]);rw[Oy] at g1 g2 g4;have kp:∀ i,s2.code.length<=i->i<sm.code.length+1->(MkS.qq r bg (sm.put 11 0 [] [0]) (ls++[sm.code.length])).1.code[i]? = (sm.put 11 0 [] [0]).code[i]? := fun i h1 h2=>g4 i h2 (fun k' p hp=>by have:=dW k' p hp;omega)
   by_cases hkK:k=K
   .subst hkK;have he:(MkS.qq r bg (sm.put 11 0 [] [0]) (ls++[sm.code.length])).1.code[sm.code.length]? = some ⟨11,sm.pos,0,[],[0]⟩:=by
     rw[kp _ (by omega) (by omega),xM,zu (zk _)];simp
    have hi:∀ i,s2.code.length<=i->i<sm.code.length->(MkS.qq r bg (sm.put 11 0 [] [0]) (ls++[sm.code.length])).1.code[i]? = sm.code[i]? := fun i h1 h2=>by
     rw[kp _ h1 (by omega),xM,zy h2]
    have hfa:∃ xa,(MkS.qq r bg (sm.put 11 0 [] [0]) (ls++[sm.code.length])).1.code[s2.code.length]? = some xa/\xa.pos=s2.pos:=by
     rcases Cx m v1 sb with⟨q1,q2⟩|⟨x,q1,q2⟩
     .rw[Xg] at q1 q2;refine⟨_,by rw[<-l1,<-q1];exact he,?_⟩;show sm.pos=_;rw[q2,l2]
     .rw[Xg,l1] at q1;exact⟨x,by rw[hi _ (zk _) (z8.1 q1).1];exact q1,by rw[q2,l2]⟩
    obtain⟨xa,hxa,Hb⟩:=hfa;refine⟨s2.code.length,s2.pos,sm.code.length,xa,_,zk _,by omega,by omega,g3 _ (List.mem_append_right _ (z7.2 rfl)),fun i h1 h2 hm=>?_,he,rfl,rfl,hxa,Hb,fun q hq UP kh=>?_,fun s hs hz hc hp x o g stk vM=>?_⟩
    .rcases g2 i hm with q|q
     .rw[zZ,z7] at q;rcases q with q|q
      .have:=hls i q;omega
      .omega
     .omega
    .have hq0:=dW k q hq;rw[Cv r sl bg hb hl _ _ q (by omega) (fun k' Qr=>kh k' (zf _ Qr) (fun e=>o9.1 (by rw[<-e];exact Qr))),Fh _ _ _ _ _ _ (by omega),<-Xg,Gb ((gI m sb).2 q.1 (by omega)),<-Zc,fW,if_pos ⟨hq,UP⟩]
    .have jS:sm.cs <+: s.cs:=(go_inv (Zx sm.cs) r hb (sm.put 11 0 [] [0]) (ls++[sm.code.length]) (zx _)).trans hc;have:=(jw m).1 v1 b v2 sb s (fun i h1 h2=>by rw[Xg] at h2 |-;rw[hs i (by omega) h2,hi i (by omega) h2]) (by rw[Xg];exact jS) hp (by rw[Xg];exact hz) [] x o g stk vM;rw[Xg,l1] at this;simp only[kT,↓reduceIte];exact this
   .have hKr:K∈r.keys:=by
     rcases List.mem_cons.1 (show K∈k::r.keys from hK) with q|q
     .exact absurd q.symm hkK
     .exact q
    obtain⟨A,p,e,xa,xe,h1,h2,h3,h4,h5,h6,h7,h8,h9,du,Qn,Qp⟩:=(jw r).2 hl b v3 sl bg hb (sm.put 11 0 [] [0]) (ls++[sm.code.length]) K o9.2 hKr (fun k' p hp=>by have:=dW k' p hp;omega) (fun e he=>by
     rw[zZ,z7] at he;rcases he with he|rfl
     .have:=hls e he;omega
     .omega)
    refine⟨A,p,e,xa,xe,by omega,h2,h3,h4,h5,h6,h7,h8,h9,du,fun q hq UP kh=>?_,fun s hs hz hc hp x o g stk vM=>?_⟩
    .have hq0:=dW K q hq;refine Qn q hq ?_ (fun k' Qr=>kh k' (zf _ Qr));rw[Fh _ _ _ _ _ _ (by omega),<-Xg,Gb ((gI m sb).2 q.1 (by omega)),<-Zc,fW];split
     .rfl
     .exact UP
    .have:=Qp s hs hz hc hp x o g stk vM;simp only[kT,if_neg hkK];exact this⟩
end
theorem rh{τ:Type}{E:qJ τ}(hE:∀ b d,E.sort b d<6)(f:Fo)(hm:f.vD=true)(hv:f.C9 false)(x:vq)(g:τ) :
  match kT E f [] x [] g with
  | .ok (o,g')=>∃ fuel,fuel<=(MkS.all f).code.length/\QY (jn E (MkS.all f)) fuel 0 ⟨[],[],g⟩=some (.ok ⟨o,[],g'⟩)
  | .error (n,g')=>∃ fuel r,fuel<=(MkS.all f).code.length/\QY (jn E (MkS.all f)) fuel 0 ⟨[],[],g⟩=some (.error (n,r))/\r.gs=g':=by
 have Y1:(MkS.all f).code[(MkS.dm f MkS.start).code.length]? = some ⟨0,(MkS.dm f MkS.start).pos,0,[],[]⟩:=by
  rw[MkS.all,xM,zu (zk _)];simp
 have h:=(jw hE f).1 hm false hv MkS.start (MkS.all f) (fun i _ hi=>by rw[MkS.all,xM,zy hi]) (zx _) (WV.all f ⟨fun i j x y _ hx=>absurd hx (by simp[MkS.start]),fun x hx=>absurd hx (by simp[MkS.start])⟩) ⟨_,Y1,rfl⟩ [] x [] g [] (fun h=>by cases h)
 cases hr:kT E f [] x [] g with
 | error e =>
  obtain⟨n,g'⟩:=e;rw[hr] at h;obtain⟨m,r',h0,h1,h2⟩:=h;exact⟨0+m,r',by rw[MkS.all,xM,zJ];rw[show MkS.start.code.length=0 from rfl] at h0;omega,h1 0,h2⟩
 | ok p =>
  obtain⟨o,g'⟩:=p;rw[hr] at h;obtain⟨n,h0,hn⟩:=h;refine⟨1+n,by rw[MkS.all,xM,zJ,ze];rw[show MkS.start.code.length=0 from rfl] at h0;omega,?_⟩;rw[show(0:Nat)=MkS.start.code.length from rfl,hn 1,QY,qo Y1];rfl
def zzf{τ:Type}(G:Nat->Prop)(Inv:τ->World->Prop)(res:Except (Nat×τ) (Wd×τ))(w:World)(e:Ending)(w':World):Prop :=
 (match res with
  | .ok (o,g')=>e = .returned (.tuple #[xg o,.nilIface])/\Inv g' w'
  | .error (n,g')=>e = .returned (.tuple #[xg [],qW n])/\Inv g' w')/\Fr G G w w'
section
variable {τ:Type} {w:World} {A q mb g:Nat} {G:Nat->Prop} {vC vI:Value} {rs:List (Value×Value)} {E:qJ τ} {F S:τ->Nat->Prop} {Inv:τ->World->Prop}
theorem WD{s:MkS}{gf:Fn}{g1 g2:Array Value}(hE:bU w (A+2) (A+2) G q mb g s vC vI rs (.func gf g1 g2) E F S Inv)(hA:w.heap.size=A){g0:τ}(hi:Inv g0 w)(hF0:∀ k,F g0 k->G k) :
  vh (A+2) (A+2) q g (.func gf g1 g2) G F S Inv ⟨[],[],g0⟩ (TX w (.pointer (some ⟨q,0,none⟩)) (.pointer (some ⟨g,0,none⟩)) (.func gf g1 g2)):=by
 have hf:Fr xI xI w (TX w (.pointer (some ⟨q,0,none⟩)) (.pointer (some ⟨g,0,none⟩)) (.func gf g1 g2)):=(((Fr.refl _ _).alloc _).alloc _).alloc _;refine⟨.slice none 0 0,.slice none 0 0,[],?_,?_,rfl,hE.get.fr hi hf (fun _ q=>q.elim),(by intro h;cases h),fun k hk=>(by cases hk),fun k hk=>⟨.inl ?_,(fun h=>by cases h),fun h=>by cases h⟩,fun k hk=>hk.elim (fun h=>by cases h) (fun h=>by cases h),hF0⟩
 .have h:=pE ((w.alloc (.cells #[xg []] 9)).alloc (.cells #[.nilIface] 73)) (.pointer (some ⟨q,0,none⟩)) (.pointer (some ⟨g,0,none⟩)) (.func gf g1 g2);rw[show((w.alloc (.cells #[xg []] 9)).alloc (.cells #[.nilIface] 73)).heap.size=A+2 by simp[hA]] at h;exact h
 .exact World.ownsRow_nil _ _ _ _
 .have:=hE.get.EL g0 w k hi hk;omega
theorem l8{f:Fo}(hm:f.vD=true)(hv:f.C9 false){gf:Fn}{g1 g2:Array Value}(hE:bU w (A+2) (A+2) G q mb g (MkS.all f) vC vI rs (.func gf g1 g2) E F S Inv)(hT:iR (MkS.all f))(hc:(MkS.all f).code.length<=100000)(hA:w.heap.size=A)(hGA:¬G A)(hGB:¬G (A+1))(x:vq){g0:τ}(hi:Inv g0 w)(hF0:∀ k,F g0 k->G k) :
  Calls prog 53 #[.pointer (some ⟨q,0,none⟩),.pointer (some ⟨g,0,none⟩),.func gf g1 g2] w (zzf G Inv (kT E f [] x [] g0) w):=by
 have key:∀ (fuel:Nat) (r:Except (Nat×Z4 τ) (Z4 τ)),fuel<=(MkS.all f).code.length->QY (jn E (MkS.all f)) fuel 0 ⟨[],[],g0⟩=some r ->
   Calls prog 53 #[.pointer (some ⟨q,0,none⟩),.pointer (some ⟨g,0,none⟩),.func gf g1 g2] w (zn3 G (fun r=>r.out) (fun r W=>Inv r.gs W) r w):=by
  intro fuel r hfu hr;refine pO G (VmI w (A+2) (A+2) q g (.func gf g1 g2) G F S Inv) (VmJ w (A+2) (A+2) q g (.func gf g1 g2) G F S Inv) (EN Inv S (A+2)) (fun r W=>Inv r.gs W) (fun r=>r.out) (jn E (MkS.all f)) fuel ⟨[],[],g0⟩ r w (some ⟨q,0,none⟩) (some ⟨g,0,none⟩) gf g1 g2 (by rw[hA];exact hGA) (by rw[hA];exact hGB) (fun k hk=>hE.gA k (by rw[hA] at hk;exact hk)) ?_ ?_ ?_ ?_ hr
  .exact⟨WD hE hA hi hF0,(((Fr.refl _ _).alloc _).alloc _).alloc _,by show 0+fuel*5000<=_;omega,by show 0+fuel<=_;omega⟩
  .rintro s W ⟨⟨v,st,cs,hO,vM,fT,hI,Zc,Xz,hS,hAA,hF⟩,hl⟩;rw[hA];refine⟨v,_,_,_,_,hO,fun k hk=>hAA k (.inl hk),by show s.out.length<=_;omega,fun W' hf=>hE.get.fr hI hf fun k hk hs=>?_⟩;have h1:=hS k hs;rcases hk with rfl|rfl|hk
   .have:=h1.1;omega
   .have:=h1.1;omega
   .exact h1.2.1 hk
  .rintro s W W' ⟨hI,hS⟩ hf;rw[hA] at hf;refine hE.get.fr hI hf fun k hk hs=>?_
   have h1:=hS k hs;rcases hk with rfl|rfl<;>omega
  .intro m k s W hI hb;rw[hA];exact ri hE hT hI hb
 have h:=rh (E:=E) hE.srt f hm hv x g0
 cases hr:kT E f [] x [] g0 with
 | error e =>
  obtain⟨n,g'⟩:=e;rw[hr] at h;obtain⟨fuel,r,h1,h2,h3⟩:=h;refine(key fuel _ h1 h2).mono fun e w' h=>?_
  subst h3;exact h
 | ok p =>
  obtain⟨o,g'⟩:=p;rw[hr] at h;obtain⟨fuel,h1,h2⟩:=h;exact(key fuel _ h1 h2).mono fun e w' h=>h
end
def Fo.sh:Fo->Prop
 | .nil=>True
 | .text t r=>t.length<=5000/\r.sh
 | .hash r=>r.sh
 | .put _ _ r=>r.sh
 | .num _ _ r=>r.sh
 | .br _ _ _ _ _ bs r=>bs.sh/\r.sh
 | .uz _ _ m r=>m.sh/\r.sh
def shB(op a b:Nat):Bool :=
 match op with
 | 0=>a==0 && b==0|1=>a==1 && b==0|2=>a==1 && b==0|3=>a==1 && b==0|4=>a==1 && b==0|5=>a==0 && b==0|6=>a==0 && b==0|7=>a==0 && b==1
 | 8=>a==0 && b==6|9=>a==0 && b==6|10=>decide (0<a) && b==a|11=>a==0 && b==1|_=>false
def OkX(N c p:Nat)(x:jG):Prop:=(∀ j∈x.k,j<c)/\x.k.length<=N/\x.v<=1000000000/\(∀ y∈x.tg,y<=p)/\shB x.op x.k.length x.tg.length=true
def fh(N:Nat)(s:MkS):Prop:=(∀ x∈s.code,OkX N s.cs.length s.pos x)/\∀ t∈s.cs,t.length<=5000
theorem OkX.more{N c p c' p':Nat}{x:jG}(h:OkX N c p x)(hc:c<=c')(hp:p<=p'):OkX N c' p' x :=
 ⟨fun j hj=>zo (h.1 j hj) hc,h.2.1,h.2.2.1,fun y hy=>zc (h.2.2.2.1 y hy) hp,h.2.2.2.2⟩
section
variable {N:Nat} {s:MkS}
theorem fh.put(h:fh N s)(op v:Nat)(k tg:List Nat)(h1:∀ j∈k,j<s.cs.length)(h2:k.length<=N)(h3:v<=1000000000)(h4:∀ y∈tg,y=0)(h5:shB op k.length tg.length=true):fh N (s.put op v k tg):=by
 refine⟨fun x hx=>?_,h.2⟩;rw[xM,zZ,z7] at hx;rcases hx with hx|rfl
 .exact(h.1 x hx).more (zk _) (yz _ _)
 .exact⟨h1,h2,h3,fun y hy=>by rw[h4 y hy];exact zY _,h5⟩
theorem fh.const(h:fh N s)(t:Wd)(ht:t.length<=5000):fh N (s.const t):=by
 unfold MkS.const;split
 .exact h
 .refine⟨fun x hx=>(h.1 x hx).more (by simp) (zk _),fun u hu=>?_⟩;simp only[zZ,z7] at hu;rcases hu with hu|rfl
  .exact h.2 u hu
  .exact ht
theorem fh.u7(h:fh N s)(i j:Nat):fh N (s.u7 i j):=by
 refine⟨fun x hx=>?_,h.2⟩;obtain⟨n,hn,e⟩:=zi.1 hx;have Pe:(s.u7 i j).code[n]? = some x:=by rw[zv hn,e]
 rw[Yf] at Pe;split at Pe
 .cases hc:s.code[n]? with
  | none=>rw[hc] at Pe;cases Pe
  | some y =>
   rw[hc] at Pe
   cases Pe;have hy:=h.1 y (zg hc);refine⟨hy.1,hy.2.1,hy.2.2.1,fun z hz=>?_,by rw[List.length_set];exact hy.2.2.2.2⟩;rcases List.mem_or_eq_of_mem_set hz with hz|rfl
   .exact hy.2.2.2.1 z hz
   .exact zk _
 .exact h.1 x (zg Pe)
theorem EA(s:MkS)(t:Wd):s.num t<(s.const t).cs.length:=(z8.1 (EW (s0:=s) t (zx _))).1
theorem zr8(s:MkS)(t:Wd):s.cs.length<=(s.const t).cs.length:=by unfold MkS.const;split<;>simp
theorem fh.one(h:fh N s)(op:Nat)(t:Wd)(ht:t.length<=5000)(uM:shB op 1 0=true)(hN:1<=N):fh N (s.one op t) :=
 (h.const t ht).put op 0 [s.num t] [] (fun j hj=>by rw[z7.1 hj];exact EA s t) hN (zY _) (fun y hy=>by cases hy) uM
theorem fh.j7:∀ (f:Fo) (s:MkS) (acc:List Nat),(∀ k∈f.keys,k.length<=5000)->fh N s->(∀ j∈acc,j<s.cs.length)->acc≠[]->fh N (MkS.j7 f s acc).1/\(∀ j∈(MkS.j7 f s acc).2,j<(MkS.j7 f s acc).1.cs.length)/\(MkS.j7 f s acc).2≠[]
 | .uz k _ _ r,s,acc,hk,h,ha,hn=>by
  rw[MkS.j7];have Qr:∀ k∈r.keys,k.length<=5000:=fun x hx=>hk x (zf _ hx)
  split
  .exact fh.j7 r s acc Qr h ha hn
  .refine fh.j7 r _ _ Qr (h.const _ (hk k (zQ ..))) (fun j hj=>?_) (by simp);rw[zZ,z7] at hj;rcases hj with hj|rfl
   .exact zo (ha j hj) (zr8 s k)
   .exact EA s k
 | .nil,_,_,_,h,ha,hn=>⟨h,ha,hn⟩
 | .text _ _,_,_,_,h,ha,hn=>⟨h,ha,hn⟩
 | .hash _,_,_,_,h,ha,hn=>⟨h,ha,hn⟩
 | .put _ _ _,_,_,_,h,ha,hn=>⟨h,ha,hn⟩
 | .num _ _ _,_,_,_,h,ha,hn=>⟨h,ha,hn⟩
 | .br _ _ _ _ _ _ _,_,_,_,h,ha,hn=>⟨h,ha,hn⟩
theorem fh.qD:∀ (f:Fo) (s:MkS) (acc:List (Wd×Nat)),(∀ k∈f.keys,k.head? = some 61->xE k.tail<=1000000000)->fh N s->fh N (MkS.qD f s acc).1
 | .uz k _ _ r,s,acc,hk,h=>by
  rw[MkS.qD];have Qr:∀ k∈r.keys,k.head? = some 61->xE k.tail<=1000000000:=fun x hx=>hk x (zf _ hx)
  split
  .rename_i Ph;exact fh.qD r _ _ Qr (h.put _ _ _ _ (fun j hj=>by cases hj) (zY _) (hk k (zQ ..) Ph) (fun y hy=>z7.1 hy) rfl)
  .exact fh.qD r s acc Qr h
 | .nil,_,_,_,h=>h
 | .text _ _,_,_,_,h=>h
 | .hash _,_,_,_,h=>h
 | .put _ _ _,_,_,_,h=>h
 | .num _ _ _,_,_,_,h=>h
 | .br _ _ _ _ _ _ _,_,_,_,h=>h
theorem fh.plu(n o:Wd)(bs:Fo)(s0:MkS)(k:Wd)(h:fh N s):fh N (MkS.jE n o bs s0 k s):=by
 unfold MkS.jE;split
 .exact h.u7 _ _
 .exact MkS.fM (fh N) _ (fun s c h=>by split;exact h.u7 _ _;exact h) _ _ h
theorem fh.ud(h:fh N s)(l:List Nat):fh N (l.foldl (fun s i=>MkS.u7 s i 0) s):=MkS.fM (fh N) _ (fun _ _ h=>h.u7 _ _) _ _ h
theorem fh.go(hN:20<=N):∀ (f:Fo) (bg:Wd->MkS->MkS) (s:MkS) (ls:List Nat),(∀ k s,fh N s->fh N (bg k s))->f.UW->f.sh->f.cw<=N->fh N s->fh N (MkS.qq f bg s ls).1
 | .nil,_,_,_,_,_,_,_,h=>h
 | .text t r,bg,s,ls,hb,hc,hs,hw,h=>fh.go hN r bg _ ls hb hc.2 hs.2 (by simp only[Fo.cw] at hw;omega) (h.one _ _ hs.1 rfl (by omega))
 | .hash r,bg,s,ls,hb,hc,hs,hw,h=>fh.go hN r bg _ ls hb hc hs (by simp only[Fo.cw] at hw;omega) (h.put _ _ _ _ (fun j hj=>by cases hj) (zY _) (zY _) (fun y hy=>by cases hy) rfl)
 | .put n _ r,bg,s,ls,hb,hc,hs,hw,h=>fh.go hN r bg _ ls hb hc.2 hs (by simp only[Fo.cw] at hw;omega) (h.one _ _ (by have:=hc.1;omega) rfl (by omega))
 | .num n _ r,bg,s,ls,hb,hc,hs,hw,h=>fh.go hN r bg _ ls hb hc.2 hs (by simp only[Fo.cw] at hw;omega) (h.one _ _ (by have:=hc.1;omega) rfl (by omega))
 | .br n _ f o _ bs r,bg,s,ls,hb,hc,hs,hw,h=>by
  obtain⟨c1,c2,c3,c4,c5,c6,c7,c8⟩:=hc;have hw':=hw;simp only[Fo.cw] at hw;have hn:n.length<=5000:=by omega
  have CC:=Fo.YR bs;rw[MkS.qq];split
  .obtain⟨a1,a2,a3⟩:=fh.j7 bs (s.const n) [s.num n] (fun k hk=>by have:=(c6 k hk).1;omega) (h.const n hn) (fun j hj=>by rw[z7.1 hj];exact EA s n) (by simp);have hl:=(MkS.Qk bs (s.const n) [s.num n]).2.2.1;refine fh.go hN r bg _ ls hb c8 hs.2 (by omega) (fh.ud (fh.go hN bs _ _ _ (fun k x hx=>hx.u7 _ _) c7 hs.1 (by omega) ?_) _);exact a1.put _ _ _ _ a2 (by rw[ze] at hl;simp only[MkS.gT];omega) (zY _) (fun y hy=>(zm.1 hy).2) (by rw[List.length_replicate];simp only[MkS.gT,shB,beq_self_eq_true,Bool.and_true,decide_eq_true_eq];exact decide_eq_true (List.length_pos_iff.2 a3))
  .rename_i hf;refine fh.go hN r bg _ ls hb c8 hs.2 (by omega) (fh.put (fh.ud (fh.go hN bs _ _ _ (fun k x hx=>hx.plu n o bs s k) c7 hs.1 (by omega) ?_) _) _ _ _ _ (fun j hj=>by cases hj) (zY _) (zY _) (fun y hy=>by cases hy) rfl);refine fh.put (fh.qD bs _ _ (fun k hk Ph=>?_) ((h.const n hn).put _ _ _ _ (fun j hj=>by rw[z7.1 hj];exact EA s n) (by simp;omega) (by omega) (fun y hy=>by cases hy) rfl)) _ _ _ _ (fun j hj=>by cases hj) (zY _) (zY _) (fun y hy=>(zm.1 hy).2) (by split<;>rfl);obtain⟨-,e2,e3⟩:=(c6 k hk).2 hf Ph;have h1:=QI _ e3;have h2:10 ^ k.tail.length<=10 ^ 9:=Nat.pow_le_pow_right (by omega) e2;omega
 | .uz k _ m r,bg,s,ls,hb,hc,hs,hw,h=>by
  simp only[Fo.cw] at hw;exact fh.go hN r bg _ _ hb hc.2.2 hs.2 (by omega) (fh.put (fh.go hN m _ _ _ (fun _ _ h=>h) hc.2.1 hs.1 (by omega) (hb k s h)) _ _ _ _ (fun j hj=>by cases hj) (zY _) (zY _) (fun y hy=>z7.1 hy) rfl)
end
theorem zg6{f:Fo}(hc:f.UW)(hs:f.sh):fh (f.cw+20) (MkS.all f) :=
 fh.put (fh.go (N:=f.cw+20) (by omega) f _ _ [] (fun _ _ h=>h) hc hs (by omega) ⟨fun x hx=>(by cases hx),fun t ht=>(by cases ht)⟩) _ _ _ _ (fun j hj=>by cases hj) (zY _) (zY _) (fun y hy=>by cases hy) rfl
theorem zg7(f:Fo):(MkS.all f).sz<=f.cw+3:=by
 have h:=(Np f MkS.start).2;have h1:(uJ ⟨0,(MkS.dm f MkS.start).pos,0,[],[]⟩).length=1:=by rfl
 rw[show MkS.start.sz=0 from rfl] at h;rw[MkS.all,gu,h1];omega
theorem zzd{x:jG}{N c p:Nat}(h:OkX N c p x):(x.op=7->0<x.tg.length)/\(x.op=10->x.k≠[]/\x.tg.length=x.k.length)/\x.op<12/\okB (fZ x.op) x.k.length x.tg.length=true:=by
 obtain⟨-,-,-,-,h⟩:=h;obtain⟨op,pos,v,k,tg⟩:=x;dsimp only at h |-
 unfold shB at h;split at h<;>simp only[Bool.and_eq_true,beq_iff_eq,decide_eq_true_eq,reduceCtorEq] at h
 all_goals refine⟨by omega,fun q=>?_,by omega,?_⟩
 all_goals first|omega|skip
 all_goals first|(rw[h.1,h.2];rfl)|skip
 .exact⟨fun e=>by rw[e] at h;exact Nat.lt_irrefl _ h.1,h.2⟩
 .rw[h.2];simp only[fZ,okB];simp;omega
theorem Lt{f:Fo}(hc:f.UW)(hs:f.sh)(hw:f.cw<=90000):iR (MkS.all f)/\(MkS.all f).code.length<=100000/\(MkS.all f).cs.length<=1000000/\(∀ t∈(MkS.all f).cs,t.length<=5000)/\∀ x∈(MkS.all f).code,x.v<=1000000000/\∀ y∈x.tg,y<=4000000000:=by
 obtain⟨h1,h2⟩:=zg6 hc hs;have hz:=zg7 f;simp only[MkS.sz] at hz;refine⟨fun x hx=>⟨(zzd (h1 x hx)).1,fun uM=>?_⟩,by omega,by omega,h2,fun x hx=>⟨(h1 x hx).2.2.1,fun y hy=>by have:=(h1 x hx).2.2.2.1 y hy;omega⟩⟩;obtain⟨a1,a2,-⟩:=h1 x hx;obtain⟨b1,b2⟩:=(zzd (h1 x hx)).2.1 uM;refine⟨by omega,zP.2 fun j hj=>decide_eq_true (a1 j (List.mem_of_mem_tail hj)),?_⟩
 cases hk:x.k with
 | nil=>exact absurd hk b1
 | cons a l=>rw[hk] at b2;simp only[zS,zw] at b2 |-;omega
end Go.Proofs.YthpldolmpinnhaaGreatDoor
