import Derived.Test.YthpldolmpinnhaaGreatDoorJF20
open Bool renaming and_eq_true→z7
open List renaming nodup_nil→z8,length_append→zx,flatMap_cons→zv,length_take→zu,length_cons→zk
open Nat renaming le_refl→zy
namespace Go.Proofs.YthpldolmpinnhaaGreatDoor
open Go Go.RowKit
set_option maxRecDepth 10000
def cY(num:Bool)(k:Wd):Prop:=k.length<=17/\(num=true->k.head? = some 61->EqW k)
def Fo.fit:Fo->Prop
 | .nil=>True
 | .text _ r=>r.fit
 | .hash r=>r.fit
 | .put n _ r=>n.length<=16/\r.fit
 | .num n _ r=>n.length<=16/\r.fit
 | .br n _ f o _ bs r=>n.length<=16/\f<3/\xE o<=999999999/\(∀ k∈bs.keys,cY (decide (f≠0)) k)/\bs.fit/\r.fit
 | .uf _ _ m r=>m.fit/\r.fit
def Fo.uM:Fo->Nat
 | .nil=>0
 | .text t r=>t.length+5+r.uM
 | .hash r=>5+r.uM
 | .put _ _ r=>24+r.uM
 | .num _ _ r=>24+r.uM
 | .br _ _ _ _ _ bs r=>40+bs.uM+r.uM
 | .uf _ _ m r=>28+m.uM+r.uM
def Fo.once:Fo->Prop
 | .nil=>True
 | .text _ r=>r.once
 | .hash r=>r.once
 | .put _ _ r=>r.once
 | .num _ _ r=>r.once
 | .br _ _ _ _ _ bs r=>bs.keys.Nodup/\bs.once/\r.once
 | .uf _ _ m r=>m.once/\r.once
theorem Fo.bu:∀ f:Fo,f.cw<=f.uM
 | .nil=>zy _
 | .text t r=>by have:=Fo.bu r;simp only[Fo.cw,Fo.uM];omega
 | .hash r=>by have:=Fo.bu r;simp only[Fo.cw,Fo.uM];omega
 | .put n a r=>by have:=Fo.bu r;simp only[Fo.cw,Fo.uM];omega
 | .num n a r=>by have:=Fo.bu r;simp only[Fo.cw,Fo.uM];omega
 | .br n a f o c b r=>by have:=Fo.bu b;have:=Fo.bu r;simp only[Fo.cw,Fo.uM];omega
 | .uf k a m r=>by have:=Fo.bu m;have:=Fo.bu r;simp only[Fo.cw,Fo.uM];omega
theorem Fo.bq:∀ f:Fo,f.fit->f.wf 2000000=true->f.uM<=5000000->f.once->f.YF
 | .nil,_,_,_,_=>trivial
 | .text t r,h,w,m,o=>by simp only[Fo.uM] at m;exact⟨by omega,Fo.bq r h w (by omega) o⟩
 | .hash r,h,w,m,o=>by simp only[Fo.uM] at m;exact Fo.bq r h w (by omega) o
 | .put n a r,h,w,m,o=>by
  simp only[Fo.uM] at m;simp only[Fo.wf,z7] at w;exact⟨h.1,Fo.bq r h.2 w.2 (by omega) o⟩
 | .num n a r,h,w,m,o=>by
  simp only[Fo.uM] at m;simp only[Fo.wf,z7] at w;exact⟨h.1,Fo.bq r h.2 w.2 (by omega) o⟩
 | .br n a f of c b r,h,w,m,o=>by
  simp only[Fo.uM] at m;simp only[Fo.wf,z7] at w;obtain⟨h1,h2,h3,h4,h5,h6⟩:=h;refine⟨h1,h2,h3,w.1.1.1.2,o.1,fun k hk=>⟨(h4 k hk).1,fun hf=>(h4 k hk).2 (by simpa using hf)⟩,Fo.bq b h5 w.1.2 (by omega) o.2.1,Fo.bq r h6 w.2 (by omega) o.2.2⟩
 | .uf k a g r,h,w,m,o=>by
  simp only[Fo.uM] at m;simp only[Fo.wf,z7] at w;exact⟨w.1.1.1.2,Fo.bq g h.1 w.1.2 (by omega) o.1,Fo.bq r h.2 w.2 (by omega) o.2⟩
theorem Fo.gO:∀ f g:Fo,f.fit->g.fit->(f.app g).fit
 | .nil,g,_,h=>h
 | .text t r,g,h,h2=>Fo.gO r g h h2
 | .hash r,g,h,h2=>Fo.gO r g h h2
 | .put n a r,g,h,h2=>⟨h.1,Fo.gO r g h.2 h2⟩
 | .num n a r,g,h,h2=>⟨h.1,Fo.gO r g h.2 h2⟩
 | .br n a f o c b r,g,h,h2=>⟨h.1,h.2.1,h.2.2.1,h.2.2.2.1,h.2.2.2.2.1,Fo.gO r g h.2.2.2.2.2 h2⟩
 | .uf k a m r,g,h,h2=>⟨h.1,Fo.gO r g h.2 h2⟩
theorem Fo.kN:∀ f g:Fo,(f.app g).uM=f.uM+g.uM
 | .nil,g=>by simp[Fo.app,Fo.uM]
 | .text t r,g=>by simp only[Fo.app,Fo.uM,Fo.kN r g];omega
 | .hash r,g=>by simp only[Fo.app,Fo.uM,Fo.kN r g];omega
 | .put n a r,g=>by simp only[Fo.app,Fo.uM,Fo.kN r g];omega
 | .num n a r,g=>by simp only[Fo.app,Fo.uM,Fo.kN r g];omega
 | .br n a f o c b r,g=>by simp only[Fo.app,Fo.uM,Fo.kN r g];omega
 | .uf k a m r,g=>by simp only[Fo.app,Fo.uM,Fo.kN r g];omega
theorem Fo.Lv:∀ f g:Fo,f.uv=true->(f.app g).keys=f.keys++g.keys
 | .nil,g,_=>rfl
 | .uf k a m r,g,h=>by
  show k::(r.app g).keys=_;rw[Fo.Lv r g h];rfl
theorem YT:∀ (f g:Fo),(f.app g).fit->f.fit
 | .nil,g,_=>trivial
 | .text t r,g,h=>YT r g h
 | .hash r,g,h=>YT r g h
 | .put n a r,g,h=>⟨h.1,YT r g h.2⟩
 | .num n a r,g,h=>⟨h.1,YT r g h.2⟩
 | .br n a f o c b r,g,h=>⟨h.1,h.2.1,h.2.2.1,h.2.2.2.1,h.2.2.2.2.1,YT r g h.2.2.2.2.2⟩
 | .uf k a m r,g,h=>⟨h.1,YT r g h.2⟩
theorem Fo.Lu{f:Fo}(h:f.fit)(t:Wd):(f.xL t).fit/\(f.xL t).uM<=f.uM+t.length+5:=by
 cases hl:f.xG with
 | none =>
  rw[ug f t hl];exact⟨Fo.gO _ _ h trivial,by rw[Fo.kN];simp only[Fo.uM];omega⟩
 | some s =>
  obtain⟨pre,h1,h2,h3⟩:=ux f s hl;rw[h1] at h;rw[h3];refine⟨Fo.gO _ _ (YT _ _ h) trivial,?_⟩;rw[Fo.kN,show f.uM=(pre.app (.text s .nil)).uM from congrArg _ h1,Fo.kN];simp only[Fo.uM,zx];omega
theorem pP(cl:Nat):∀ (f:Fo) (seen:List Wd) (acc:List (Nat×Nat)),Qp cl seen acc f=[]->acc=[]/\(∀ k∈f.keys,k ∉ seen)/\f.keys.Nodup:=by
 have hn:∀ (f:Fo) (seen:List Wd) (acc:List (Nat×Nat)),(if Gh∈seen then acc else acc++[(6,cl)])=[]->acc=[]:=fun f seen acc h=>by
  split at h
  ·exact h
  ·simp at h
 intro f;induction f with
 | uf k a m r _ ih =>
  intro seen acc h;rw[Qp] at h;obtain⟨h1,h2,h3⟩:=ih _ _ h;split at h1
  ·simp at h1
  next hk =>
  refine⟨h1,fun x hx=>?_,?_⟩
  ·rcases List.mem_cons.1 hx with rfl|hx
   ·exact hk
   ·exact fun q=>h2 x hx (List.mem_cons_of_mem _ q)
  ·exact List.nodup_cons.2 ⟨fun q=>h2 k q List.mem_cons_self,h3⟩
 | nil=>intro seen acc h;exact⟨hn .nil seen acc h,(fun k hk=>by cases hk),z8⟩
 | text _ _ _=>intro seen acc h;exact⟨hn .nil seen acc h,(fun k hk=>by cases hk),z8⟩
 | hash _ _=>intro seen acc h;exact⟨hn .nil seen acc h,(fun k hk=>by cases hk),z8⟩
 | put _ _ _ _=>intro seen acc h;exact⟨hn .nil seen acc h,(fun k hk=>by cases hk),z8⟩
 | num _ _ _ _=>intro seen acc h;exact⟨hn .nil seen acc h,(fun k hk=>by cases hk),z8⟩
 | br _ _ _ _ _ _ _ _ _=>intro seen acc h;exact⟨hn .nil seen acc h,(fun k hk=>by cases hk),z8⟩
theorem Y3{s:Qr}{n:Wd}{a k:Nat}(h:(uj s n a k).2=[]):s.2=[]:=by
 unfold uj at h;split at h
 ·simp at h
 ·split at h<;>exact h
theorem jQ:∀ (f:Fo) (s s':Qr),vP dL f s = .go true s'->s'.2=[]->s.2=[]/\f.once
 | .nil,s,s',h,e=>by
  cases h;exact⟨e,trivial⟩
 | .text _ r,s,s',h,e=>jQ r s s' h e
 | .hash r,s,s',h,e=>jQ r s s' h e
 | .put n a r,s,s',h,e=>by
  obtain⟨h1,h2⟩:=jQ r (uj s n a 0) s' h e;exact⟨Y3 h1,h2⟩
 | .num n a r,s,s',h,e=>by
  obtain⟨h1,h2⟩:=jQ r (uj s n a 1) s' h e;exact⟨Y3 h1,h2⟩
 | .br n a f o c bs r,s,s',h,e=>by
  obtain⟨s1,h1⟩:∃ s1:Qr,((uj s n a (jT (.br n a f o c bs .nil))).1,(uj s n a (jT (.br n a f o c bs .nil))).2++Qp c [] [] bs)=s1:=⟨_,rfl⟩;have h2:(vP dL bs s1).then (fun s=>vP dL r s) = .go true s':=by rw[←h1];exact h
  obtain⟨s2,h3⟩:=kX bs s1;rw[h3] at h2;obtain⟨h4,h5⟩:=jQ r s2 s' h2 e;obtain⟨h6,h7⟩:=jQ bs s1 s2 h3 h4;rw[←h1] at h6;obtain⟨h8,h9⟩:=List.append_eq_nil_iff.1 h6;exact⟨Y3 h8,(pP c bs _ _ h9).2.2,h7,h5⟩
 | .uf k a m r,s,s',h,e=>by
  obtain⟨s1,h1⟩:=kX m s;have h2:(vP dL m s).then (fun s=>vP dL r s) = .go true s':=h;rw[h1] at h2;obtain⟨h4,h5⟩:=jQ r s1 s' h2 e;obtain⟨h6,h7⟩:=jQ m s s1 h1 h4;exact⟨h6,h7,h5⟩
theorem Lq{f:Fo}(h:ZP f=none):f.once:=by
 obtain⟨s,hs⟩:=kX f ((fun _=>none),[]);have e:je f=s.2:=by unfold je;rw[hs]
 unfold ZP at h;refine(jQ f _ s hs ?_).2;rw[←e]
 cases hq:je f with
 | nil=>rfl
 | cons a t=>rw[hq] at h;cases h
theorem cX{l:Wd}(h:l.length<=9)(hd:l.all xJ=true):xE l<=999999999:=by
 have hb:∀ (l:Wd) (v:Nat),l.all xJ=true->l.foldl (fun v c=>10*v+(c.toNat - 48)) v<(v+1)*10 ^ l.length:=by
  intro l;induction l with
  | nil=>intro v _;simp
  | cons c t ih =>
   intro v h;simp only[List.all_cons,z7] at h;have hc:=(vR c).1 h.1;have:=ih (10*v+(c.toNat - 48)) h.2;rw[List.foldl_cons,zk];refine Nat.lt_of_lt_of_le this ?_;have h3:10*v+(c.toNat - 48)+1<=(v+1)*10:=by omega
   calc (10*v+(c.toNat - 48)+1)*10 ^ t.length<=((v+1)*10)*10 ^ t.length:=Nat.mul_le_mul_right _ h3
    _=(v+1)*10 ^ (t.length+1):=by rw[Nat.pow_succ,Nat.mul_assoc,Nat.mul_comm 10]
 have h1:=hb l 0 hd;have h2:10 ^ l.length<=10 ^ 9:=Nat.pow_le_pow_right (by decide) h;have h3:(10:Nat) ^ 9=1000000000:=by decide
 unfold xE;omega
theorem pR:∀ k:Fin 128,(enc (k.val:Int)).length=1:=by decide
theorem BC:∀ (l:List Int),(∀ r∈l,0<=r/\r<128)->(l.flatMap enc).length=l.length
 | [],_=>rfl
 | r::t,h=>by
  have h1:=h r (by simp);have h2:=pR ⟨r.toNat,by omega⟩;rw[show(((⟨r.toNat,by omega⟩:Fin 128).val:Nat):Int)=r from by show((r.toNat:Nat):Int)=r;omega] at h2;rw[zv,zx,h2,BC t (fun q hq=>h q (by simp[hq]))];simp;omega
theorem OV(l:List Int):(l.flatMap enc).length<=4*l.length:=by
 induction l with
 | nil=>simp
 | cons a t ih=>have:=(kd a).1;simp only[zv,zx,zk];omega
theorem F6:∀ (n:Nat) (l:List Int),l.length<=n->(vg l).1.length<=(vg l).2
 | 0,l,h=>by
  obtain rfl:l=[]:=List.length_eq_zero_iff.1 (by omega);rw[vg];exact zy _
 | n+1,[],h=>by rw[vg];exact zy _
 | n+1,c::t,h=>by
  rw[vg.eq_def];simp only;split
  ·split
   ·simp
   ·next d u =>
    split
    ·have:=F6 n u (by simp at h;omega);simp;omega
    ·simp
  ·have:=F6 n t (by simp at h;omega);simp;omega
theorem BE(rs:List Int)(num:Bool)(i:Nat):(j5 rs num i).1.length+4*i<=4*(j5 rs num i).2:=by
 unfold j5;split
 ·have:=(kd (xU rs i)).1;show(enc (xU rs i)).length+4*i<=4*(i+1);omega
 split
 ·have:=(kd 39).1;show(enc 39).length+4*i<=4*(i+2);omega
 split
 ·have:=(kd 39).1;show(enc 39).length+4*i<=4*(i+1);omega
 ·have h1:=OV (vg (rs.drop (i+1))).1;have h2:=F6 _ (rs.drop (i+1)) (zy _);show((vg (rs.drop (i+1))).1.flatMap enc).length+4*i<=4*(i+1+(vg (rs.drop (i+1))).2);omega
def F7(m:kC):Prop:=∀ num i f j,m num i = .ok (f,j)->f.fit/\f.uM+44*i<=44*j
section
variable {rs:List Int}
theorem F8{i j:Nat}{x:Wd}(h:gu rs i = .ok (x,j)):x.length<=16/\i<j:=by
 refine⟨?_,gq h⟩;unfold gu at h;split at h
 ·cases h
 next hn =>
 cases h;obtain⟨n,hN⟩:=xX (ql rs i);have hf:∀ k,k<n->k<16/\0<=xU rs (i+k)/\xU rs (i+k)<128:=fun k hk=>by
  have:=Bu (F:=XQ) (rs:=rs) (i:=i) (k:=k) (by rw[show runN XQ rs i=ql rs i from rfl,hN];exact hk);simp only[XQ,jY,qQ,z7,Bool.or_eq_true,decide_eq_true_eq,beq_iff_eq] at this;omega
 rw[hN] at hn ⊢;have h16:n<=16:=by
  have:=(hf (n - 1) (by omega)).1;omega
 have dp:∀ k,k<n->i+k<rs.length:=fun k hk=>by
  refine Nat.lt_of_not_le (fun hle=>?_);have:=(hf k hk).2.1;rw[kD hle] at this;omega
 have qY:∀ r∈(rs.drop i).take n,0<=r/\r<128:=fun r hr=>by
  obtain⟨k,hk,rfl⟩:=List.mem_iff_getElem.1 hr;simp only[zu,List.length_drop] at hk;have h1:=(hf k (by omega)).2;rw[Pl (dp k (by omega))] at h1;simpa using h1
 have h1:=BC _ qY;have h2:((rs.drop i).take n).length<=n:=by rw[zu];exact Nat.min_le_left _ _
 unfold kb;omega
theorem BH{i j:Nat}{x:Wd}(h:kZ rs i = .ok (x,j)):x.length<=9/\x.all xJ=true/\x≠[]/\i<j:=by
 have h0:=YK h;unfold kZ at h;split at h
 ·cases h
 next hn =>
 cases h;obtain⟨h1,h2,h3⟩:=Kp rs i hn;exact⟨h1,h2,h3,h0⟩
theorem pS:∀ x∈Ve,x.head?≠some 61:=by decide
theorem Rf{num:Bool}{i j:Nat}{x:Wd}(h:K9 rs num i = .ok (x,j)):cY num x/\i<j:=by
 unfold K9 at h;split at h
 ·obtain⟨a,q,h1,h2⟩:=xf h
  cases h2;obtain⟨l1,l2,l3,l4⟩:=BH h1;exact⟨⟨by simp;omega,fun _ _=>⟨l3,l1,l2⟩⟩,by omega⟩
 ·obtain⟨a,q,h1,h2⟩:=xf h;obtain⟨l1,l2⟩:=F8 h1;split at h2
  ·cases h2
  ·next hq =>
   cases h2;refine⟨⟨by omega,fun hn he=>?_⟩,l2⟩;exact absurd he (pS _ (Classical.byContradiction fun q=>hq ⟨hn,q⟩))
theorem pT{msg:Option kC}{num:Bool}{i j:Nat}{f:Fo}(hm:∀ m,msg=some m->F7 m)(h:X2 rs msg num i = .ok (f,j)):f.fit/\f.uv=true/\(∀ k∈f.keys,cY num k)/\f.uM+44*i<=44*j:=by
 unfold X2 at h;obtain⟨k,a,h1,h2⟩:=xf h;obtain⟨u,b,h3,h4⟩:=xf h2;obtain⟨hk,e1⟩:=Rf h1;have e2:=(xO h3).2;have e3:=xN rs a
 cases msg with
 | none=>cases h4
 | some m =>
  obtain⟨g,c,h5,h6⟩:=xf (show(m num b).then _=_ from h4);obtain⟨u2,z,h7,h8⟩:=xf h6;obtain⟨hg,ht⟩:=hm m rfl _ _ _ _ h5;have e5:=(xO h7).2;have e6:=xN rs z
  cases h8;refine⟨⟨hg,trivial⟩,rfl,fun q hq=>?_,?_⟩
  ·simp only[Fo.keys,List.mem_singleton] at hq;subst hq;exact hk
  ·simp only[Fo.uM];omega
theorem Lk{msg:Option kC}{num:Bool}(hm:∀ m,msg=some m->F7 m):∀ (n:Nat) (acc:Fo) (i j:Nat) (f:Fo),jN rs msg num n acc i = .ok (f,j)->acc.fit->acc.uv=true->(∀ k∈acc.keys,cY num k)->f.fit/\(∀ k∈f.keys,cY num k)/\f.uM+44*i<=acc.uM+44*j
 | 0,acc,i,j,f,h,_,_,_=>by cases h
 | n+1,acc,i,j,f,h,ha,hb,hc=>by
  rw[jN] at h;split at h
  ·cases h;exact⟨ha,hc,zy _⟩
  ·obtain⟨g,q,h1,h2⟩:=xf h;obtain⟨g1,g2,g3,g4⟩:=pT hm h1;obtain⟨k1,k2,k3⟩:=Lk hm n _ _ _ _ h2 (Fo.gO _ _ ha g1) (Fo.bS _ _ hb g2) (fun k hk=>by
    rw[Fo.Lv _ _ hb] at hk;rcases List.mem_append.1 hk with hk|hk
    ·exact hc k hk
    ·exact g3 k hk)
   rw[Fo.kN] at k3;exact⟨k1,k2,by omega⟩
theorem Rb{form i j:Nat}{o:Wd}(h:JU rs form i = .ok (o,j)):xE o<=999999999/\i<=j:=by
 have h0:=CC h;refine⟨?_,h0⟩;unfold JU at h;split at h
 ·obtain⟨a,q,h1,h2⟩:=xf h
  cases h2;obtain⟨l1,l2,l3,l4⟩:=BH h1;exact cX l1 l2
 ·cases h;decide
theorem pW{msg:Option kC}{i j:Nat}{f:Fo}(hm:∀ m,msg=some m->F7 m)(h:YX rs msg i = .ok (f,j)):f.fit/\f.uM+44*i<=44*j:=by
 unfold YX at h;obtain⟨u,a,h1,h2⟩:=xf h;obtain⟨nm,b,h3,h4⟩:=xf h2;have e1:=(xO h1).2;have e2:=xN rs a;obtain⟨hn,e3⟩:=F8 h3;have e4:=xN rs b;clear h h1 h2 h3;split at h4
 ·obtain⟨u,z,h5,h6⟩:=xf h4;have:=(xO h5).2
  cases h6;exact⟨⟨hn,trivial⟩,by simp only[Fo.uM];omega⟩
 ·obtain⟨wd,c,h5,h6⟩:=xf h4;have e5:=gq h5;have e6:=xN rs (xr rs b+1);have e7:=xN rs c;clear h4 h5;split at h6
  ·obtain⟨u,z,h7,h8⟩:=xf h6;have:=(xO h7).2
   cases h8;exact⟨⟨hn,trivial⟩,by simp only[Fo.uM];omega⟩
  ·split at h6
   ·cases h6
   ·next form Rj =>
    obtain⟨u,d,h7,h8⟩:=xf h6;obtain⟨o,l,h9,dw⟩:=xf h8;obtain⟨bs,q,Jc,Gj⟩:=xf dw;obtain⟨u,z,oJ,oG⟩:=xf Gj;have:=(xO h7).2;have:=xN rs d;obtain⟨ho,_⟩:=Rb h9;obtain⟨b1,b2,b3⟩:=Lk hm _ _ _ _ _ Jc trivial rfl (fun k hk=>by cases hk);have e9:=(xO oJ).2;have Uw:=GF Rj
    cases oG;refine⟨⟨hn,Uw,ho,b2,b1,trivial⟩,?_⟩;simp only[Fo.uM] at b3 ⊢;omega
theorem QY{msg:Option kC}{num:Bool}(hm:∀ m,msg=some m->F7 m):∀ (n:Nat) (acc:Fo) (i j:Nat) (f:Fo),qC rs msg num n acc i = .ok (f,j)->acc.fit->f.fit/\f.uM+44*i<=acc.uM+44*j
 | 0,acc,i,j,f,h,_=>by cases h
 | n+1,acc,i,j,f,h,ha=>by
  rw[qC] at h;split at h
  ·cases h;exact⟨ha,zy _⟩
  split at h
  ·obtain⟨g,q,h1,h2⟩:=xf h;obtain⟨g1,g2⟩:=pW hm h1;obtain⟨k1,k2⟩:=QY hm n _ _ _ _ h2 (Fo.gO _ _ ha g1);rw[Fo.kN] at k2;exact⟨k1,by omega⟩
  split at h
  ·obtain⟨k1,k2⟩:=QY hm n _ _ _ _ h (Fo.gO _ _ ha trivial);rw[Fo.kN] at k2;simp only[Fo.uM] at k2;exact⟨k1,by omega⟩
  ·obtain⟨t1,t2⟩:=Fo.Lu ha (j5 rs num i).1;obtain⟨k1,k2⟩:=QY hm n _ _ _ _ h t1;have h4:=BE rs num i;have h5:=Us rs num i;exact⟨k1,by omega⟩
theorem Lj:∀ n,F7 (YV rs n)
 | 0,num,i,f,j,h=>by
  rw[YV] at h;simpa[Fo.uM] using QY (fun m e=>by cases e) _ _ _ _ _ h trivial
 | n+1,num,i,f,j,h=>by
  rw[YV] at h;simpa[Fo.uM] using QY (fun m e=>by cases e;exact Lj n) _ _ _ _ _ h trivial
end
theorem Td{l:List UInt8}{f:Fo}(h:uJ l = .ok f)(hc:ZP f=none):f.YF/\f.uM<=44000:=by
 have hg:=XS h;unfold uJ at h;split at h
 ·cases h
 split at h
 ·cases h
 next h1 _ =>
 have ZM:=Vd l;have hr:(xm l).length<=1000:=by omega
 cases hp:YU (xm l) with
 | error e=>rw[hp] at h;cases h
 | ok x =>
  rw[hp] at h
  cases h;unfold YU at hp;obtain⟨g,q,h2,h3⟩:=xf (show _=Except.ok (x.1,x.2) from hp);obtain⟨hf,hm⟩:=Lj 5 _ _ _ _ h2;have he:q<=(xm l).length:=bJ _ _ _ _ _ h2 (Nat.zero_le _);split at h3
  ·cases h3;exact⟨Fo.bq _ hf hg.wf (by omega) (Lq hc),by omega⟩
  ·cases h3
theorem Lg{l:List UInt8}{f:Fo}(h:uJ l = .ok f)(hc:ZP f=none):f.YF/\f.cw<=44000:=by
 obtain⟨h1,h2⟩:=Td h hc;exact⟨h1,Nat.le_trans (Fo.bu f) h2⟩
end Go.Proofs.YthpldolmpinnhaaGreatDoor
