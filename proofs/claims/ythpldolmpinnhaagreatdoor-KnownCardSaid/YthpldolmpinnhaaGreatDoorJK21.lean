import Derived.Test.YthpldolmpinnhaaGreatDoorJK20
open Bool renaming and_eq_true→z7
open List renaming nodup_nil→z8,length_append→zx,flatMap_cons→zv,length_take→zu,length_cons→zk
open Nat renaming le_refl→zy
namespace Go.Proofs.YthpldolmpinnhaaGreatDoor
open Go Go.RowKit
set_option maxRecDepth 10000
def AL(num:Bool)(k:Wd):Prop:=k.length<=17/\(num=true->k.head? = some 61->EqW k)
def Fo.fit:Fo->Prop
 | .nil=>True
 | .text _ r=>r.fit
 | .hash r=>r.fit
 | .put n _ r=>n.length<=16/\r.fit
 | .num n _ r=>n.length<=16/\r.fit
 | .br n _ f o _ bs r=>n.length<=16/\f<3/\xH o<=999999999/\(∀ k∈bs.keys,AL (decide (f≠0)) k)/\bs.fit/\r.fit
 | .ug _ _ m r=>m.fit/\r.fit
def Fo.uL:Fo->Nat
 | .nil=>0
 | .text t r=>t.length+5+r.uL
 | .hash r=>5+r.uL
 | .put _ _ r=>5+r.uL
 | .num _ _ r=>5+r.uL
 | .br _ _ _ _ _ bs r=>40+bs.uL+r.uL
 | .ug _ _ m r=>20+m.uL+r.uL
def Fo.once:Fo->Prop
 | .nil=>True
 | .text _ r=>r.once
 | .hash r=>r.once
 | .put _ _ r=>r.once
 | .num _ _ r=>r.once
 | .br _ _ _ _ _ bs r=>bs.keys.Nodup/\bs.once/\r.once
 | .ug _ _ m r=>m.once/\r.once
theorem Fo.dT:∀ f:Fo,f.cw<=f.uL
 | .nil=>zy _
 | .text t r=>by have:=Fo.dT r;simp only[Fo.cw,Fo.uL];omega
 | .hash r=>by have:=Fo.dT r;simp only[Fo.cw,Fo.uL];omega
 | .put n a r=>by have:=Fo.dT r;simp only[Fo.cw,Fo.uL];omega
 | .num n a r=>by have:=Fo.dT r;simp only[Fo.cw,Fo.uL];omega
 | .br n a f o c b r=>by have:=Fo.dT b;have:=Fo.dT r;simp only[Fo.cw,Fo.uL];omega
 | .ug k a m r=>by have:=Fo.dT m;have:=Fo.dT r;simp only[Fo.cw,Fo.uL];omega
theorem Fo.dW:∀ f:Fo,f.fit->f.wf 2000000=true->f.uL<=5000000->f.once->f.UN
 | .nil,_,_,_,_=>trivial
 | .text t r,h,w,m,o=>by simp only[Fo.uL] at m;exact⟨by omega,Fo.dW r h w (by omega) o⟩
 | .hash r,h,w,m,o=>by simp only[Fo.uL] at m;exact Fo.dW r h w (by omega) o
 | .put n a r,h,w,m,o=>by
  simp only[Fo.uL] at m;simp only[Fo.wf,z7] at w;exact⟨h.1,Fo.dW r h.2 w.2 (by omega) o⟩
 | .num n a r,h,w,m,o=>by
  simp only[Fo.uL] at m;simp only[Fo.wf,z7] at w;exact⟨h.1,Fo.dW r h.2 w.2 (by omega) o⟩
 | .br n a f of c b r,h,w,m,o=>by
  simp only[Fo.uL] at m;simp only[Fo.wf,z7] at w;obtain⟨h1,h2,h3,h4,h5,h6⟩:=h;refine⟨h1,h2,h3,w.1.1.1.2,o.1,fun k hk=>⟨(h4 k hk).1,fun hf=>(h4 k hk).2 (by simpa using hf)⟩,Fo.dW b h5 w.1.2 (by omega) o.2.1,Fo.dW r h6 w.2 (by omega) o.2.2⟩
 | .ug k a g r,h,w,m,o=>by
  simp only[Fo.uL] at m;simp only[Fo.wf,z7] at w;exact⟨w.1.1.1.2,Fo.dW g h.1 w.1.2 (by omega) o.1,Fo.dW r h.2 w.2 (by omega) o.2⟩
theorem Fo.gC:∀ f g:Fo,f.fit->g.fit->(f.app g).fit
 | .nil,g,_,h=>h
 | .text t r,g,h,h2=>Fo.gC r g h h2
 | .hash r,g,h,h2=>Fo.gC r g h h2
 | .put n a r,g,h,h2=>⟨h.1,Fo.gC r g h.2 h2⟩
 | .num n a r,g,h,h2=>⟨h.1,Fo.gC r g h.2 h2⟩
 | .br n a f o c b r,g,h,h2=>⟨h.1,h.2.1,h.2.2.1,h.2.2.2.1,h.2.2.2.2.1,Fo.gC r g h.2.2.2.2.2 h2⟩
 | .ug k a m r,g,h,h2=>⟨h.1,Fo.gC r g h.2 h2⟩
theorem Fo.kL:∀ f g:Fo,(f.app g).uL=f.uL+g.uL
 | .nil,g=>by simp[Fo.app,Fo.uL]
 | .text t r,g=>by simp only[Fo.app,Fo.uL,Fo.kL r g];omega
 | .hash r,g=>by simp only[Fo.app,Fo.uL,Fo.kL r g];omega
 | .put n a r,g=>by simp only[Fo.app,Fo.uL,Fo.kL r g];omega
 | .num n a r,g=>by simp only[Fo.app,Fo.uL,Fo.kL r g];omega
 | .br n a f o c b r,g=>by simp only[Fo.app,Fo.uL,Fo.kL r g];omega
 | .ug k a m r,g=>by simp only[Fo.app,Fo.uL,Fo.kL r g];omega
theorem Fo.Iz:∀ f g:Fo,f.ux=true->(f.app g).keys=f.keys++g.keys
 | .nil,g,_=>rfl
 | .ug k a m r,g,h=>by
  show k::(r.app g).keys=_;rw[Fo.Iz r g h];rfl
theorem YQ:∀ (f g:Fo),(f.app g).fit->f.fit
 | .nil,g,_=>trivial
 | .text t r,g,h=>YQ r g h
 | .hash r,g,h=>YQ r g h
 | .put n a r,g,h=>⟨h.1,YQ r g h.2⟩
 | .num n a r,g,h=>⟨h.1,YQ r g h.2⟩
 | .br n a f o c b r,g,h=>⟨h.1,h.2.1,h.2.2.1,h.2.2.2.1,h.2.2.2.2.1,YQ r g h.2.2.2.2.2⟩
 | .ug k a m r,g,h=>⟨h.1,YQ r g h.2⟩
theorem Fo.Iy{f:Fo}(h:f.fit)(t:Wd):(f.xM t).fit/\(f.xM t).uL<=f.uL+t.length+5:=by
 cases hl:f.xJ with
 | none =>
  rw[uj f t hl];exact⟨Fo.gC _ _ h trivial,by rw[Fo.kL];simp only[Fo.uL];omega⟩
 | some s =>
  obtain⟨pre,h1,h2,h3⟩:=uy f s hl;rw[h1] at h;rw[h3];refine⟨Fo.gC _ _ (YQ _ _ h) trivial,?_⟩;rw[Fo.kL,show f.uL=(pre.app (.text s .nil)).uL from congrArg _ h1,Fo.kL];simp only[Fo.uL,zx];omega
theorem nD(cl:Nat):∀ (f:Fo) (seen:List Wd) (acc:List (Nat×Nat)),Qs cl seen acc f=[]->acc=[]/\(∀ k∈f.keys,k ∉ seen)/\f.keys.Nodup:=by
 have hn:∀ (f:Fo) (seen:List Wd) (acc:List (Nat×Nat)),(if Dk∈seen then acc else acc++[(6,cl)])=[]->acc=[]:=fun f seen acc h=>by
  split at h
  ·exact h
  ·simp at h
 intro f;induction f with
 | ug k a m r _ ih =>
  intro seen acc h;rw[Qs] at h;obtain⟨h1,h2,h3⟩:=ih _ _ h;split at h1
  ·simp at h1
  next hk =>
  refine⟨h1,fun x hx=>?_,?_⟩
  ·rcases List.mem_cons.1 hx with rfl|hx
   ·exact hk
   ·exact fun q=>h2 x hx (List.mem_cons_of_mem _ q)
  ·exact List.nodup_cons.2 ⟨fun q=>h2 k q List.mem_cons_self,h3⟩
 | nil=>intro seen acc h;exact⟨hn .nil seen acc h,(fun k hk=>by cases hk),z8⟩
 | text _ _ _=>intro seen acc h;exact⟨hn .nil seen acc h,(fun k hk=>by cases hk),z8⟩
 | hash _ _=>intro seen acc h;exact⟨hn .nil seen acc h,(fun k hk=>by cases hk),z8⟩
 | put _ _ _ _=>intro seen acc h;exact⟨hn .nil seen acc h,(fun k hk=>by cases hk),z8⟩
 | num _ _ _ _=>intro seen acc h;exact⟨hn .nil seen acc h,(fun k hk=>by cases hk),z8⟩
 | br _ _ _ _ _ _ _ _ _=>intro seen acc h;exact⟨hn .nil seen acc h,(fun k hk=>by cases hk),z8⟩
theorem Ze{s:KL}{n:Wd}{a k:Nat}(h:(uY s n a k).2=[]):s.2=[]:=by
 unfold uY at h;split at h
 ·simp at h
 ·split at h<;>exact h
theorem jX:∀ (f:Fo) (s s':KL),ve bM f s = .go true s'->s'.2=[]->s.2=[]/\f.once
 | .nil,s,s',h,e=>by
  cases h;exact⟨e,trivial⟩
 | .text _ r,s,s',h,e=>jX r s s' h e
 | .hash r,s,s',h,e=>jX r s s' h e
 | .put n a r,s,s',h,e=>by
  obtain⟨h1,h2⟩:=jX r (uY s n a 0) s' h e;exact⟨Ze h1,h2⟩
 | .num n a r,s,s',h,e=>by
  obtain⟨h1,h2⟩:=jX r (uY s n a 1) s' h e;exact⟨Ze h1,h2⟩
 | .br n a f o c bs r,s,s',h,e=>by
  obtain⟨s1,h1⟩:∃ s1:KL,((uY s n a (jO (.br n a f o c bs .nil))).1,(uY s n a (jO (.br n a f o c bs .nil))).2++Qs c [] [] bs)=s1:=⟨_,rfl⟩;have h2:(ve bM bs s1).then (fun s=>ve bM r s) = .go true s':=by rw[←h1];exact h
  obtain⟨s2,h3⟩:=kX bs s1;rw[h3] at h2;obtain⟨h4,h5⟩:=jX r s2 s' h2 e;obtain⟨h6,h7⟩:=jX bs s1 s2 h3 h4;rw[←h1] at h6;obtain⟨h8,h9⟩:=List.append_eq_nil_iff.1 h6;exact⟨Ze h8,(nD c bs _ _ h9).2.2,h7,h5⟩
 | .ug k a m r,s,s',h,e=>by
  obtain⟨s1,h1⟩:=kX m s;have h2:(ve bM m s).then (fun s=>ve bM r s) = .go true s':=h;rw[h1] at h2;obtain⟨h4,h5⟩:=jX r s1 s' h2 e;obtain⟨h6,h7⟩:=jX m s s1 h1 h4;exact⟨h6,h7,h5⟩
theorem Ix{f:Fo}(h:XZ f=none):f.once:=by
 obtain⟨s,hs⟩:=kX f ((fun _=>none),[]);have e:dR f=s.2:=by unfold dR;rw[hs]
 unfold XZ at h;refine(jX f _ s hs ?_).2;rw[←e]
 cases hq:dR f with
 | nil=>rfl
 | cons a t=>rw[hq] at h;cases h
theorem AM{l:Wd}(h:l.length<=9)(hd:l.all xF=true):xH l<=999999999:=by
 have hb:∀ (l:Wd) (v:Nat),l.all xF=true->l.foldl (fun v c=>10*v+(c.toNat - 48)) v<(v+1)*10 ^ l.length:=by
  intro l;induction l with
  | nil=>intro v _;simp
  | cons c t ih =>
   intro v h;simp only[List.all_cons,z7] at h;have hc:=(vw c).1 h.1;have:=ih (10*v+(c.toNat - 48)) h.2;rw[List.foldl_cons,zk];refine Nat.lt_of_lt_of_le this ?_;have h3:10*v+(c.toNat - 48)+1<=(v+1)*10:=by omega
   calc (10*v+(c.toNat - 48)+1)*10 ^ t.length<=((v+1)*10)*10 ^ t.length:=Nat.mul_le_mul_right _ h3
    _=(v+1)*10 ^ (t.length+1):=by rw[Nat.pow_succ,Nat.mul_assoc,Nat.mul_comm 10]
 have h1:=hb l 0 hd;have h2:10 ^ l.length<=10 ^ 9:=Nat.pow_le_pow_right (by decide) h;have h3:(10:Nat) ^ 9=1000000000:=by decide
 unfold xH;omega
theorem nE:∀ k:Fin 128,(enc (k.val:Int)).length=1:=by decide
theorem Ds:∀ (l:List Int),(∀ r∈l,0<=r/\r<128)->(l.flatMap enc).length=l.length
 | [],_=>rfl
 | r::t,h=>by
  have h1:=h r (by simp);have h2:=nE ⟨r.toNat,by omega⟩;rw[show(((⟨r.toNat,by omega⟩:Fin 128).val:Nat):Int)=r from by show((r.toNat:Nat):Int)=r;omega] at h2;rw[zv,zx,h2,Ds t (fun q hq=>h q (by simp[hq]))];simp;omega
theorem Nq(l:List Int):(l.flatMap enc).length<=4*l.length:=by
 induction l with
 | nil=>simp
 | cons a t ih=>have:=(kd a).1;simp only[zv,zx,zk];omega
theorem GK:∀ (n:Nat) (l:List Int),l.length<=n->(vZ l).1.length<=(vZ l).2
 | 0,l,h=>by
  obtain rfl:l=[]:=List.length_eq_zero_iff.1 (by omega);rw[vZ];exact zy _
 | n+1,[],h=>by rw[vZ];exact zy _
 | n+1,c::t,h=>by
  rw[vZ.eq_def];simp only;split
  ·split
   ·simp
   ·next d u =>
    split
    ·have:=GK n u (by simp at h;omega);simp;omega
    ·simp
  ·have:=GK n t (by simp at h;omega);simp;omega
theorem Dt(rs:List Int)(num:Bool)(i:Nat):(ki rs num i).1.length+4*i<=4*(ki rs num i).2:=by
 unfold ki;split
 ·have:=(kd (xU rs i)).1;show(enc (xU rs i)).length+4*i<=4*(i+1);omega
 split
 ·have:=(kd 39).1;show(enc 39).length+4*i<=4*(i+2);omega
 split
 ·have:=(kd 39).1;show(enc 39).length+4*i<=4*(i+1);omega
 ·have h1:=Nq (vZ (rs.drop (i+1))).1;have h2:=GK _ (rs.drop (i+1)) (zy _);show((vZ (rs.drop (i+1))).1.flatMap enc).length+4*i<=4*(i+1+(vZ (rs.drop (i+1))).2);omega
def GJ(m:jK):Prop:=∀ num i f j,m num i = .ok (f,j)->f.fit/\f.uL+44*i<=44*j
section
variable {rs:List Int}
theorem GG{i j:Nat}{x:Wd}(h:fy rs i = .ok (x,j)):x.length<=16/\i<j:=by
 refine⟨?_,gz h⟩;unfold fy at h;split at h
 ·cases h
 next hn =>
 cases h;obtain⟨n,hN⟩:∃ n,qi rs i=n:=⟨_,rfl⟩;have hf:∀ k,k<n->k<16/\0<=xU rs (i+k)/\xU rs (i+k)<128:=fun k hk=>by
  have:=DI (F:=X1) (rs:=rs) (i:=i) (k:=k) (by rw[show runN X1 rs i=qi rs i from rfl,hN];exact hk);simp only[X1,jb,qK,z7,Bool.or_eq_true,decide_eq_true_eq,beq_iff_eq] at this;omega
 rw[hN] at hn ⊢;have h16:n<=16:=by
  have:=(hf (n - 1) (by omega)).1;omega
 have dI:∀ k,k<n->i+k<rs.length:=fun k hk=>by
  refine Nat.lt_of_not_le (fun hle=>?_);have:=(hf k hk).2.1;rw[kF hle] at this;omega
 have qC:∀ r∈(rs.drop i).take n,0<=r/\r<128:=fun r hr=>by
  obtain⟨k,hk,rfl⟩:=List.mem_iff_getElem.1 hr;simp only[zu,List.length_drop] at hk;have h1:=(hf k (by omega)).2;rw[OH (dI k (by omega))] at h1;simpa using h1
 have h1:=Ds _ qC;have h2:((rs.drop i).take n).length<=n:=by rw[zu];exact Nat.min_le_left _ _
 unfold kb;omega
theorem Dh{i j:Nat}{x:Wd}(h:jz rs i = .ok (x,j)):x.length<=9/\x.all xF=true/\x≠[]/\i<j:=by
 have h0:=Yy h;unfold jz at h;split at h
 ·cases h
 next hn =>
 cases h;obtain⟨h1,h2,h3⟩:=KF rs i hn;exact⟨h1,h2,h3,h0⟩
theorem nH:∀ x∈Vd,x.head?≠some 61:=by decide
theorem Py{num:Bool}{i j:Nat}{x:Wd}(h:Je rs num i = .ok (x,j)):AL num x/\i<j:=by
 unfold Je at h;split at h
 ·obtain⟨a,q,h1,h2⟩:=xd h
  cases h2;obtain⟨l1,l2,l3,l4⟩:=Dh h1;exact⟨⟨by simp;omega,fun _ _=>⟨l3,l1,l2⟩⟩,by omega⟩
 ·obtain⟨a,q,h1,h2⟩:=xd h;obtain⟨l1,l2⟩:=GG h1;split at h2
  ·cases h2
  ·next hq =>
   cases h2;refine⟨⟨by omega,fun hn he=>?_⟩,l2⟩;exact absurd he (nH _ (Classical.byContradiction fun q=>hq ⟨hn,q⟩))
theorem nL{msg:Option jK}{num:Bool}{i j:Nat}{f:Fo}(hm:∀ m,msg=some m->GJ m)(h:X7 rs msg num i = .ok (f,j)):f.fit/\f.ux=true/\(∀ k∈f.keys,AL num k)/\f.uL+44*i<=44*j:=by
 unfold X7 at h;obtain⟨k,a,h1,h2⟩:=xd h;obtain⟨u,b,h3,h4⟩:=xd h2;obtain⟨hk,e1⟩:=Py h1;have e2:=(xR h3).2;have e3:=xP rs a
 cases msg with
 | none=>cases h4
 | some m =>
  obtain⟨g,c,h5,h6⟩:=xd (show(m num b).then _=_ from h4);obtain⟨u2,z,h7,h8⟩:=xd h6;obtain⟨hg,ht⟩:=hm m rfl _ _ _ _ h5;have e5:=(xR h7).2;have e6:=xP rs z
  cases h8;refine⟨⟨hg,trivial⟩,rfl,fun q hq=>?_,?_⟩
  ·simp only[Fo.keys,List.mem_singleton] at hq;subst hq;exact hk
  ·simp only[Fo.uL];omega
theorem Iv{msg:Option jK}{num:Bool}(hm:∀ m,msg=some m->GJ m):∀ (n:Nat) (acc:Fo) (i j:Nat) (f:Fo),gG rs msg num n acc i = .ok (f,j)->acc.fit->acc.ux=true->(∀ k∈acc.keys,AL num k)->f.fit/\(∀ k∈f.keys,AL num k)/\f.uL+44*i<=acc.uL+44*j
 | 0,acc,i,j,f,h,_,_,_=>by cases h
 | n+1,acc,i,j,f,h,ha,hb,hc=>by
  rw[gG] at h;split at h
  ·cases h;exact⟨ha,hc,zy _⟩
  ·obtain⟨g,q,h1,h2⟩:=xd h;obtain⟨g1,g2,g3,g4⟩:=nL hm h1;obtain⟨k1,k2,k3⟩:=Iv hm n _ _ _ _ h2 (Fo.gC _ _ ha g1) (Fo.bG _ _ hb g2) (fun k hk=>by
    rw[Fo.Iz _ _ hb] at hk;rcases List.mem_append.1 hk with hk|hk
    ·exact hc k hk
    ·exact g3 k hk)
   rw[Fo.kL] at k3;exact⟨k1,k2,by omega⟩
theorem Px{form i j:Nat}{o:Wd}(h:Fs rs form i = .ok (o,j)):xH o<=999999999/\i<=j:=by
 have h0:=Bo h;refine⟨?_,h0⟩;unfold Fs at h;split at h
 ·obtain⟨a,q,h1,h2⟩:=xd h
  cases h2;obtain⟨l1,l2,l3,l4⟩:=Dh h1;exact AM l1 l2
 ·cases h;decide
theorem nM{msg:Option jK}{i j:Nat}{f:Fo}(hm:∀ m,msg=some m->GJ m)(h:YW rs msg i = .ok (f,j)):f.fit/\f.uL+44*i<=44*j:=by
 unfold YW at h;obtain⟨u,a,h1,h2⟩:=xd h;obtain⟨nm,b,h3,h4⟩:=xd h2;have e1:=(xR h1).2;have e2:=xP rs a;obtain⟨hn,e3⟩:=GG h3;have e4:=xP rs b;clear h h1 h2 h3;split at h4
 ·obtain⟨u,z,h5,h6⟩:=xd h4;have:=(xR h5).2
  cases h6;exact⟨⟨hn,trivial⟩,by simp only[Fo.uL];omega⟩
 ·obtain⟨wd,c,h5,h6⟩:=xd h4;have e5:=gz h5;have e6:=xP rs (xm rs b+1);have e7:=xP rs c;clear h4 h5;split at h6
  ·obtain⟨u,z,h7,h8⟩:=xd h6;have:=(xR h7).2
   cases h8;exact⟨⟨hn,trivial⟩,by simp only[Fo.uL];omega⟩
  ·split at h6
   ·cases h6
   ·next form Pz =>
    obtain⟨u,d,h7,h8⟩:=xd h6;obtain⟨o,l,h9,dM⟩:=xd h8;obtain⟨bs,q,KU,JS⟩:=xd dM;obtain⟨u,z,lF,lD⟩:=xd JS;have:=(xR h7).2;have:=xP rs d;obtain⟨ho,_⟩:=Px h9;obtain⟨b1,b2,b3⟩:=Iv hm _ _ _ _ _ KU trivial rfl (fun k hk=>by cases hk);have e9:=(xR lF).2;have KB:=Jr Pz
    cases lD;refine⟨⟨hn,KB,ho,b2,b1,trivial⟩,?_⟩;simp only[Fo.uL] at b3 ⊢;omega
theorem Uo{msg:Option jK}{num:Bool}(hm:∀ m,msg=some m->GJ m):∀ (n:Nat) (acc:Fo) (i j:Nat) (f:Fo),ql rs msg num n acc i = .ok (f,j)->acc.fit->f.fit/\f.uL+44*i<=acc.uL+44*j
 | 0,acc,i,j,f,h,_=>by cases h
 | n+1,acc,i,j,f,h,ha=>by
  rw[ql] at h;split at h
  ·cases h;exact⟨ha,zy _⟩
  split at h
  ·obtain⟨g,q,h1,h2⟩:=xd h;obtain⟨g1,g2⟩:=nM hm h1;obtain⟨k1,k2⟩:=Uo hm n _ _ _ _ h2 (Fo.gC _ _ ha g1);rw[Fo.kL] at k2;exact⟨k1,by omega⟩
  split at h
  ·obtain⟨k1,k2⟩:=Uo hm n _ _ _ _ h (Fo.gC _ _ ha trivial);rw[Fo.kL] at k2;simp only[Fo.uL] at k2;exact⟨k1,by omega⟩
  ·obtain⟨t1,t2⟩:=Fo.Iy ha (ki rs num i).1;obtain⟨k1,k2⟩:=Uo hm n _ _ _ _ h t1;have h4:=Dt rs num i;have h5:=UB rs num i;exact⟨k1,by omega⟩
theorem Iu:∀ n,GJ (YA rs n)
 | 0,num,i,f,j,h=>by
  rw[YA] at h;simpa[Fo.uL] using Uo (fun m e=>by cases e) _ _ _ _ _ h trivial
 | n+1,num,i,f,j,h=>by
  rw[YA] at h;simpa[Fo.uL] using Uo (fun m e=>by cases e;exact Iu n) _ _ _ _ _ h trivial
end
theorem Iq{l:List UInt8}{f:Fo}(h:um l = .ok f)(hc:XZ f=none):f.UN/\f.cw<=44000:=by
 have hg:=XY h;unfold um at h;split at h
 ·cases h
 split at h
 ·cases h
 next h1 _ =>
 have ZQ:=Xo l;have hr:(vv l).length<=1000:=by omega
 cases hp:X8 (vv l) with
 | error e=>rw[hp] at h;cases h
 | ok x =>
  rw[hp] at h
  cases h;unfold X8 at hp;obtain⟨g,q,h2,h3⟩:=xd (show _=Except.ok (x.1,x.2) from hp);obtain⟨hf,hm⟩:=Iu 5 _ _ _ _ h2;have he:q<=(vv l).length:=bz _ _ _ _ _ h2 (Nat.zero_le _);split at h3
  ·cases h3;have:=Fo.dT x.1;exact⟨Fo.dW _ hf hg.wf (by omega) (Ix hc),by omega⟩
  ·cases h3
end Go.Proofs.YthpldolmpinnhaaGreatDoor
