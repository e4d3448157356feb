import Derived.Test.YthpldolmpinnhaaGreatDoorJG20
open Bool renaming and_eq_true→z7
open List renaming nodup_nil→z8,length_append→zx,flatMap_cons→zv,length_take→zu,length_drop→zk,length_cons→zj
open Nat renaming le_refl→zy
namespace Go.Proofs.YthpldolmpinnhaaGreatDoor
open Go Go.RowKit
set_option maxRecDepth 10000
def Bx:Nat->Wd->Bool
 | _,[]=>true
 | i,c::t=>(ju (c.toNat:Int) ||(!decide (i=0) && qg (c.toNat:Int))) && Bx (i+1) t
def j8(s:Wd):Bool:=Bx 0 s && (decide (0<s.length) && decide (s.length<=16))
def NmW(n:Wd):Prop:=n.length<=16/\j8 n=true
def cO(num:Bool)(k:Wd):Prop:=k.length<=17/\(num=true->k.head? = some 61->EqW k)
def Fo.fit:Fo->Prop
 | .nil=>True
 | .text _ r=>r.fit
 | .hash r=>r.fit
 | .put n _ r=>NmW n/\r.fit
 | .num n _ r=>NmW n/\r.fit
 | .br n _ f o _ bs r=>NmW n/\f<3/\xE o<=999999999/\(∀ k∈bs.keys,cO (decide (f≠0)) k)/\bs.fit/\r.fit
 | .uz _ _ m r=>m.fit/\r.fit
def Fo.uj:Fo->Nat
 | .nil=>0
 | .text t r=>t.length+5+r.uj
 | .hash r=>5+r.uj
 | .put _ _ r=>24+r.uj
 | .num _ _ r=>24+r.uj
 | .br _ _ _ _ _ bs r=>40+bs.uj+r.uj
 | .uz _ _ m r=>28+m.uj+r.uj
def Fo.once:Fo->Prop
 | .nil=>True
 | .text _ r=>r.once
 | .hash r=>r.once
 | .put _ _ r=>r.once
 | .num _ _ r=>r.once
 | .br _ _ _ _ _ bs r=>bs.keys.Nodup/\bs.once/\r.once
 | .uz _ _ m r=>m.once/\r.once
theorem Fo.bZ:∀ f:Fo,f.cw<=f.uj
 | .nil=>zy _
 | .text t r=>by have:=Fo.bZ r;simp only[Fo.cw,Fo.uj];omega
 | .hash r=>by have:=Fo.bZ r;simp only[Fo.cw,Fo.uj];omega
 | .put n a r=>by have:=Fo.bZ r;simp only[Fo.cw,Fo.uj];omega
 | .num n a r=>by have:=Fo.bZ r;simp only[Fo.cw,Fo.uj];omega
 | .br n a f o c b r=>by have:=Fo.bZ b;have:=Fo.bZ r;simp only[Fo.cw,Fo.uj];omega
 | .uz k a m r=>by have:=Fo.bZ m;have:=Fo.bZ r;simp only[Fo.cw,Fo.uj];omega
theorem Fo.bY:∀ f:Fo,f.fit->f.wf 2000000=true->f.uj<=5000000->f.once->f.UW
 | .nil,_,_,_,_=>trivial
 | .text t r,h,w,m,o=>by simp only[Fo.uj] at m;exact⟨by omega,Fo.bY r h w (by omega) o⟩
 | .hash r,h,w,m,o=>by simp only[Fo.uj] at m;exact Fo.bY r h w (by omega) o
 | .put n a r,h,w,m,o=>by
  simp only[Fo.uj] at m;simp only[Fo.wf,z7] at w;exact⟨h.1.1,Fo.bY r h.2 w.2 (by omega) o⟩
 | .num n a r,h,w,m,o=>by
  simp only[Fo.uj] at m;simp only[Fo.wf,z7] at w;exact⟨h.1.1,Fo.bY r h.2 w.2 (by omega) o⟩
 | .br n a f of c b r,h,w,m,o=>by
  simp only[Fo.uj] at m;simp only[Fo.wf,z7] at w;obtain⟨h1,h2,h3,h4,h5,h6⟩:=h;refine⟨h1.1,h2,h3,w.1.1.1.2,o.1,fun k hk=>⟨(h4 k hk).1,fun hf=>(h4 k hk).2 (by simpa using hf)⟩,Fo.bY b h5 w.1.2 (by omega) o.2.1,Fo.bY r h6 w.2 (by omega) o.2.2⟩
 | .uz k a g r,h,w,m,o=>by
  simp only[Fo.uj] at m;simp only[Fo.wf,z7] at w;exact⟨w.1.1.1.2,Fo.bY g h.1 w.1.2 (by omega) o.1,Fo.bY r h.2 w.2 (by omega) o.2⟩
theorem Fo.gm:∀ f g:Fo,f.fit->g.fit->(f.app g).fit
 | .nil,g,_,h=>h
 | .text t r,g,h,h2=>Fo.gm r g h h2
 | .hash r,g,h,h2=>Fo.gm r g h h2
 | .put n a r,g,h,h2=>⟨h.1,Fo.gm r g h.2 h2⟩
 | .num n a r,g,h,h2=>⟨h.1,Fo.gm r g h.2 h2⟩
 | .br n a f o c b r,g,h,h2=>⟨h.1,h.2.1,h.2.2.1,h.2.2.2.1,h.2.2.2.2.1,Fo.gm r g h.2.2.2.2.2 h2⟩
 | .uz k a m r,g,h,h2=>⟨h.1,Fo.gm r g h.2 h2⟩
theorem Fo.ki:∀ f g:Fo,(f.app g).uj=f.uj+g.uj
 | .nil,g=>by simp[Fo.app,Fo.uj]
 | .text t r,g=>by simp only[Fo.app,Fo.uj,Fo.ki r g];omega
 | .hash r,g=>by simp only[Fo.app,Fo.uj,Fo.ki r g];omega
 | .put n a r,g=>by simp only[Fo.app,Fo.uj,Fo.ki r g];omega
 | .num n a r,g=>by simp only[Fo.app,Fo.uj,Fo.ki r g];omega
 | .br n a f o c b r,g=>by simp only[Fo.app,Fo.uj,Fo.ki r g];omega
 | .uz k a m r,g=>by simp only[Fo.app,Fo.uj,Fo.ki r g];omega
theorem Fo.Lf:∀ f g:Fo,f.uk=true->(f.app g).keys=f.keys++g.keys
 | .nil,g,_=>rfl
 | .uz k a m r,g,h=>by
  show k::(r.app g).keys=_;rw[Fo.Lf r g h];rfl
theorem Ym:∀ (f g:Fo),(f.app g).fit->f.fit
 | .nil,g,_=>trivial
 | .text t r,g,h=>Ym r g h
 | .hash r,g,h=>Ym r g h
 | .put n a r,g,h=>⟨h.1,Ym r g h.2⟩
 | .num n a r,g,h=>⟨h.1,Ym r g h.2⟩
 | .br n a f o c b r,g,h=>⟨h.1,h.2.1,h.2.2.1,h.2.2.2.1,h.2.2.2.2.1,Ym r g h.2.2.2.2.2⟩
 | .uz k a m r,g,h=>⟨h.1,Ym r g h.2⟩
theorem Fo.Ld{f:Fo}(h:f.fit)(t:Wd):(f.xL t).fit/\(f.xL t).uj<=f.uj+t.length+5:=by
 cases hl:f.xD with
 | none =>
  rw[uZ f t hl];exact⟨Fo.gm _ _ h trivial,by rw[Fo.ki];simp only[Fo.uj];omega⟩
 | some s =>
  obtain⟨pre,h1,h2,h3⟩:=uq f s hl;rw[h1] at h;rw[h3];refine⟨Fo.gm _ _ (Ym _ _ h) trivial,?_⟩;rw[Fo.ki,show f.uj=(pre.app (.text s .nil)).uj from congrArg _ h1,Fo.ki];simp only[Fo.uj,zx];omega
theorem pT(cl:Nat):∀ (f:Fo) (seen:List Wd) (acc:List (Nat×Nat)),QX cl seen acc f=[]->acc=[]/\(∀ k∈f.keys,k ∉ seen)/\f.keys.Nodup:=by
 have hn:∀ (f:Fo) (seen:List Wd) (acc:List (Nat×Nat)),(if FZ∈seen then acc else acc++[(6,cl)])=[]->acc=[]:=fun f seen acc h=>by
  split at h
  .exact h
  .simp at h
 intro f;induction f with
 | uz k a m r _ ih =>
  intro seen acc h;rw[QX] at h;obtain⟨h1,h2,h3⟩:=ih _ _ h;split at h1
  .simp at h1
  next hk =>
  refine⟨h1,fun x hx=>?_,?_⟩
  .rcases List.mem_cons.1 hx with rfl|hx
   .exact hk
   .exact fun q=>h2 x hx (List.mem_cons_of_mem _ q)
  .exact List.nodup_cons.2 ⟨fun q=>h2 k q List.mem_cons_self,h3⟩
 | nil=>intro seen acc h;exact⟨hn .nil seen acc h,(fun k hk=>by cases hk),z8⟩
 | text _ _ _=>intro seen acc h;exact⟨hn .nil seen acc h,(fun k hk=>by cases hk),z8⟩
 | hash _ _=>intro seen acc h;exact⟨hn .nil seen acc h,(fun k hk=>by cases hk),z8⟩
 | put _ _ _ _=>intro seen acc h;exact⟨hn .nil seen acc h,(fun k hk=>by cases hk),z8⟩
 | num _ _ _ _=>intro seen acc h;exact⟨hn .nil seen acc h,(fun k hk=>by cases hk),z8⟩
 | br _ _ _ _ _ _ _ _ _=>intro seen acc h;exact⟨hn .nil seen acc h,(fun k hk=>by cases hk),z8⟩
theorem Yu{s:UA}{n:Wd}{a k:Nat}(h:(vO s n a k).2=[]):s.2=[]:=by
 unfold vO at h;split at h
 .simp at h
 .split at h<;>exact h
theorem jI:∀ (f:Fo) (s s':UA),xO fK f s = .go true s'->s'.2=[]->s.2=[]/\f.once
 | .nil,s,s',h,e=>by
  cases h;exact⟨e,trivial⟩
 | .text _ r,s,s',h,e=>jI r s s' h e
 | .hash r,s,s',h,e=>jI r s s' h e
 | .put n a r,s,s',h,e=>by
  obtain⟨h1,h2⟩:=jI r (vO s n a 0) s' h e;exact⟨Yu h1,h2⟩
 | .num n a r,s,s',h,e=>by
  obtain⟨h1,h2⟩:=jI r (vO s n a 1) s' h e;exact⟨Yu h1,h2⟩
 | .br n a f o c bs r,s,s',h,e=>by
  obtain⟨s1,h1⟩:∃ s1:UA,((vO s n a (jg (.br n a f o c bs .nil))).1,(vO s n a (jg (.br n a f o c bs .nil))).2++QX c [] [] bs)=s1:=⟨_,rfl⟩;have h2:(xO fK bs s1).then (fun s=>xO fK r s) = .go true s':=by rw[<-h1];exact h
  obtain⟨s2,h3⟩:=kG bs s1;rw[h3] at h2;obtain⟨h4,h5⟩:=jI r s2 s' h2 e;obtain⟨h6,h7⟩:=jI bs s1 s2 h3 h4;rw[<-h1] at h6;obtain⟨h8,h9⟩:=List.append_eq_nil_iff.1 h6;exact⟨Yu h8,(pT c bs _ _ h9).2.2,h7,h5⟩
 | .uz k a m r,s,s',h,e=>by
  obtain⟨s1,h1⟩:=kG m s;have h2:(xO fK m s).then (fun s=>xO fK r s) = .go true s':=h;rw[h1] at h2;obtain⟨h4,h5⟩:=jI r s1 s' h2 e;obtain⟨h6,h7⟩:=jI m s s1 h1 h4;exact⟨h6,h7,h5⟩
theorem Lb{f:Fo}(h:Z7 f=none):f.once:=by
 obtain⟨s,hs⟩:=kG f ((fun _=>none),[]);have e:jH f=s.2:=by unfold jH;rw[hs]
 unfold Z7 at h;refine(jI f _ s hs ?_).2;rw[<-e]
 cases hq:jH f with
 | nil=>rfl
 | cons a t=>rw[hq] at h;cases h
theorem cP{l:Wd}(h:l.length<=9)(hd:l.all xF=true):xE l<=999999999:=by
 have hb:∀ (l:Wd) (v:Nat),l.all xF=true->l.foldl (fun v c=>10*v+(c.toNat - 48)) v<(v+1)*10 ^ l.length:=by
  intro l;induction l with
  | nil=>intro v _;simp
  | cons c t ih =>
   intro v h;simp only[List.all_cons,z7] at h;have hc:=(vW c).1 h.1;have:=ih (10*v+(c.toNat - 48)) h.2;rw[List.foldl_cons,zj];refine Nat.lt_of_lt_of_le this ?_;have h3:10*v+(c.toNat - 48)+1<=(v+1)*10:=by omega
   calc (10*v+(c.toNat - 48)+1)*10 ^ t.length<=((v+1)*10)*10 ^ t.length:=Nat.mul_le_mul_right _ h3
    _=(v+1)*10 ^ (t.length+1):=by rw[Nat.pow_succ,Nat.mul_assoc,Nat.mul_comm 10]
 have h1:=hb l 0 hd;have h2:10 ^ l.length<=10 ^ 9:=Nat.pow_le_pow_right (by decide) h;have h3:(10:Nat) ^ 9=1000000000:=by decide
 unfold xE;omega
theorem pW:∀ k:Fin 128,(enc (k.val:Int)).length=1:=by decide
theorem Ba:∀ (l:List Int),(∀ r∈l,0<=r/\r<128)->(l.flatMap enc).length=l.length
 | [],_=>rfl
 | r::t,h=>by
  have h1:=h r (by simp);have h2:=pW ⟨r.toNat,by omega⟩;rw[show(((⟨r.toNat,by omega⟩:Fin 128).val:Nat):Int)=r from by show((r.toNat:Nat):Int)=r;omega] at h2;rw[zv,zx,h2,Ba t (fun q hq=>h q (by simp[hq]))];simp;omega
theorem OE(l:List Int):(l.flatMap enc).length<=4*l.length:=by
 induction l with
 | nil=>simp
 | cons a t ih=>have:=(kU a).1;simp only[zv,zx,zj];omega
theorem FU:∀ (n:Nat) (l:List Int),l.length<=n->(vX l).1.length<=(vX l).2
 | 0,l,h=>by
  obtain rfl:l=[]:=List.length_eq_zero_iff.1 (by omega);rw[vX];exact zy _
 | n+1,[],h=>by rw[vX];exact zy _
 | n+1,c::t,h=>by
  rw[vX.eq_def];simp only;split
  .split
   .simp
   .next d u =>
    split
    .have:=FU n u (by simp at h;omega);simp;omega
    .simp
  .have:=FU n t (by simp at h;omega);simp;omega
theorem Bc(rs:List Int)(num:Bool)(i:Nat):(jq rs num i).1.length+4*i<=4*(jq rs num i).2:=by
 unfold jq;split
 .have:=(kU (xU rs i)).1;show(enc (xU rs i)).length+4*i<=4*(i+1);omega
 split
 .have:=(kU 39).1;show(enc 39).length+4*i<=4*(i+2);omega
 split
 .have:=(kU 39).1;show(enc 39).length+4*i<=4*(i+1);omega
 .have h1:=OE (vX (rs.drop (i+1))).1;have h2:=FU _ (rs.drop (i+1)) (zy _);show((vX (rs.drop (i+1))).1.flatMap enc).length+4*i<=4*(i+1+(vX (rs.drop (i+1))).2);omega
def FQ(m:kN):Prop:=∀ num i f j,m num i = .ok (f,j)->f.fit/\f.uj+44*i<=44*j
section
variable {rs:List Int}
theorem cR:∀ k:Fin 128,enc (k.val:Int)=[UInt8.ofNat k.val]:=by decide
theorem JY:∀ (l:List Int) (k:Nat),(∀ j (h:j<l.length),(0<=l[j]/\l[j]<128)/\(ju l[j] ||(decide (0<k+j) && qg l[j]))=true)->Bx k (l.flatMap enc)=true
 | [],_,_=>rfl
 | r::l,k,h=>by
  obtain⟨⟨h1,h2⟩,h3⟩:=h 0 (by simp);simp only[List.getElem_cons_zero,Nat.add_zero] at h1 h2 h3;have he:=cR ⟨r.toNat,by omega⟩;have hr:((r.toNat:Nat):Int)=r:=by omega
  dsimp only at he;rw[hr] at he;have hb:(UInt8.ofNat r.toNat).toNat=r.toNat:=by rw[UInt8.toNat_ofNat'];omega
  rw[zv,he];simp only[List.cons_append,List.nil_append,Bx,hb,hr];rw[JY l (k+1) (fun j hj=>by
   have:=h (j+1) (by simp;omega);simpa[Nat.add_assoc,Nat.add_comm 1 j] using this)]
  have hk:(!decide (k=0))=decide (0<k):=by rw[Bool.eq_iff_iff];simp;omega
  rw[hk,h3];rfl
theorem FK{i j:Nat}{x:Wd}(h:gK rs i = .ok (x,j)):NmW x/\i<j:=by
 refine⟨?_,gJ h⟩;unfold gK at h;split at h
 .cases h
 next hn =>
 cases h;obtain⟨n,hN⟩:=xX (qe rs i);have R4:∀ k,k<n->bW (xU rs (i+k)) k=true:=fun k hk=>Kd (F:=bW) (rs:=rs) (i:=i) (k:=k) (by rw[show runN bW rs i=qe rs i from rfl,hN];exact hk)
 have hf:∀ k,k<n->k<16/\0<=xU rs (i+k)/\xU rs (i+k)<128:=fun k hk=>by
  have:=Kd (F:=bW) (rs:=rs) (i:=i) (k:=k) (by rw[show runN bW rs i=qe rs i from rfl,hN];exact hk);simp only[bW,ju,qg,z7,Bool.or_eq_true,decide_eq_true_eq,beq_iff_eq] at this;omega
 rw[hN] at hn |-
 have h16:n<=16:=by
  have:=(hf (n - 1) (by omega)).1;omega
 have dI:∀ k,k<n->i+k<rs.length:=fun k hk=>by
  refine Nat.lt_of_not_le (fun hle=>?_);have:=(hf k hk).2.1;rw[kM hle] at this;omega
 have qQ:∀ r∈(rs.drop i).take n,0<=r/\r<128:=fun r hr=>by
  obtain⟨k,hk,rfl⟩:=List.mem_iff_getElem.1 hr;simp only[zu,zk] at hk;have h1:=(hf k (by omega)).2;rw[CN (dI k (by omega))] at h1;simpa using h1
 have h1:=Ba _ qQ;have h2:((rs.drop i).take n).length<=n:=by rw[zu];exact Nat.min_le_left _ _
 have h3:((rs.drop i).take n).length=n:=by
  rw[zu,zk];have:=dI (n - 1) (by omega);omega
 have h4:Bx 0 (((rs.drop i).take n).flatMap enc)=true:=JY _ 0 fun j hj=>by
  rw[h3] at hj;have e:((rs.drop i).take n)[j]'(by omega)=xU rs (i+j):=by
   rw[CN (dI j hj)];simp
  rw[e];have h5:=R4 j hj;unfold bW at h5;simp only[z7] at h5;exact⟨(hf j hj).2,by simpa using h5.2⟩
 unfold kQ;refine⟨by omega,?_⟩;unfold j8;rw[h4,decide_eq_true (by omega:0<_),decide_eq_true (by omega:_<=16)];rfl
theorem Be{i j:Nat}{x:Wd}(h:kK rs i = .ok (x,j)):x.length<=9/\x.all xF=true/\x≠[]/\i<j:=by
 have h0:=YN h;unfold kK at h;split at h
 .cases h
 next hn =>
 cases h;obtain⟨h1,h2,h3⟩:=Jq rs i hn;exact⟨h1,h2,h3,h0⟩
theorem pA:∀ x∈Vm,x.head?≠some 61:=by decide
theorem RB{num:Bool}{i j:Nat}{x:Wd}(h:Kg rs num i = .ok (x,j)):cO num x/\i<j:=by
 unfold Kg at h;split at h
 .obtain⟨a,q,h1,h2⟩:=xd h
  cases h2;obtain⟨l1,l2,l3,l4⟩:=Be h1;exact⟨⟨by simp;omega,fun _ _=>⟨l3,l1,l2⟩⟩,by omega⟩
 .obtain⟨a,q,h1,h2⟩:=xd h;obtain⟨⟨l1,-⟩,l2⟩:=FK h1;split at h2
  .cases h2
  .next hq =>
   cases h2;refine⟨⟨by omega,fun hn he=>?_⟩,l2⟩;exact absurd he (pA _ (Classical.byContradiction fun q=>hq ⟨hn,q⟩))
theorem r6{msg:Option kN}{num:Bool}{i j:Nat}{f:Fo}(hm:∀ m,msg=some m->FQ m)(h:Xv rs msg num i = .ok (f,j)):f.fit/\f.uk=true/\(∀ k∈f.keys,cO num k)/\f.uj+44*i<=44*j:=by
 unfold Xv at h;obtain⟨k,a,h1,h2⟩:=xd h;obtain⟨u,b,h3,h4⟩:=xd h2;obtain⟨hk,e1⟩:=RB h1;have e2:=(xP h3).2;have e3:=xN rs a
 cases msg with
 | none=>cases h4
 | some m =>
  obtain⟨g,c,h5,h6⟩:=xd (show(m num b).then _=_ from h4);obtain⟨u2,z,h7,h8⟩:=xd h6;obtain⟨hg,ht⟩:=hm m rfl _ _ _ _ h5;have e5:=(xP h7).2;have e6:=xN rs z
  cases h8;refine⟨⟨hg,trivial⟩,rfl,fun q hq=>?_,?_⟩
  .simp only[Fo.keys,List.mem_singleton] at hq;subst hq;exact hk
  .simp only[Fo.uj];omega
theorem LZ{msg:Option kN}{num:Bool}(hm:∀ m,msg=some m->FQ m):∀ (n:Nat) (acc:Fo) (i j:Nat) (f:Fo),ji rs msg num n acc i = .ok (f,j)->acc.fit->acc.uk=true->(∀ k∈acc.keys,cO num k)->f.fit/\(∀ k∈f.keys,cO num k)/\f.uj+44*i<=acc.uj+44*j
 | 0,acc,i,j,f,h,_,_,_=>by cases h
 | n+1,acc,i,j,f,h,ha,hb,hc=>by
  rw[ji] at h;split at h
  .cases h;exact⟨ha,hc,zy _⟩
  .obtain⟨g,q,h1,h2⟩:=xd h;obtain⟨g1,g2,g3,g4⟩:=r6 hm h1;obtain⟨k1,k2,k3⟩:=LZ hm n _ _ _ _ h2 (Fo.gm _ _ ha g1) (Fo.bh _ _ hb g2) (fun k hk=>by
    rw[Fo.Lf _ _ hb] at hk;rcases List.mem_append.1 hk with hk|hk
    .exact hc k hk
    .exact g3 k hk)
   rw[Fo.ki] at k3;exact⟨k1,k2,by omega⟩
theorem RE{form i j:Nat}{o:Wd}(h:JN rs form i = .ok (o,j)):xE o<=999999999/\i<=j:=by
 have h0:=CP h;refine⟨?_,h0⟩;unfold JN at h;split at h
 .obtain⟨a,q,h1,h2⟩:=xd h
  cases h2;obtain⟨l1,l2,l3,l4⟩:=Be h1;exact cP l1 l2
 .cases h;decide
theorem r7{msg:Option kN}{i j:Nat}{f:Fo}(hm:∀ m,msg=some m->FQ m)(h:YI rs msg i = .ok (f,j)):f.fit/\f.uj+44*i<=44*j:=by
 unfold YI at h;obtain⟨u,a,h1,h2⟩:=xd h;obtain⟨nm,b,h3,h4⟩:=xd h2;have e1:=(xP h1).2;have e2:=xN rs a;obtain⟨hn,e3⟩:=FK h3;have e4:=xN rs b;clear h h1 h2 h3;split at h4
 .obtain⟨u,z,h5,h6⟩:=xd h4;have:=(xP h5).2
  cases h6;exact⟨⟨hn,trivial⟩,by simp only[Fo.uj];omega⟩
 .obtain⟨wd,c,h5,h6⟩:=xd h4;have e5:=gJ h5;have e6:=xN rs (xh rs b+1);have e7:=xN rs c;clear h4 h5;split at h6
  .obtain⟨u,z,h7,h8⟩:=xd h6;have:=(xP h7).2
   cases h8;exact⟨⟨hn,trivial⟩,by simp only[Fo.uj];omega⟩
  .split at h6
   .cases h6
   .next form RD =>
    obtain⟨u,d,h7,h8⟩:=xd h6;obtain⟨o,l,h9,du⟩:=xd h8;obtain⟨bs,q,Qn,Qp⟩:=xd du;obtain⟨u,z,oD,oB⟩:=xd Qp;have:=(xP h7).2;have:=xN rs d;obtain⟨ho,_⟩:=RE h9;obtain⟨b1,b2,b3⟩:=LZ hm _ _ _ _ _ Qn trivial rfl (fun k hk=>by cases hk);have e9:=(xP oD).2;have Jj:=Ge RD
    cases oB;refine⟨⟨hn,Jj,ho,b2,b1,trivial⟩,?_⟩;simp only[Fo.uj] at b3 |-
    omega
theorem QJ{msg:Option kN}{num:Bool}(hm:∀ m,msg=some m->FQ m):∀ (n:Nat) (acc:Fo) (i j:Nat) (f:Fo),qI rs msg num n acc i = .ok (f,j)->acc.fit->f.fit/\f.uj+44*i<=acc.uj+44*j
 | 0,acc,i,j,f,h,_=>by cases h
 | n+1,acc,i,j,f,h,ha=>by
  rw[qI] at h;split at h
  .cases h;exact⟨ha,zy _⟩
  split at h
  .obtain⟨g,q,h1,h2⟩:=xd h;obtain⟨g1,g2⟩:=r7 hm h1;obtain⟨k1,k2⟩:=QJ hm n _ _ _ _ h2 (Fo.gm _ _ ha g1);rw[Fo.ki] at k2;exact⟨k1,by omega⟩
  split at h
  .obtain⟨k1,k2⟩:=QJ hm n _ _ _ _ h (Fo.gm _ _ ha trivial);rw[Fo.ki] at k2;simp only[Fo.uj] at k2;exact⟨k1,by omega⟩
  .obtain⟨t1,t2⟩:=Fo.Ld ha (jq rs num i).1;obtain⟨k1,k2⟩:=QJ hm n _ _ _ _ h t1;have h4:=Bc rs num i;have h5:=Q8 rs num i;exact⟨k1,by omega⟩
theorem LY:∀ n,FQ (YL rs n)
 | 0,num,i,f,j,h=>by
  rw[YL] at h;simpa[Fo.uj] using QJ (fun m e=>by cases e) _ _ _ _ _ h trivial
 | n+1,num,i,f,j,h=>by
  rw[YL] at h;simpa[Fo.uj] using QJ (fun m e=>by cases e;exact LY n) _ _ _ _ _ h trivial
end
theorem KN{l:List UInt8}{f:Fo}(h:uF l = .ok f)(hc:Z7 f=none):f.UW/\f.uj<=44000/\f.fit:=by
 have hg:=Xe h;unfold uF at h;split at h
 .cases h
 split at h
 .cases h
 next h1 _ =>
 have ZA:=VZ l;have hr:(xm l).length<=1000:=by omega
 cases hp:YM (xm l) with
 | error e=>rw[hp] at h;cases h
 | ok x =>
  rw[hp] at h
  cases h;unfold YM at hp;obtain⟨g,q,h2,h3⟩:=xd (show _=Except.ok (x.1,x.2) from hp);obtain⟨hf,hm⟩:=LY 5 _ _ _ _ h2;have he:q<=(xm l).length:=bD _ _ _ _ _ h2 (Nat.zero_le _);split at h3
  .cases h3;exact⟨Fo.bY _ hf hg.wf (by omega) (Lb hc),by omega,hf⟩
  .cases h3
theorem LV{l:List UInt8}{f:Fo}(h:uF l = .ok f)(hc:Z7 f=none):f.UW/\f.cw<=44000:=by
 obtain⟨h1,h2,-⟩:=KN h hc;exact⟨h1,Nat.le_trans (Fo.bZ f) h2⟩
end Go.Proofs.YthpldolmpinnhaaGreatDoor
