import Derived.Test.YthpldolmpinnhaaGreatDoorJG11
import Derived.Laws.OwnMore
open Go.Instr renaming typeAssert→z7
open Go.Proofs.Tryz
namespace Go.Proofs.YthpldolmpinnhaaGreatDoor
open Go Go.RowKit
set_option maxRecDepth 10000
theorem uq:∀ (f:Fo) (s:Wd),f.xD=some s->∃ pre:Fo,f=pre.app (.text s .nil)/\(f.vD=true->pre.vD=true)/\∀ t,f.xL t=pre.app (.text (s++t) .nil)
 | .nil,s,h=>by cases h
 | .text x .nil,s,h=>by
  have e:x=s:=by simpa[Fo.xD] using h
  subst e;exact⟨.nil,rfl,fun _=>rfl,fun t=>rfl⟩
 | .text x (.text y r),s,h=>by
  obtain⟨pre,h1,h2,h3⟩:=uq (.text y r) s (by simpa[Fo.xD] using h);exact⟨.text x pre,by rw[h1];rfl,fun m=>h2 m,fun t=>by rw[Fo.xL,h3];rfl;simp⟩
 | .text x (.hash r),s,h=>by
  obtain⟨pre,h1,h2,h3⟩:=uq (.hash r) s (by simpa[Fo.xD] using h);exact⟨.text x pre,by rw[h1];rfl,fun m=>h2 m,fun t=>by rw[Fo.xL,h3];rfl;simp⟩
 | .text x (.put a b r),s,h=>by
  obtain⟨pre,h1,h2,h3⟩:=uq (.put a b r) s (by simpa[Fo.xD] using h);exact⟨.text x pre,by rw[h1];rfl,fun m=>h2 m,fun t=>by rw[Fo.xL,h3];rfl;simp⟩
 | .text x (.num a b r),s,h=>by
  obtain⟨pre,h1,h2,h3⟩:=uq (.num a b r) s (by simpa[Fo.xD] using h);exact⟨.text x pre,by rw[h1];rfl,fun m=>h2 m,fun t=>by rw[Fo.xL,h3];rfl;simp⟩
 | .text x (.br a b c d e g r),s,h=>by
  obtain⟨pre,h1,h2,h3⟩:=uq (.br a b c d e g r) s (by simpa[Fo.xD] using h);exact⟨.text x pre,by rw[h1];rfl,fun m=>h2 m,fun t=>by rw[Fo.xL,h3];rfl;simp⟩
 | .text x (.uz a b c r),s,h=>by
  obtain⟨pre,h1,h2,h3⟩:=uq (.uz a b c r) s (by simpa[Fo.xD] using h);exact⟨.text x pre,by rw[h1];rfl,fun m=>h2 m,fun t=>by rw[Fo.xL,h3];rfl;simp⟩
 | .hash r,s,h=>by
  obtain⟨pre,h1,h2,h3⟩:=uq r s (by simpa[Fo.xD] using h);exact⟨.hash pre,by rw[h1];rfl,fun m=>h2 m,fun t=>by rw[Fo.xL,h3];rfl⟩
 | .put a b r,s,h=>by
  obtain⟨pre,h1,h2,h3⟩:=uq r s (by simpa[Fo.xD] using h);exact⟨.put a b pre,by rw[h1];rfl,fun m=>h2 m,fun t=>by rw[Fo.xL,h3];rfl⟩
 | .num a b r,s,h=>by
  obtain⟨pre,h1,h2,h3⟩:=uq r s (by simpa[Fo.xD] using h);exact⟨.num a b pre,by rw[h1];rfl,fun m=>h2 m,fun t=>by rw[Fo.xL,h3];rfl⟩
 | .br a b c d e g r,s,h=>by
  obtain⟨pre,h1,h2,h3⟩:=uq r s (by simpa[Fo.xD] using h);exact⟨.br a b c d e g pre,by rw[h1];rfl,fun m=>h2 m,fun t=>by rw[Fo.xL,h3];rfl⟩
 | .uz a b c r,s,h=>by
  obtain⟨pre,h1,h2,h3⟩:=uq r s (by simpa[Fo.xD] using h);exact⟨.uz a b c pre,by rw[h1];rfl,fun m=>(by cases m),fun t=>by rw[Fo.xL,h3];rfl⟩
theorem uZ:∀ (f:Fo) (t:Wd),f.xD=none->f.xL t=f.app (.text t .nil)
 | .nil,t,h=>rfl
 | .text x .nil,t,h=>by cases h
 | .text x (.text y r),t,h=>by rw[Fo.xL,uZ (.text y r) t (by simpa[Fo.xD] using h)];rfl;simp
 | .text x (.hash r),t,h=>by rw[Fo.xL,uZ (.hash r) t (by simpa[Fo.xD] using h)];rfl;simp
 | .text x (.put a b r),t,h=>by rw[Fo.xL,uZ (.put a b r) t (by simpa[Fo.xD] using h)];rfl;simp
 | .text x (.num a b r),t,h=>by rw[Fo.xL,uZ (.num a b r) t (by simpa[Fo.xD] using h)];rfl;simp
 | .text x (.br a b c d e g r),t,h=>by rw[Fo.xL,uZ (.br a b c d e g r) t (by simpa[Fo.xD] using h)];rfl;simp
 | .text x (.uz a b c r),t,h=>by rw[Fo.xL,uZ (.uz a b c r) t (by simpa[Fo.xD] using h)];rfl;simp
 | .hash r,t,h=>by rw[Fo.xL,uZ r t (by simpa[Fo.xD] using h)];rfl
 | .put a b r,t,h=>by rw[Fo.xL,uZ r t (by simpa[Fo.xD] using h)];rfl
 | .num a b r,t,h=>by rw[Fo.xL,uZ r t (by simpa[Fo.xD] using h)];rfl
 | .br a b c d e g r,t,h=>by rw[Fo.xL,uZ r t (by simpa[Fo.xD] using h)];rfl
 | .uz a b c r,t,h=>by rw[Fo.xL,uZ r t (by simpa[Fo.xD] using h)];rfl
theorem qh(g:Fo)(hg:g ≠ .nil):∀ f:Fo,(f.app g).xD=g.xD
 | .nil=>rfl
 | .text x r=>by
  have ih:=qh g hg r;rw[<-ih];show Fo.xD (.text x (r.app g))=_;have vy:r.app g ≠ .nil:=by
   cases r<;>simp[Fo.app];exact hg
  cases h:r.app g<;>first|rfl|exact absurd h vy
 | .hash r=>qh g hg r
 | .put a b r=>qh g hg r
 | .num a b r=>qh g hg r
 | .br a b c d e k r=>qh g hg r
 | .uz a b c r=>qh g hg r
theorem xZ.split{lo hi:Nat}{w:World}{g:Fo}:∀ (f:Fo) (vs:List Value),xZ lo hi w vs (f.app g)->∃ us xs,vs=us++xs/\xZ lo hi w us f/\xZ lo hi w xs g
 | .nil,vs,h=>⟨[],vs,rfl,rfl,h⟩
 | .text t r,vs,h=>by
  obtain⟨vt,rfl,hr⟩:=h;obtain⟨us,xs,rfl,h1,h2⟩:=xZ.split r vt hr;exact⟨_,xs,rfl,⟨us,rfl,h1⟩,h2⟩
 | .hash r,vs,h=>by
  obtain⟨vt,rfl,hr⟩:=h;obtain⟨us,xs,rfl,h1,h2⟩:=xZ.split r vt hr;exact⟨_,xs,rfl,⟨us,rfl,h1⟩,h2⟩
 | .put n a r,vs,h=>by
  obtain⟨vt,b,rfl,l1,l2,c0,c1,hr⟩:=h;obtain⟨us,xs,rfl,h1,h2⟩:=xZ.split r vt hr;exact⟨_,xs,rfl,⟨us,b,rfl,l1,l2,c0,c1,h1⟩,h2⟩
 | .num n a r,vs,h=>by
  obtain⟨vt,b,rfl,l1,l2,c0,c1,hr⟩:=h;obtain⟨us,xs,rfl,h1,h2⟩:=xZ.split r vt hr;exact⟨_,xs,rfl,⟨us,b,rfl,l1,l2,c0,c1,h1⟩,h2⟩
 | .br n a f o c bs r,vs,h=>by
  obtain⟨vt,b,ba,bc,ws,rfl,l1,l2,c0,c1,c2,c3,c4,c5,xi,UR,hr⟩:=h;obtain⟨us,xs,rfl,h1,h2⟩:=xZ.split r vt hr;exact⟨_,xs,rfl,⟨us,b,ba,bc,ws,rfl,l1,l2,c0,c1,c2,c3,c4,c5,xi,UR,h1⟩,h2⟩
 | .uz k a m r,vs,h=>by
  obtain⟨vt,ma,mc,ws,rfl,xi,hm,hr⟩:=h;obtain⟨us,xs,rfl,h1,h2⟩:=xZ.split r vt hr;exact⟨_,xs,rfl,⟨us,ma,mc,ws,rfl,xi,hm,h1⟩,h2⟩
theorem xZ.one{lo hi:Nat}{w:World}{f:Fo}{v:Value}(h:xZ lo hi w [v] f)(hl:f.len=1)(hm:f.vD=true)(ht:f.xD=none) :
  ∃ T x,v = .iface T x/\((T=264/\x = .agg #[])\/(T=172/\∃ b,x = .pointer (some ⟨b,0,none⟩))\/(T=175/\∃ b,x = .pointer (some ⟨b,0,none⟩))\/(T=177/\∃ b,x = .pointer (some ⟨b,0,none⟩))):=by
 cases f with
 | nil=>cases hl
 | text t r =>
  have:r.len=0:=by simpa[Fo.len] using hl
  cases r<;>simp[Fo.len] at this
  cases ht
 | hash r =>
  obtain⟨vt,e,_⟩:=h
  cases e;exact⟨_,_,rfl,.inl ⟨rfl,rfl⟩⟩
 | put n a r =>
  obtain⟨vt,b,e,_⟩:=h
  cases e;exact⟨_,_,rfl,.inr (.inl ⟨rfl,b,rfl⟩)⟩
 | num n a r =>
  obtain⟨vt,b,e,_⟩:=h
  cases e;exact⟨_,_,rfl,.inr (.inr (.inl ⟨rfl,b,rfl⟩))⟩
 | br n a f o c bs r =>
  obtain⟨vt,b,ba,bc,ws,e,_⟩:=h
  cases e;exact⟨_,_,rfl,.inr (.inr (.inr ⟨rfl,b,rfl⟩))⟩
 | uz k a m r=>cases hm
theorem Dr{x:Wd}{r:Fo}(hr:r ≠ .nil):(Fo.text x r).xD=r.xD:=by
 cases r<;>first|rfl|exact absurd rfl hr
theorem bG:∀ f:Fo,f.xD=none->f.vD=true->f ≠ .nil->∃ pre g:Fo,f=pre.app g/\g.len=1/\g.vD=true/\g.xD=none/\pre.vD=true
 | .nil,_,_,h=>absurd rfl h
 | .text x r,h,hm,_=>by
  by_cases hr:r = .nil
  .subst hr;cases h
  .rw[Dr hr] at h;obtain⟨pre,g,h1,h2,h3,h4,h5⟩:=bG r h hm hr;exact⟨.text x pre,g,by rw[h1];rfl,h2,h3,h4,h5⟩
 | .hash r,h,hm,_=>by
  by_cases hr:r = .nil
  .subst hr;exact⟨.nil,_,rfl,rfl,rfl,rfl,rfl⟩
  .obtain⟨pre,g,h1,h2,h3,h4,h5⟩:=bG r h hm hr;exact⟨.hash pre,g,by rw[h1];rfl,h2,h3,h4,h5⟩
 | .put a b r,h,hm,_=>by
  by_cases hr:r = .nil
  .subst hr;exact⟨.nil,_,rfl,rfl,rfl,rfl,rfl⟩
  .obtain⟨pre,g,h1,h2,h3,h4,h5⟩:=bG r h hm hr;exact⟨.put a b pre,g,by rw[h1];rfl,h2,h3,h4,h5⟩
 | .num a b r,h,hm,_=>by
  by_cases hr:r = .nil
  .subst hr;exact⟨.nil,_,rfl,rfl,rfl,rfl,rfl⟩
  .obtain⟨pre,g,h1,h2,h3,h4,h5⟩:=bG r h hm hr;exact⟨.num a b pre,g,by rw[h1];rfl,h2,h3,h4,h5⟩
 | .br a b c d e k r,h,hm,_=>by
  by_cases hr:r = .nil
  .subst hr;exact⟨.nil,_,rfl,rfl,rfl,rfl,rfl⟩
  .obtain⟨pre,g,h1,h2,h3,h4,h5⟩:=bG r h hm hr;exact⟨.br a b c d e k pre,g,by rw[h1];rfl,h2,h3,h4,h5⟩
 | .uz a b c r,h,hm,_=>by cases hm
theorem qs.zix{base:Nat}{e:TypeId}{v:Value}{acc:Fo}{ws:List Value}{w:World}(h:qs base e 1 v acc ws w)(hm:acc.vD=true)(vy:acc ≠ .nil) :
  match acc.xD with
  | some s=>∃ us,ws=us++[.iface 262 (xg s)]/\us.length+1=acc.len
  | none=>∃ us T x,ws=us++[.iface T x]/\us.length+1=acc.len/\((T=264/\x = .agg #[])\/(T=172/\∃ b,x = .pointer (some ⟨b,0,none⟩))\/(T=175/\∃ b,x = .pointer (some ⟨b,0,none⟩))\/(T=177/\∃ b,x = .pointer (some ⟨b,0,none⟩))):=by
 have hn:=h.nodes
 cases hl:acc.xD with
 | some s =>
  obtain⟨pre,h1,h2,_⟩:=uq acc s hl;have hpm:=h2 hm;rw[h1] at hn;obtain⟨us,xs,rfl,n1,n2⟩:=xZ.split _ _ hn;obtain⟨vt,rfl,e⟩:=n2;have e2:vt=[]:=e;subst e2;refine⟨us,rfl,?_⟩;rw[xZ.count _ _ n1 hpm,h1,Fo.uX];rfl
 | none =>
  obtain⟨pre,g,h1,h2,h3,h4,h5⟩:=bG acc hl hm vy;rw[h1] at hn;obtain⟨us,xs,rfl,n1,n2⟩:=xZ.split _ _ hn;have hx:=xZ.count _ _ n2 h3;rw[h2] at hx;match xs,hx with
  | [x],_ =>
   obtain⟨T,y,rfl,hT⟩:=n2.one h2 h3 h4;refine⟨us,T,y,rfl,?_,hT⟩;rw[xZ.count _ _ n1 h5,h1,Fo.uX,h2]
theorem qs.Ca{base:Nat}{e:TypeId}{g cap:Nat}{acc:Fo}{ws us:List Value}{s:Wd}{w:World}(h:qs base e 1 (.slice (some ⟨g,0,none⟩) acc.len cap) acc ws w)(hm:acc.vD=true)(hl:acc.xD=some s)
  (hu:ws=us++[.iface 262 (xg s)]) (hk:us.length+1=acc.len) (t:Wd) :
  qs base e 1 (.slice (some ⟨g,0,none⟩) (acc.xL t).len cap) (acc.xL t) (us++[.iface 262 (xg (s++t))]) (w.setCell ⟨g,us.length,none⟩ (.iface 262 (xg (s++t))))/\(acc.xL t).len=acc.len:=by
 obtain⟨pre,h1,h2,h3⟩:=uq acc s hl;have hpm:=h2 hm;have hlen:(acc.xL t).len=acc.len:=by
  rw[h3,h1,Fo.uX,Fo.uX];rfl
 obtain⟨xV,ql⟩:=h;obtain⟨Ds,X3⟩:=xV.stored us.length (.iface 262 (xg (s++t)));rw[hlen];refine⟨⟨?_,fun W hW=>?_⟩,rfl⟩
 .rw[hlen];rw[hu] at Ds;simpa[List.set_append] using Ds
 .have hn:=ql W ⟨Nat.le_trans X3.size hW.1,fun k k1 k2 k3=>(hW.2 k k1 (Nat.lt_of_lt_of_le k2 X3.size) k3).trans (X3.block k k2 (by simpa[Value.ownBlock] using k3))⟩;rw[h1,hu] at hn;obtain⟨us',xs,he,n1,n2⟩:=xZ.split _ _ hn;obtain⟨vt,rfl,e2⟩:=n2;have e3:vt=[]:=e2;subst e3;obtain⟨rfl,_⟩:=List.append_inj' he rfl;rw[h3];exact xZ.app (g := .text (s++t) .nil) ⟨_,rfl,rfl⟩ _ _ n1
theorem Gz{f:Fo}{s:Wd}(h:f.vD=true)(hl:f.xD=some s)(t:Wd):(f.xL t).vD=true/\(f.xL t).xD=some (s++t):=by
 obtain⟨pre,h1,h2,h3⟩:=uq f s hl;rw[h3];exact⟨Fo.uW _ _ (h2 h) rfl,qh _ (by simp) _⟩
theorem BD{rs:List Int}{msg:Option kN}{i j:Nat}{f:Fo}(h:YI rs msg i = .ok (f,j)):f.xD=none/\j<=rs.length:=by
 have key:∀ q:Nat,xU rs q=125->q+1<=rs.length:=fun q hq=>by
  apply Classical.byContradiction;intro hc;rw[kM (by omega)] at hq
  cases hq
 unfold YI at h;obtain⟨u,a,h1,h2⟩:=xd h;obtain⟨nm,b,h3,h4⟩:=xd h2;clear h h1 h2 h3;split at h4
 .obtain⟨u,z,h5,h6⟩:=xd h4;have:=xP h5
  cases h6;exact⟨rfl,by rw[this.2];exact key _ this.1⟩
 .obtain⟨wd,c,h5,h6⟩:=xd h4;split at h6
  .obtain⟨u,z,h7,h8⟩:=xd h6;have:=xP h7
   cases h8;exact⟨rfl,by rw[this.2];exact key _ this.1⟩
  .split at h6
   .cases h6
   .obtain⟨u,d,h7,h8⟩:=xd h6;obtain⟨o,l,h9,du⟩:=xd h8;obtain⟨bs,q,Qn,Qp⟩:=xd du;obtain⟨u,z,oD,oB⟩:=xd Qp;have:=xP oD
    cases oB;exact⟨rfl,by rw[this.2];exact key _ this.1⟩
theorem IF(l:List Int):(l.flatMap enc).length<=4*l.length:=by
 induction l with
 | nil=>simp
 | cons a t ih=>have:=(kU a).1;simp only[List.flatMap_cons,List.length_append,List.length_cons];omega
theorem NI:∀ (n:Nat) (l:List Int),l.length<=n->(vX l).1.length<=(vX l).2:=by
 intro n;induction n with
 | zero =>
  intro l h;have:l=[]:=List.eq_nil_of_length_eq_zero (by omega);subst this;simp[vX]
 | succ n ih =>
  intro l h
  cases l with
  | nil=>simp[vX]
  | cons c t =>
   rw[vX.eq_def];dsimp only;by_cases hc:c=39
   .rw[if_pos hc]
    cases t with
    | nil=>simp
    | cons d u =>
     dsimp only;by_cases hd:d=39
     .rw[if_pos hd];have:=ih u (by simp at h;omega);simp;omega
     .rw[if_neg hd];simp
   .rw[if_neg hc];have:=ih t (by simp at h;omega);simp;omega
theorem SL(rs:List Int)(num:Bool)(i:Nat):(jq rs num i).1.length+4*i<=4*(jq rs num i).2:=by
 unfold jq;split
 .have:=(kU (xU rs i)).1;show(enc (xU rs i)).length+4*i<=4*(i+1);omega
 split
 .have:=(kU 39).1;show(enc 39).length+4*i<=4*(i+2);omega
 split
 .have:=(kU 39).1;show(enc 39).length+4*i<=4*(i+1);omega
 .have h1:=IF (vX (rs.drop (i+1))).1;have h2:=NI _ (rs.drop (i+1)) (Nat.le_refl _);show((vX (rs.drop (i+1))).1.flatMap enc).length+4*i<=4*(i+1+(vX (rs.drop (i+1))).2);omega
theorem ID(s:Wd)(w:World):(z7 (.iface 262 (xg s)) 112 262 true).run prog w = .ok (.tuple #[xg s,.bool true]) w:=by rfl
theorem IB(w:World):(z7 (.iface 264 (.agg #[])) 112 262 true).run prog w = .ok (.tuple #[.string ⟨#[]⟩,.bool false]) w:=by rfl
theorem NL(b:Nat)(w:World):(z7 (.iface 172 (.pointer (some ⟨b,0,none⟩))) 112 262 true).run prog w = .ok (.tuple #[.string ⟨#[]⟩,.bool false]) w:=by rfl
theorem NM(b:Nat)(w:World):(z7 (.iface 175 (.pointer (some ⟨b,0,none⟩))) 112 262 true).run prog w = .ok (.tuple #[.string ⟨#[]⟩,.bool false]) w:=by rfl
theorem SM(b:Nat)(w:World):(z7 (.iface 177 (.pointer (some ⟨b,0,none⟩))) 112 262 true).run prog w = .ok (.tuple #[.string ⟨#[]⟩,.bool false]) w:=by rfl
end Go.Proofs.YthpldolmpinnhaaGreatDoor
