import Derived.Test.YthpldolmpinnhaaGreatDoorJ11
import Derived.Laws.OwnMore
namespace Go.Proofs.YthpldolmpinnhaaGreatDoor
open Go Go.RowKit
set_option maxRecDepth 10000
theorem last_some:∀ (f:Fo) (s:Wd),f.lastText=some s->∃ pre:Fo,f=pre.app (.text s .nil)/\(f.isMsg=true->pre.isMsg=true)/\∀ t,f.addText t=pre.app (.text (s++t) .nil)
 | .nil,s,h=>by cases h
 | .text x .nil,s,h=>by
  have e:x=s:=by simpa [Fo.lastText] using h
  subst e;exact ⟨.nil,rfl,fun _=>rfl,fun t=>rfl⟩
 | .text x (.text y r),s,h=>by
  obtain ⟨pre,h1,h2,h3⟩:=last_some (.text y r) s (by simpa [Fo.lastText] using h);exact ⟨.text x pre,by rw [h1];rfl,fun m=>h2 m,fun t=>by rw [Fo.addText,h3];rfl;simp⟩
 | .text x (.hash r),s,h=>by
  obtain ⟨pre,h1,h2,h3⟩:=last_some (.hash r) s (by simpa [Fo.lastText] using h);exact ⟨.text x pre,by rw [h1];rfl,fun m=>h2 m,fun t=>by rw [Fo.addText,h3];rfl;simp⟩
 | .text x (.put a b r),s,h=>by
  obtain ⟨pre,h1,h2,h3⟩:=last_some (.put a b r) s (by simpa [Fo.lastText] using h);exact ⟨.text x pre,by rw [h1];rfl,fun m=>h2 m,fun t=>by rw [Fo.addText,h3];rfl;simp⟩
 | .text x (.num a b r),s,h=>by
  obtain ⟨pre,h1,h2,h3⟩:=last_some (.num a b r) s (by simpa [Fo.lastText] using h);exact ⟨.text x pre,by rw [h1];rfl,fun m=>h2 m,fun t=>by rw [Fo.addText,h3];rfl;simp⟩
 | .text x (.br a b c d e g r),s,h=>by
  obtain ⟨pre,h1,h2,h3⟩:=last_some (.br a b c d e g r) s (by simpa [Fo.lastText] using h);exact ⟨.text x pre,by rw [h1];rfl,fun m=>h2 m,fun t=>by rw [Fo.addText,h3];rfl;simp⟩
 | .text x (.leg a b c r),s,h=>by
  obtain ⟨pre,h1,h2,h3⟩:=last_some (.leg a b c r) s (by simpa [Fo.lastText] using h);exact ⟨.text x pre,by rw [h1];rfl,fun m=>h2 m,fun t=>by rw [Fo.addText,h3];rfl;simp⟩
 | .hash r,s,h=>by
  obtain ⟨pre,h1,h2,h3⟩:=last_some r s (by simpa [Fo.lastText] using h);exact ⟨.hash pre,by rw [h1];rfl,fun m=>h2 m,fun t=>by rw [Fo.addText,h3];rfl⟩
 | .put a b r,s,h=>by
  obtain ⟨pre,h1,h2,h3⟩:=last_some r s (by simpa [Fo.lastText] using h);exact ⟨.put a b pre,by rw [h1];rfl,fun m=>h2 m,fun t=>by rw [Fo.addText,h3];rfl⟩
 | .num a b r,s,h=>by
  obtain ⟨pre,h1,h2,h3⟩:=last_some r s (by simpa [Fo.lastText] using h);exact ⟨.num a b pre,by rw [h1];rfl,fun m=>h2 m,fun t=>by rw [Fo.addText,h3];rfl⟩
 | .br a b c d e g r,s,h=>by
  obtain ⟨pre,h1,h2,h3⟩:=last_some r s (by simpa [Fo.lastText] using h);exact ⟨.br a b c d e g pre,by rw [h1];rfl,fun m=>h2 m,fun t=>by rw [Fo.addText,h3];rfl⟩
 | .leg a b c r,s,h=>by
  obtain ⟨pre,h1,h2,h3⟩:=last_some r s (by simpa [Fo.lastText] using h);exact ⟨.leg a b c pre,by rw [h1];rfl,fun m=>(by cases m),fun t=>by rw [Fo.addText,h3];rfl⟩
theorem last_none:∀ (f:Fo) (t:Wd),f.lastText=none->f.addText t=f.app (.text t .nil)
 | .nil,t,h=>rfl
 | .text x .nil,t,h=>by cases h
 | .text x (.text y r),t,h=>by rw [Fo.addText,last_none (.text y r) t (by simpa [Fo.lastText] using h)];rfl;simp
 | .text x (.hash r),t,h=>by rw [Fo.addText,last_none (.hash r) t (by simpa [Fo.lastText] using h)];rfl;simp
 | .text x (.put a b r),t,h=>by rw [Fo.addText,last_none (.put a b r) t (by simpa [Fo.lastText] using h)];rfl;simp
 | .text x (.num a b r),t,h=>by rw [Fo.addText,last_none (.num a b r) t (by simpa [Fo.lastText] using h)];rfl;simp
 | .text x (.br a b c d e g r),t,h=>by rw [Fo.addText,last_none (.br a b c d e g r) t (by simpa [Fo.lastText] using h)];rfl;simp
 | .text x (.leg a b c r),t,h=>by rw [Fo.addText,last_none (.leg a b c r) t (by simpa [Fo.lastText] using h)];rfl;simp
 | .hash r,t,h=>by rw [Fo.addText,last_none r t (by simpa [Fo.lastText] using h)];rfl
 | .put a b r,t,h=>by rw [Fo.addText,last_none r t (by simpa [Fo.lastText] using h)];rfl
 | .num a b r,t,h=>by rw [Fo.addText,last_none r t (by simpa [Fo.lastText] using h)];rfl
 | .br a b c d e g r,t,h=>by rw [Fo.addText,last_none r t (by simpa [Fo.lastText] using h)];rfl
 | .leg a b c r,t,h=>by rw [Fo.addText,last_none r t (by simpa [Fo.lastText] using h)];rfl
theorem last_app (g:Fo) (hg:g ≠ .nil):∀ f:Fo,(f.app g).lastText=g.lastText
 | .nil=>rfl
 | .text x r=>by
  have ih:=last_app g hg r;rw [←ih];show Fo.lastText (.text x (r.app g))=_;have hne:r.app g ≠ .nil:=by
   cases r<;>simp [Fo.app];exact hg
  cases h:r.app g<;>first | rfl | exact absurd h hne
 | .hash r=>last_app g hg r
 | .put a b r=>last_app g hg r
 | .num a b r=>last_app g hg r
 | .br a b c d e k r=>last_app g hg r
 | .leg a b c r=>last_app g hg r
theorem NodesV.split {lo hi:Nat} {w:World} {g:Fo}:∀ (f:Fo) (vs:List Value),NodesV lo hi w vs (f.app g)->∃ us xs,vs=us++xs/\NodesV lo hi w us f/\NodesV lo hi w xs g
 | .nil,vs,h=>⟨[],vs,rfl,rfl,h⟩
 | .text t r,vs,h=>by
  obtain ⟨vt,rfl,hr⟩:=h;obtain ⟨us,xs,rfl,h1,h2⟩:=NodesV.split r vt hr;exact ⟨_,xs,rfl,⟨us,rfl,h1⟩,h2⟩
 | .hash r,vs,h=>by
  obtain ⟨vt,rfl,hr⟩:=h;obtain ⟨us,xs,rfl,h1,h2⟩:=NodesV.split r vt hr;exact ⟨_,xs,rfl,⟨us,rfl,h1⟩,h2⟩
 | .put n a r,vs,h=>by
  obtain ⟨vt,b,rfl,l1,l2,c0,c1,hr⟩:=h;obtain ⟨us,xs,rfl,h1,h2⟩:=NodesV.split r vt hr;exact ⟨_,xs,rfl,⟨us,b,rfl,l1,l2,c0,c1,h1⟩,h2⟩
 | .num n a r,vs,h=>by
  obtain ⟨vt,b,rfl,l1,l2,c0,c1,hr⟩:=h;obtain ⟨us,xs,rfl,h1,h2⟩:=NodesV.split r vt hr;exact ⟨_,xs,rfl,⟨us,b,rfl,l1,l2,c0,c1,h1⟩,h2⟩
 | .br n a f o c bs r,vs,h=>by
  obtain ⟨vt,b,ba,bc,ws,rfl,l1,l2,c0,c1,c2,c3,c4,c5,hrow,hbs,hr⟩:=h;obtain ⟨us,xs,rfl,h1,h2⟩:=NodesV.split r vt hr;exact ⟨_,xs,rfl,⟨us,b,ba,bc,ws,rfl,l1,l2,c0,c1,c2,c3,c4,c5,hrow,hbs,h1⟩,h2⟩
 | .leg k a m r,vs,h=>by
  obtain ⟨vt,ma,mc,ws,rfl,hrow,hm,hr⟩:=h;obtain ⟨us,xs,rfl,h1,h2⟩:=NodesV.split r vt hr;exact ⟨_,xs,rfl,⟨us,ma,mc,ws,rfl,hrow,hm,h1⟩,h2⟩
theorem NodesV.one {lo hi:Nat} {w:World} {f:Fo} {v:Value} (h:NodesV lo hi w [v] f) (hl:f.len=1) (hm:f.isMsg=true) (ht:f.lastText=none) :
  ∃ T x,v = .iface T x/\((T=264/\x = .agg #[])\/(T=172/\∃ b,x = .pointer (some ⟨b,0,none⟩))\/(T=175/\∃ b,x = .pointer (some ⟨b,0,none⟩))\/(T=177/\∃ b,x = .pointer (some ⟨b,0,none⟩))):=by
 cases f with
 | nil=>cases hl
 | text t r =>
  have:r.len=0:=by simpa [Fo.len] using hl
  cases r<;>simp [Fo.len] at this
  cases ht
 | hash r =>
  obtain ⟨vt,e,_⟩:=h
  cases e;exact ⟨_,_,rfl,.inl ⟨rfl,rfl⟩⟩
 | put n a r =>
  obtain ⟨vt,b,e,_⟩:=h
  cases e;exact ⟨_,_,rfl,.inr (.inl ⟨rfl,b,rfl⟩)⟩
 | num n a r =>
  obtain ⟨vt,b,e,_⟩:=h
  cases e;exact ⟨_,_,rfl,.inr (.inr (.inl ⟨rfl,b,rfl⟩))⟩
 | br n a f o c bs r =>
  obtain ⟨vt,b,ba,bc,ws,e,_⟩:=h
  cases e;exact ⟨_,_,rfl,.inr (.inr (.inr ⟨rfl,b,rfl⟩))⟩
 | leg k a m r=>cases hm
theorem lastText_more {x:Wd} {r:Fo} (hr:r ≠ .nil):(Fo.text x r).lastText=r.lastText:=by
 cases r<;>first | rfl | exact absurd rfl hr
theorem last_node:∀ f:Fo,f.lastText=none->f.isMsg=true->f ≠ .nil->∃ pre g:Fo,f=pre.app g/\g.len=1/\g.isMsg=true/\g.lastText=none/\pre.isMsg=true
 | .nil,_,_,h=>absurd rfl h
 | .text x r,h,hm,_=>by
  by_cases hr:r = .nil
  ·subst hr;cases h
  ·rw [lastText_more hr] at h;obtain ⟨pre,g,h1,h2,h3,h4,h5⟩:=last_node r h hm hr;exact ⟨.text x pre,g,by rw [h1];rfl,h2,h3,h4,h5⟩
 | .hash r,h,hm,_=>by
  by_cases hr:r = .nil
  ·subst hr;exact ⟨.nil,_,rfl,rfl,rfl,rfl,rfl⟩
  ·obtain ⟨pre,g,h1,h2,h3,h4,h5⟩:=last_node r h hm hr;exact ⟨.hash pre,g,by rw [h1];rfl,h2,h3,h4,h5⟩
 | .put a b r,h,hm,_=>by
  by_cases hr:r = .nil
  ·subst hr;exact ⟨.nil,_,rfl,rfl,rfl,rfl,rfl⟩
  ·obtain ⟨pre,g,h1,h2,h3,h4,h5⟩:=last_node r h hm hr;exact ⟨.put a b pre,g,by rw [h1];rfl,h2,h3,h4,h5⟩
 | .num a b r,h,hm,_=>by
  by_cases hr:r = .nil
  ·subst hr;exact ⟨.nil,_,rfl,rfl,rfl,rfl,rfl⟩
  ·obtain ⟨pre,g,h1,h2,h3,h4,h5⟩:=last_node r h hm hr;exact ⟨.num a b pre,g,by rw [h1];rfl,h2,h3,h4,h5⟩
 | .br a b c d e k r,h,hm,_=>by
  by_cases hr:r = .nil
  ·subst hr;exact ⟨.nil,_,rfl,rfl,rfl,rfl,rfl⟩
  ·obtain ⟨pre,g,h1,h2,h3,h4,h5⟩:=last_node r h hm hr;exact ⟨.br a b c d e k pre,g,by rw [h1];rfl,h2,h3,h4,h5⟩
 | .leg a b c r,h,hm,_=>by cases hm
theorem GrowR.lastV {base:Nat} {e:TypeId} {v:Value} {acc:Fo} {ws:List Value} {w:World} (h:GrowR base e 1 v acc ws w) (hm:acc.isMsg=true) (hne:acc ≠ .nil) :
  match acc.lastText with
  | some s=>∃ us,ws=us++[.iface 262 (strv s)]/\us.length+1=acc.len
  | none=>∃ us T x,ws=us++[.iface T x]/\us.length+1=acc.len/\((T=264/\x = .agg #[])\/(T=172/\∃ b,x = .pointer (some ⟨b,0,none⟩))\/(T=175/\∃ b,x = .pointer (some ⟨b,0,none⟩))\/(T=177/\∃ b,x = .pointer (some ⟨b,0,none⟩))):=by
 have hn:=h.nodes
 cases hl:acc.lastText with
 | some s =>
  obtain ⟨pre,h1,h2,_⟩:=last_some acc s hl;have hpm:=h2 hm;rw [h1] at hn;obtain ⟨us,xs,rfl,n1,n2⟩:=NodesV.split _ _ hn;obtain ⟨vt,rfl,e⟩:=n2;have e2:vt=[]:=e;subst e2;refine ⟨us,rfl,?_⟩;rw [NodesV.count _ _ n1 hpm,h1,Fo.len_app];rfl
 | none =>
  obtain ⟨pre,g,h1,h2,h3,h4,h5⟩:=last_node acc hl hm hne;rw [h1] at hn;obtain ⟨us,xs,rfl,n1,n2⟩:=NodesV.split _ _ hn;have hx:=NodesV.count _ _ n2 h3;rw [h2] at hx;match xs,hx with
  | [x],_ =>
   obtain ⟨T,y,rfl,hT⟩:=n2.one h2 h3 h4;refine ⟨us,T,y,rfl,?_,hT⟩;rw [NodesV.count _ _ n1 h5,h1,Fo.len_app,h2]
theorem GrowR.joined {base:Nat} {e:TypeId} {g cap:Nat} {acc:Fo} {ws us:List Value} {s:Wd} {w:World} (h:GrowR base e 1 (.slice (some ⟨g,0,none⟩) acc.len cap) acc ws w) (hm:acc.isMsg=true) (hl:acc.lastText=some s)
  (hu:ws=us++[.iface 262 (strv s)]) (hk:us.length+1=acc.len) (t:Wd) :
  GrowR base e 1 (.slice (some ⟨g,0,none⟩) (acc.addText t).len cap) (acc.addText t) (us++[.iface 262 (strv (s++t))]) (w.setCell ⟨g,us.length,none⟩ (.iface 262 (strv (s++t))))/\(acc.addText t).len=acc.len:=by
 obtain ⟨pre,h1,h2,h3⟩:=last_some acc s hl;have hpm:=h2 hm;have hlen:(acc.addText t).len=acc.len:=by
  rw [h3,h1,Fo.len_app,Fo.len_app];rfl
 obtain ⟨hown,hnod⟩:=h;obtain ⟨ho1,ho2⟩:=hown.stored us.length (.iface 262 (strv (s++t)));rw [hlen];refine ⟨⟨?_,fun W hW=>?_⟩,rfl⟩
 ·rw [hlen];rw [hu] at ho1;simpa [List.set_append] using ho1
 ·have hn:=hnod W ⟨Nat.le_trans ho2.size hW.1,fun k k1 k2 k3=>(hW.2 k k1 (Nat.lt_of_lt_of_le k2 ho2.size) k3).trans (ho2.block k k2 (by simpa [Value.ownBlock] using k3))⟩;rw [h1,hu] at hn;obtain ⟨us',xs,he,n1,n2⟩:=NodesV.split _ _ hn;obtain ⟨vt,rfl,e2⟩:=n2;have e3:vt=[]:=e2;subst e3;obtain ⟨rfl,_⟩:=List.append_inj' he rfl;rw [h3];exact NodesV.app (g := .text (s++t) .nil) ⟨_,rfl,rfl⟩ _ _ n1
theorem add_msg {f:Fo} {s:Wd} (h:f.isMsg=true) (hl:f.lastText=some s) (t:Wd):(f.addText t).isMsg=true/\(f.addText t).lastText=some (s++t):=by
 obtain ⟨pre,h1,h2,h3⟩:=last_some f s hl;rw [h3];exact ⟨Fo.isMsg_app _ _ (h2 h) rfl,last_app _ (by simp) _⟩
theorem argP_last {rs:List Int} {msg:Option MsgP} {i j:Nat} {f:Fo} (h:argP rs msg i = .ok (f,j)):f.lastText=none/\j<=rs.length:=by
 have key:∀ q:Nat,nextL rs q=125->q+1<=rs.length:=fun q hq=>by
  apply Classical.byContradiction;intro hc;rw [next_end (by omega)] at hq
  cases hq
 unfold argP at h;obtain ⟨u,a,h1,h2⟩:=then_inv h;obtain ⟨nm,b,h3,h4⟩:=then_inv h2;clear h h1 h2 h3;split at h4
 ·obtain ⟨u,z,h5,h6⟩:=then_inv h4;have:=wantP_inv h5
  cases h6;exact ⟨rfl,by rw [this.2];exact key _ this.1⟩
 ·obtain ⟨wd,c,h5,h6⟩:=then_inv h4;split at h6
  ·obtain ⟨u,z,h7,h8⟩:=then_inv h6;have:=wantP_inv h7
   cases h8;exact ⟨rfl,by rw [this.2];exact key _ this.1⟩
  ·split at h6
   ·cases h6
   ·obtain ⟨u,d,h7,h8⟩:=then_inv h6;obtain ⟨o,l,h9,h10⟩:=then_inv h8;obtain ⟨bs,q,h11,h12⟩:=then_inv h10;obtain ⟨u,z,h13,h14⟩:=then_inv h12;have:=wantP_inv h13
    cases h14;exact ⟨rfl,by rw [this.2];exact key _ this.1⟩
theorem enc_flat_le (l:List Int):(l.flatMap enc).length<=4*l.length:=by
 induction l with
 | nil=>simp
 | cons a t ih=>have:=(enc_length a).1;simp only [List.flatMap_cons,List.length_append,List.length_cons];omega
theorem quote_part:∀ (n:Nat) (l:List Int),l.length<=n->(quoteL l).1.length<=(quoteL l).2:=by
 intro n;induction n with
 | zero =>
  intro l h;have:l=[]:=List.eq_nil_of_length_eq_zero (by omega);subst this;simp [quoteL]
 | succ n ih =>
  intro l h
  cases l with
  | nil=>simp [quoteL]
  | cons c t =>
   rw [quoteL.eq_def];dsimp only;by_cases hc:c=39
   ·rw [if_pos hc]
    cases t with
    | nil=>simp
    | cons d u =>
     dsimp only;by_cases hd:d=39
     ·rw [if_pos hd];have:=ih u (by simp at h;omega);simp;omega
     ·rw [if_neg hd];simp
   ·rw [if_neg hc];have:=ih t (by simp at h;omega);simp;omega
theorem text_size (rs:List Int) (num:Bool) (i:Nat):(textT rs num i).1.length+4*i<=4*(textT rs num i).2:=by
 unfold textT;split
 ·have:=(enc_length (nextL rs i)).1;show (enc (nextL rs i)).length+4*i<=4*(i+1);omega
 split
 ·have:=(enc_length 39).1;show (enc 39).length+4*i<=4*(i+2);omega
 split
 ·have:=(enc_length 39).1;show (enc 39).length+4*i<=4*(i+1);omega
 ·have h1:=enc_flat_le (quoteL (rs.drop (i+1))).1;have h2:=quote_part _ (rs.drop (i+1)) (Nat.le_refl _);show ((quoteL (rs.drop (i+1))).1.flatMap enc).length+4*i<=4*(i+1+(quoteL (rs.drop (i+1))).2);omega
theorem assert_text (s:Wd) (w:World):(Instr.typeAssert (.iface 262 (strv s)) 112 262 true).run Tryz.prog w = .ok (.tuple #[strv s,.bool true]) w:=by rfl
theorem assert_hash (w:World):(Instr.typeAssert (.iface 264 (.agg #[])) 112 262 true).run Tryz.prog w = .ok (.tuple #[.string ⟨#[]⟩,.bool false]) w:=by rfl
theorem assert_put (b:Nat) (w:World):(Instr.typeAssert (.iface 172 (.pointer (some ⟨b,0,none⟩))) 112 262 true).run Tryz.prog w = .ok (.tuple #[.string ⟨#[]⟩,.bool false]) w:=by rfl
theorem assert_num (b:Nat) (w:World):(Instr.typeAssert (.iface 175 (.pointer (some ⟨b,0,none⟩))) 112 262 true).run Tryz.prog w = .ok (.tuple #[.string ⟨#[]⟩,.bool false]) w:=by rfl
theorem assert_br (b:Nat) (w:World):(Instr.typeAssert (.iface 177 (.pointer (some ⟨b,0,none⟩))) 112 262 true).run Tryz.prog w = .ok (.tuple #[.string ⟨#[]⟩,.bool false]) w:=by rfl
end Go.Proofs.YthpldolmpinnhaaGreatDoor
