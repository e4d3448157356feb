import Derived.Test.YthpldolmpinnhaaGreatDoorJ10
namespace Go.Proofs.YthpldolmpinnhaaGreatDoor
open Go Go.RowKit
set_option maxRecDepth 10000
theorem elem_branch:Elem Tryz.prog 179 183 (.agg #[.string ⟨#[]⟩,.int .i64 0,.slice none 0 0]) 3 48 :=
 ⟨Tryz.underlying179,info_parts (by kernel_rfl),rfl,by decide,by decide⟩
theorem elem_node:Elem Tryz.prog 107 112 .nilIface 1 16 :=
 ⟨Tryz.underlying107,info_parts (by kernel_rfl),rfl,by decide,by decide⟩
theorem op_grow {P:Program} {t e:TypeId} {z:Value} {size bytes:Nat} (E:Elem P t e z size bytes) {w:World} {o:Oper} {a:Act} {K:Act->World->Prop} {Q:Exit->Act->World->Prop}
  (s x:Operand) (ho:o.op = .call { callee := .builtin .append,args:=#[s,x],argTypes:=#[t,t] })
  (base lo:Nat) (v:Value) (acc f:Fo) (ws:List Value) (hs:a.eval s=v) (hg:GrowR base e size v acc ws w)
  (ad:Addr) (m c:Nat) (news:List Value) (hx:a.eval x = .slice (some ad) m c) (hl:news.length=m*size) (hnews:∀ j u,news[j]? = some u->w.cell? (ad.add j)=some u) (h1:∀ u∈news,u.oneCell'=true)
  (hn:NodesV lo w.heap.size w news f) (hlo:base<=lo) (hv:∀ k,v.ownBlock=some k->k<lo) (hm:f.len=m)
  (h31:acc.len+m<=2147483648) (hbase:base<=w.heap.size)
  (h:∀ v' w',GrowR base e size v' (acc.app f) (ws++news) w'->w.grownBy w' v.ownBlock->K (a.put o.dst v') w'):Oper.wp P o a w K Q:=by
 obtain ⟨i,hi,hz,rfl,rfl⟩:=E.info;have hs4:=E.small;obtain ⟨v',w',hr,h2,h3,h4⟩:=append_where (P:=P) w base t o.type e i z E.under hi hz E.zsize E.pos v acc.len ws hg.1 ad m c news hl hnews h1 (by unfold maxLen;omega) (Nat.le_trans (Nat.mul_le_mul h31 hs4) (by decide)) hbase;unfold Oper.wp execOp;simp only [ho,resolve,invoke,builtin,Sem.run_bind,Sem.run_pure,Result.andThen_ok,List.map_toArray,List.map_cons,List.map_nil,hs,hx,hr];exact h v' w' (hg.grow hn hlo hv hm h2 h3 h4) h3
theorem GrowR.lt {base:Nat} {e:TypeId} {size:Nat} {v:Value} {acc:Fo} {ws:List Value} {w:World} (h:GrowR base e size v acc ws w):∀ k,v.ownBlock=some k->base<=k/\k<w.heap.size:=h.1.lt
theorem Fo.isLegs_app:∀ f g:Fo,f.isLegs=true->g.isLegs=true->(f.app g).isLegs=true
 | .nil,g,_,h=>h
 | .leg k a m r,g,h,h2=>Fo.isLegs_app r g h h2
 | .text t r,g,h,_=>by cases h
 | .hash r,g,h,_=>by cases h
 | .put n a r,g,h,_=>by cases h
 | .num n a r,g,h,_=>by cases h
 | .br n a f o c b r,g,h,_=>by cases h
theorem Fo.isMsg_app:∀ f g:Fo,f.isMsg=true->g.isMsg=true->(f.app g).isMsg=true
 | .nil,g,_,h=>h
 | .leg k a m r,g,h,h2=>by cases h
 | .text t r,g,h,h2=>Fo.isMsg_app r g h h2
 | .hash r,g,h,h2=>Fo.isMsg_app r g h h2
 | .put n a r,g,h,h2=>Fo.isMsg_app r g h h2
 | .num n a r,g,h,h2=>Fo.isMsg_app r g h h2
 | .br n a f o c b r,g,h,h2=>Fo.isMsg_app r g h h2
end Go.Proofs.YthpldolmpinnhaaGreatDoor
namespace Go.Proofs.YthpldolmpinnhaaGreatDoor
open Go Go.RowKit
theorem skipL_le (rs:List Int) (i:Nat):i<=skipL rs i:=Nat.le_add_right _ _
def MsgUp (m:MsgP):Prop:=∀ num i f j,m num i = .ok (f,j)->i<=j
theorem then_inv {α β:Type} {x:PRes α} {k:α->Nat->PRes β} {b:β} {j:Nat} (h:x.then k = .ok (b,j)):∃ a q,x = .ok (a,q)/\k a q = .ok (b,j):=by
 cases x with
 | error e=>cases h
 | ok a=>exact ⟨a.1,a.2,rfl,h⟩
theorem wantP_inv {rs:List Int} {r:Int} {i j:Nat} {u:Unit} (h:wantP rs r i = .ok (u,j)):nextL rs i=r/\j=i+1:=by
 unfold wantP at h;split at h
 ·cases h;exact ⟨by assumption,rfl⟩
 ·cases h
theorem nameP_inv {rs:List Int} {i j:Nat} {x:Wd} (h:nameP rs i = .ok (x,j)):i<j:=by
 unfold nameP at h;split at h
 ·cases h
 ·cases h;omega
theorem wholeP_inv {rs:List Int} {i j:Nat} {x:Wd} (h:wholeP rs i = .ok (x,j)):i<j:=by
 unfold wholeP at h;split at h
 ·cases h
 ·cases h;omega
theorem keyP_inv {rs:List Int} {num:Bool} {i j:Nat} {x:Wd} (h:keyP rs num i = .ok (x,j)):i<j:=by
 unfold keyP at h;split at h
 ·obtain ⟨a,q,h1,h2⟩:=then_inv h
  cases h2;have:=wholeP_inv h1;omega
 ·obtain ⟨a,q,h1,h2⟩:=then_inv h;split at h2
  ·cases h2
  ·cases h2;exact nameP_inv h1
theorem legP_lt {rs:List Int} {msg:Option MsgP} {num:Bool} {i j:Nat} {f:Fo} (hm:∀ m,msg=some m->MsgUp m) (h:legP rs msg num i = .ok (f,j)):i<j:=by
 unfold legP at h;obtain ⟨k,a,h1,h2⟩:=then_inv h;obtain ⟨u,b,h3,h4⟩:=then_inv h2;have e1:=keyP_inv h1;have e2:=(wantP_inv h3).2;have e3:=skipL_le rs a
 cases msg with
 | none=>cases h4
 | some m =>
  obtain ⟨g,c,h5,h6⟩:=then_inv (show (m num b).then _=_ from h4);obtain ⟨u2,z,h7,h8⟩:=then_inv h6;have e4:=hm m rfl _ _ _ _ h5;have e5:=(wantP_inv h7).2;have e6:=skipL_le rs z
  cases h8;omega
theorem legsP_le {rs:List Int} {msg:Option MsgP} {num:Bool} (hm:∀ m,msg=some m->MsgUp m):∀ (n:Nat) (acc:Fo) (i j:Nat) (f:Fo),legsP rs msg num n acc i = .ok (f,j)->i<=j
 | 0,acc,i,j,f,h=>by cases h
 | n+1,acc,i,j,f,h=>by
  rw [legsP] at h;split at h
  ·cases h;exact Nat.le_refl _
  ·obtain ⟨g,q,h1,h2⟩:=then_inv h;have:=legP_lt hm h1;have:=legsP_le hm n _ _ _ _ h2;omega
theorem offP_le {rs:List Int} {form i j:Nat} {o:Wd} (h:offP rs form i = .ok (o,j)):i<=j:=by
 unfold offP at h;split at h
 ·obtain ⟨a,q,h1,h2⟩:=then_inv h
  cases h2;have:=wholeP_inv h1;have:=skipL_le rs (i+7);have:=skipL_le rs q;omega
 ·cases h;exact Nat.le_refl _
theorem argP_lt {rs:List Int} {msg:Option MsgP} {i j:Nat} {f:Fo} (hm:∀ m,msg=some m->MsgUp m) (h:argP rs msg i = .ok (f,j)):i<j:=by
 unfold argP at h;obtain ⟨u,a,h1,h2⟩:=then_inv h;obtain ⟨nm,b,h3,h4⟩:=then_inv h2;have e1:=(wantP_inv h1).2;have e2:=skipL_le rs a;have e3:=nameP_inv h3;have e4:=skipL_le rs b;clear h h1 h2 h3;split at h4
 ·obtain ⟨u,z,h5,h6⟩:=then_inv h4;have:=(wantP_inv h5).2
  cases h6;omega
 ·obtain ⟨wd,c,h5,h6⟩:=then_inv h4;have e5:=nameP_inv h5;have e6:=skipL_le rs (skipL rs b+1);have e7:=skipL_le rs c;clear h4 h5;split at h6
  ·obtain ⟨u,z,h7,h8⟩:=then_inv h6;have:=(wantP_inv h7).2
   cases h8;omega
  ·split at h6
   ·cases h6
   ·obtain ⟨u,d,h7,h8⟩:=then_inv h6;obtain ⟨o,l,h9,h10⟩:=then_inv h8;obtain ⟨bs,q,h11,h12⟩:=then_inv h10;obtain ⟨u,z,h13,h14⟩:=then_inv h12;have:=(wantP_inv h7).2;have:=skipL_le rs d;have:=offP_le h9;have:=legsP_le hm _ _ _ _ _ h11;have:=(wantP_inv h13).2
    cases h14;omega
theorem textT_lt (rs:List Int) (num:Bool) (i:Nat):i<(textT rs num i).2:=by
 unfold textT;split
 ·exact Nat.lt_succ_self _
 split
 ·exact Nat.lt_add_of_pos_right (by decide)
 split
 ·exact Nat.lt_succ_self _
 ·show i<i+1+_;omega
theorem msgGo_le {rs:List Int} {msg:Option MsgP} {num:Bool} (hm:∀ m,msg=some m->MsgUp m):∀ (n:Nat) (acc:Fo) (i j:Nat) (f:Fo),msgGo rs msg num n acc i = .ok (f,j)->i<=j
 | 0,acc,i,j,f,h=>by cases h
 | n+1,acc,i,j,f,h=>by
  rw [msgGo] at h;split at h
  ·cases h;exact Nat.le_refl _
  split at h
  ·obtain ⟨g,q,h1,h2⟩:=then_inv h;have:=argP_lt hm h1;have:=msgGo_le hm n _ _ _ _ h2;omega
  split at h
  ·have:=msgGo_le hm n _ _ _ _ h;omega
  ·have:=msgGo_le hm n _ _ _ _ h;have:=textT_lt rs num i;omega
theorem msgP_up (rs:List Int):∀ n,MsgUp (msgP rs n)
 | 0,num,i,f,j,h=>by
  rw [msgP] at h;exact msgGo_le (fun m e=>by cases e) _ _ _ _ _ h
 | n+1,num,i,f,j,h=>by
  rw [msgP] at h;exact msgGo_le (fun m e=>by cases e;exact msgP_up rs n) _ _ _ _ _ h
end Go.Proofs.YthpldolmpinnhaaGreatDoor
