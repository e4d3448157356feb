import Derived.Test.YthpldolmpinnhaaGreatDoorJG2
import Derived.Maps.AppendAt
namespace Go.Proofs.YthpldolmpinnhaaGreatDoor
open Go Go.RowKit
theorem N8{P:Program}{t e:TypeId}{z:Value}{size bytes:Nat}(E:ZS P t e z size bytes){w:World}{ops:Array Oper}{rest:List Oper}{o:Oper}{a:Act}{Q:Exit->Act->World->Prop}
  (GV:o.guard=none) (s x:Operand) (ho:o.op = .call { callee := .builtin .append,args:=#[s,x],argTypes:=#[t,t] })
  (base:Nat) (v:Value) (n:Nat) (xs:List Value) (hs:a.eval s=v) (xV:w.ownsRow base e size v n xs)
  (ad:Addr) (m c:Nat) (news:List Value) (hx:a.eval x = .slice (some ad) m c) (hl:news.length=m*size) (dS:∀ j u,news[j]? = some u->w.cell? (ad.add j)=some u) (h1:∀ u∈news,u.oneCell'=true)
  (MS:n+m<=2147483648) (bM:base<=w.heap.size)
  (h:∀ v' w',w'.ownsRow base e size v' (n+m) (xs++news)->w.grownBy w' v.ownBlock->(v'.ownBlock=v.ownBlock\/v'.ownBlock=some w.heap.size)->wpList P ops Q rest (a.put o.dst v') w'):wpList P ops Q (o::rest) a w:=by
 obtain⟨i,hi,hz,h2,h3⟩:=E.info;have Ks:=E.small;refine wpList_append_own_at w GV s x t ho base e i z size bytes E.under hi hz h2 h3 E.Ua E.pos v n xs hs xV ad m c news hx hl dS h1 (by unfold maxLen;omega) ?_ bM (fun v' w' a b _ d=>h v' w' a b d);exact Nat.le_trans (Nat.mul_le_mul MS Ks) (by decide)
theorem Vj:ZS Tryz.prog 39 3 (.int .i64 0) 1 8 :=
 ⟨Tryz.underlying39,info_parts (by kernel_rfl),rfl,by decide,by decide⟩
theorem zyf{P:Program}{t e:TypeId}{z:Value}{size bytes:Nat}(E:ZS P t e z size bytes){w:World}{o:Oper}{a:Act}{K:Act->World->Prop}{Q:Exit->Act->World->Prop}
  (s x:Operand) (ho:o.op = .call { callee := .builtin .append,args:=#[s,x],argTypes:=#[t,t] })
  (base:Nat) (v:Value) (n:Nat) (xs:List Value) (hs:a.eval s=v) (xV:w.ownsRow base e size v n xs)
  (ad:Addr) (m c:Nat) (news:List Value) (hx:a.eval x = .slice (some ad) m c) (hl:news.length=m*size) (dS:∀ j u,news[j]? = some u->w.cell? (ad.add j)=some u) (h1:∀ u∈news,u.oneCell'=true)
  (MS:n+m<=2147483648) (bM:base<=w.heap.size)
  (h:∀ v' w',w'.ownsRow base e size v' (n+m) (xs++news)->w.grownBy w' v.ownBlock->(v'.ownBlock=v.ownBlock\/v'.ownBlock=some w.heap.size)->K (a.put o.dst v') w'):o.wp P a w K Q:=by
 obtain⟨i,hi,hz,h2,h3⟩:=E.info;have Ks:=E.small;obtain⟨v',w',hr,k2,k3,k4,k5⟩:=run_append_own_at (P:=P) w base t o.type e i z size bytes E.under hi hz h2 h3 E.Ua E.pos v n xs xV ad m c news hl dS h1 (by unfold maxLen;omega) (Nat.le_trans (Nat.mul_le_mul MS Ks) (by decide)) bM;unfold Oper.wp execOp;simp only[ho,resolve,invoke,builtin,Sem.run_bind,Sem.run_pure,Result.andThen_ok,List.map_toArray,List.map_cons,List.map_nil,hs,hx,hr];exact h v' w' k2 k3 k5
end Go.Proofs.YthpldolmpinnhaaGreatDoor
