import Derived.Test.YtdelpialeajajaaGreatDoorJC4
import Derived.Maps.AppendAt

/- append, with the place of the new row; rows of a caller's own. -/
namespace Go.Proofs.YtdelpialeajajaaGreatDoor
open Go Go.RowKit

theorem app_at {P : Program} {t e : TypeId} {z : Value} {size bytes : Nat} (E : Elem P t e z size bytes) {w : World} {ops : Array Oper} {rest : List Oper} {o : Oper} {a : Act} {Q : Exit → Act → World → Prop}
    (hgd : o.guard = none) (s x : Operand) (ho : o.op = .call { callee := .builtin .append, args := #[s, x], argTypes := #[t, t] })
    (base : Nat) (v : Value) (n : Nat) (xs : List Value) (hs : a.eval s = v) (hown : w.ownsRow base e size v n xs)
    (ad : Addr) (m c : Nat) (news : List Value) (hx : a.eval x = .slice (some ad) m c) (hl : news.length = m * size) (hnews : ∀ j u, news[j]? = some u → w.cell? (ad.add j) = some u) (h1 : ∀ u ∈ news, u.oneCell' = true)
    (h31 : n + m ≤ 2147483648) (hbase : base ≤ w.heap.size)
    (h : ∀ v' w', w'.ownsRow base e size v' (n + m) (xs ++ news) → w.grownBy w' v.ownBlock → (v'.ownBlock = v.ownBlock ∨ v'.ownBlock = some w.heap.size) → wpList P ops Q rest (a.put o.dst v') w') : wpList P ops Q (o :: rest) a w := by
  obtain ⟨i, hi, hz, h2, h3⟩ := E.info
  have hs4 := E.small
  refine wpList_append_own_at w hgd s x t ho base e i z size bytes E.under hi hz h2 h3 E.zsize E.pos v n xs hs hown ad m c news hx hl hnews h1 (by unfold maxLen; omega) ?_ hbase (fun v' w' a b _ d => h v' w' a b d)
  exact Nat.le_trans (Nat.mul_le_mul h31 hs4) (by decide)

theorem elem_ints : Elem Tryz.prog 25 3 (.int .i64 0) 1 8 :=
  ⟨Tryz.underlying25, info_parts (by kernel_rfl), rfl, by decide, by decide⟩
end Go.Proofs.YtdelpialeajajaaGreatDoor
