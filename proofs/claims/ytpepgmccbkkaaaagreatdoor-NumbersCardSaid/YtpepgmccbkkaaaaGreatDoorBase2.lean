/- Base2: lemmas that give a goal's world a name, and facts on worlds. -/
import Derived.Test.YtpepgmccbkkaaaaGreatDoorBase
namespace Go.Proofs.YtpepgmccbkkaaaaGreatDoor
open Go Go.RowKit

/-- the world of a goal under a name -/
theorem wp_gen {P : Program} {c : Code} {Q : Exit → Act → World → Prop} {a : Act} {w : World} (h : ∀ W, W = w → Code.wp P c Q a W) : Code.wp P c Q a w := h w rfl
theorem calls_gen {P : Program} {f : FuncId} {args : Array Value} {R : Ending → World → Prop} {w : World} (h : ∀ W, W = w → Calls P f args W R) : Calls P f args w R := h w rfl
theorem list_gen {P : Program} {ops : Array Oper} {Q : Exit → Act → World → Prop} {l : List Oper} {a : Act} {w : World} (h : ∀ W, W = w → wpList P ops Q l a W) : wpList P ops Q l a w := h w rfl

theorem body_id {P : Program} {fn : Func} {R : Ending → World → Prop} {e : Exit} {a : Act} {w : World} (h : bodyPost P fn R e a w) : bodyPost P fn R e a w := h

theorem below_drewN {B : Nat} {a w : World} (h : Below B a w) (n : Nat) : Below B a (w.drewN n) := ⟨h.os, h.tape, h.output, h.size, h.block⟩

/-- a cell behind a store: decided by the addresses alone -/
theorem cellSet (w : World) (a b : Addr) (v : Value) : (w.setCell a v).cell? b = if a = b then (w.cell? b).map (fun _ => v) else w.cell? b := by
  split
  next h =>
    subst h
    cases hc : w.cell? a with
    | some u =>
      rw [World.cell?_setCell_same (h := hc)]
      rfl
    | none =>
      cases hd : (w.setCell a v).cell? a with
      | none => rfl
      | some u =>
        exfalso
        unfold World.cell? World.setCell at hd
        unfold World.cell? at hc
        simp only [Array.getElem?_modify, if_true] at hd
        cases hh : w.heap[a.block]? with
        | none => simp [hh] at hd
        | some o =>
          simp only [hh] at hc
          simp only [hh, Option.map_some] at hd
          cases o <;> simp_all
  next h => exact World.cell?_setCell_other (h := h) ..

theorem addr_add (a : Addr) (j : Nat) : (a.add j).block = a.block := by
  unfold Addr.add
  split <;> rfl
theorem addr_add0 (g j : Nat) : (⟨g, 0, none⟩ : Addr).add j = ⟨g, j, none⟩ := by
  unfold Addr.add
  split
  · simp_all
  · simp
end Go.Proofs.YtpepgmccbkkaaaaGreatDoor
