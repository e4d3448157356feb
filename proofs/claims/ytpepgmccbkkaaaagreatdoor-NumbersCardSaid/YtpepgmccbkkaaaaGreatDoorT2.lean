/- api.Tell: the number and the place of an error. -/
import Derived.Test.YtpepgmccbkkaaaaGreatDoorT1
namespace Go.Proofs.YtpepgmccbkkaaaaGreatDoor
open Go Go.RowKit
set_option maxRecDepth 10000

/-- the library's variable errors.errorType holds the handle of the type error -/
def ErrT (w : World) : Prop := w.cell? ⟨0, 0, none⟩ = some (.iface 132 (.agg #[hdl 48]))

theorem ErrT.below {w w' : World} (h : ErrT w) (hb : Below w.heap.size w w') : ErrT w' := by
  have hlt := World.block_lt_of_cell? w _ h
  unfold ErrT
  rw [hb.cell (p := ⟨0, 0, none⟩) hlt]
  exact h

/-- an error by its number; 0: none -/
def errV (n : Int) : Value := if n = 0 then .nilIface else .iface 30 (.int .i64 n)

def TellPost (n at_ : Int) (w : World) (e : Ending) (w' : World) : Prop := e = .returned (.tuple #[.int .i64 n, .int .i64 at_]) ∧ Below w.heap.size w w'

set_option maxHeartbeats 1000000 in
theorem tell_nil (w : World) : Calls Tryz.prog 18 #[.nilIface] w (TellPost 0 0 w) := by
  go_enter Tryz.func18, Tryz.ntmps18
  go_wp2
  go_ret2
  exact ⟨rfl, ((Below.refl _ _).alloc (Nat.le_refl _) _).alloc (by simp) _⟩

set_option maxHeartbeats 2000000 in
theorem tell_n (n : Int) (w : World) (hE : ErrT w) : Calls Tryz.prog 18 #[.iface 30 (.int .i64 n)] w (TellPost n 0 w) := by
  have HE := Lib.hid hE
  clear hE
  go_enter Tryz.func18, Tryz.ntmps18
  go_wp2_with fail
  refine calls_gen ?_
  intro W hW
  have hb : Below w.heap.size w W := by rw [hW]; exact ((Below.refl _ _).alloc (Nat.le_refl _) _).alloc (by simp) _
  have hz : w.heap.size + 2 ≤ W.heap.size := by rw [hW]; simp
  have hA : W.cell? ⟨w.heap.size, 0, none⟩ = some (.pointer none) ∧ W.frozen? ⟨w.heap.size, 0, none⟩ = false := by rw [hW]; constructor <;> go_simp
  have hB : W.cell? ⟨w.heap.size + 1, 0, none⟩ = some (.int .i64 0) ∧ W.frozen? ⟨w.heap.size + 1, 0, none⟩ = false := by rw [hW]; constructor <;> go_simp
  clear hW
  refine (as_miss n ⟨w.heap.size, 0, none⟩ _ W (HE.out.below hb) hA.1 hA.2).mono ?_
  rintro e w1 ⟨rfl, o1, o2, o3, hw1⟩
  have hb1 : Below W.heap.size W w1 := by rw [hw1]; exact (((Below.refl _ _).alloc (Nat.le_refl _) _).alloc (by simp) _).alloc (by simp; omega) _
  have hB1 : w1.cell? ⟨w.heap.size + 1, 0, none⟩ = some (.int .i64 0) ∧ w1.frozen? ⟨w.heap.size + 1, 0, none⟩ = false :=
    ⟨by rw [hb1.cell (by simp; omega)]; exact hB.1, by rw [hb1.frozen (by simp; omega)]; exact hB.2⟩
  have hb01 := hb.trans (hb1.mono (by omega))
  have hz1 : w.heap.size + 2 ≤ w1.heap.size := by have := hb1.size; omega
  clear hw1 hA hB hb1 hz
  go_wp2_with fail
  refine (as_hit_n n ⟨w.heap.size + 1, 0, none⟩ _ w1 (HE.out.below hb01) hB1.1 hB1.2).mono ?_
  rintro e w2 ⟨rfl, p1, p2, p3, p4, hw2⟩
  have hb2 : Below (w.heap.size + 1) w1 w2 := by rw [hw2]; exact (((((Below.refl _ _).alloc (by omega) _).alloc (by simp; omega) _).alloc (by simp; omega) _).alloc (by simp; omega) _).setCell (by simp) _
  have hb02 := hb01.trans (hb2.mono (by omega))
  have hC : w2.cell? ⟨w.heap.size + 1, 0, none⟩ = some (.int .i64 n) := by
    rw [hw2, cellSet, if_pos rfl]
    rw [World.cell?_alloc_lt _ _ _ (by simp; omega), World.cell?_alloc_lt _ _ _ (by simp; omega), World.cell?_alloc_lt _ _ _ (by simp; omega), World.cell?_alloc_lt _ _ _ (by show w.heap.size + 1 < _; omega), hB1.1]
    rfl
  clear hw2 hb2 hB1
  go_wp2
  go_ret2
  exact ⟨rfl, hb02⟩

theorem tell_e (n : Int) (w : World) (hE : ErrT w) : Calls Tryz.prog 18 #[errV n] w (TellPost n 0 w) := by
  unfold errV
  by_cases h : n = 0
  · subst h; rw [if_pos rfl]; exact tell_nil w
  · rw [if_neg h]; exact tell_n n w hE
end Go.Proofs.YtpepgmccbkkaaaaGreatDoor
