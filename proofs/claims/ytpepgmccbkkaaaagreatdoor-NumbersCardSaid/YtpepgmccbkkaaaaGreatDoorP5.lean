/- numfmt's Locale: parted, Write. -/
import Derived.Test.YtpepgmccbkkaaaaGreatDoorP3
import Derived.Test.YtpepgmccbkkaaaaGreatDoorP4
namespace Go.Proofs.YtpepgmccbkkaaaaGreatDoor
open Go Go.RowKit
set_option maxRecDepth 10000

/-- a locale of the program's, in a block of its own -/
structure LocX (w : World) (g : Nat) (mi po gr fi ne : Int) (ds : List Int) : Prop where
  c2 : w.cell? ⟨g, 2, none⟩ = some (.int .i32 mi)
  c3 : w.cell? ⟨g, 3, none⟩ = some (.int .i32 po)
  c4 : w.cell? ⟨g, 4, none⟩ = some (.int .i32 gr)
  c5 : w.cell? ⟨g, 5, none⟩ = some (.int .i64 fi)
  c6 : w.cell? ⟨g, 6, none⟩ = some (.int .i64 ne)
  len : ds.length = 10
  c7 : ∀ j (h : j < ds.length), w.cell? ⟨g, 7 + j, none⟩ = some (.int .i32 ds[j])

/-- does a group end here? -/
def partB (gr fi ne : Int) (left : Nat) : Bool := gr != 0 && decide (0 < fi) && decide (fi ≤ (left : Int)) && (((left : Int) - fi) % ne == 0)

set_option maxHeartbeats 4000000 in
theorem parted_any (g : Nat) (mi po gr : Int) (fi ne : Nat) (ds : List Int) (left : Nat) (w : World) (h : LocX w g mi po gr fi ne ds) (hl : left ≤ 1000000) (hf : fi ≤ 255) (hn : 0 < fi → 0 < ne) (hn2 : ne ≤ 255) :
    Calls Tryz.prog 44 #[.pointer (some ⟨g, 0, none⟩), .int .i64 left] w fun e w' => e = .returned (.bool (partB gr fi ne left)) ∧ ∃ n, w' = w.drewN n := by
  have c4 := h.c4
  have c5 := h.c5
  have c6 := h.c6
  clear h
  by_cases h1 : (gr != 0) = true
  · by_cases h2 : (0 : Int) < (fi : Int)
    · by_cases h3 : (fi : Int) ≤ (left : Int)
      · have h2n : 0 < fi := by omega
        have h3n : fi ≤ left := by omega
        have hfin : partB gr fi ne left = (((left : Int) - fi) % ne == 0) := by simp [partB, h1, h2n, h3n]
        have HF := Lib.hid hfin
        clear hfin
        have hne : 0 < ne := hn (by omega)
        have hne' : ¬ ((ne : Int) = 0) := by omega
        have hs0 : (0 : Int) ≤ (left : Int) - (fi : Int) := by omega
        go_enter Tryz.func44, Tryz.ntmps44
        go_wp2_with fail
        go_quiet (fail)
        go_wp2
        go_ret
        exact ⟨by rw [HF.out]; rfl, nq, rfl⟩
      · have h2n : 0 < fi := by omega
        have h3n : ¬ fi ≤ left := by omega
        have h3' : (left : Int) < (fi : Int) := by omega
        have hfin : partB gr fi ne left = false := by simp [partB]; omega
        have HF := Lib.hid hfin
        clear hfin
        go_enter Tryz.func44, Tryz.ntmps44
        go_wp2_with fail
        go_quiet (fail)
        go_wp2
        go_ret
        exact ⟨by rw [HF.out]; rfl, nq, rfl⟩
    · have h2n : fi = 0 := by omega
      subst h2n
      clear h2
      have hfin : partB gr (0 : Nat) ne left = false := by simp [partB]
      have HF := Lib.hid hfin
      clear hfin
      go_enter Tryz.func44, Tryz.ntmps44
      go_wp2_with fail
      go_quiet (fail)
      go_wp2
      go_ret
      exact ⟨by rw [HF.out]; rfl, nq, rfl⟩
  · have h1' : (gr != 0) = false := by simpa using h1
    have hfin : partB gr fi ne left = false := by simp [partB, h1']
    have HF := Lib.hid hfin
    clear hfin h1
    go_enter Tryz.func44, Tryz.ntmps44
    go_wp2_with fail
    go_quiet (fail)
    go_wp2
    go_ret
    exact ⟨by rw [HF.out]; rfl, nq, rfl⟩
end Go.Proofs.YtpepgmccbkkaaaaGreatDoor
