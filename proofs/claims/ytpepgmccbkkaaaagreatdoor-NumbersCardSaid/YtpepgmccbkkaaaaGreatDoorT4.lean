/- The law Numbers: walked. -/
import Derived.Test.YtpepgmccbkkaaaaGreatDoorT3
import Derived.Test.YtpepgmccbkkaaaaGreatDoorR7
import Derived.Test.YtpepgmccbkkaaaaGreatDoorR6
import Derived.Test.YtpepgmccbkkaaaaGreatDoorR5
import Derived.Laws.AppendOwnNone
import Derived.IntWalk
namespace Go.Proofs.YtpepgmccbkkaaaaGreatDoor
open Go Go.RowKit
set_option maxRecDepth 10000

theorem rules_nil (w : World) : Calls Tryz.prog 11 #[.slice none 0 0] w fun e w' => e = .returned (.slice none 0 0) ∧ w = w' := by
  go_enter Tryz.func11, Tryz.ntmps11
  go_wp2
  refine wp_loop_rounds 1 ?_
  rw [rounds_succ]
  go_wp2
  go_ret
  exact ⟨rfl, rfl⟩

/-- a list of numbers in memory -/
def SignsAt (w : World) (v : Value) (xs : List Int) : Prop := ∃ a cap, v = .slice a xs.length cap ∧ xs.length ≤ maxLen ∧ ∀ j (h : j < xs.length), ∃ b, a = some b ∧ w.cell? (b.add j) = some (.int .i64 xs[j])

theorem SignsAt.below {w w' : World} {v : Value} {xs : List Int} (h : SignsAt w v xs) (hb : Below w.heap.size w w') : SignsAt w' v xs := by
  obtain ⟨a, cap, hv, hl, hc⟩ := h
  refine ⟨a, cap, hv, hl, fun j hj => ?_⟩
  obtain ⟨b, hb1, hb2⟩ := hc j hj
  refine ⟨b, hb1, ?_⟩
  rw [hb.cell (World.block_lt_of_cell? w _ hb2)]
  exact hb2

/-- the k-th as a rune -/
def sgn (xs : List Int) (k : Nat) : Int := if h : k < xs.length then wrap32 xs[k] else 0

set_option maxHeartbeats 1000000 in
theorem sign_any (v : Value) (xs : List Int) (k : Nat) (hk : k ≤ 2) (w : World) (h : SignsAt w v xs) :
    Calls Tryz.prog 12 #[v, .int .i64 k] w fun e w' => e = .returned (.int .i32 (sgn xs k)) ∧ w = w' := by
  obtain ⟨a, cap, rfl, hl, hc⟩ := h
  unfold maxLen at hl
  by_cases hlt : k < xs.length
  · obtain ⟨b, rfl, hcell⟩ := hc k hlt
    have hfin : sgn xs k = wrap32 xs[k] := by unfold sgn; rw [dif_pos hlt]
    have HF := Lib.hid hfin
    have hltb : decide ((k : Int) < (xs.length : Int)) = true := by simpa using hlt
    clear hfin hc
    go_enter Tryz.func12, Tryz.ntmps12
    go_wp2
    go_ret
    exact ⟨by rw [HF.out]; rfl, rfl⟩
  · have hfin : sgn xs k = 0 := by unfold sgn; rw [dif_neg hlt]
    have HF := Lib.hid hfin
    have hltb : decide ((k : Int) < (xs.length : Int)) = false := by simpa using hlt
    clear hfin hc
    go_enter Tryz.func12, Tryz.ntmps12
    go_wp2
    go_ret
    exact ⟨by rw [HF.out]; rfl, rfl⟩

set_option maxHeartbeats 2000000 in
theorem locale_nil (v : Value) (xs : List Int) (f n : Int) (dg : ByteArray) (w : World) (h : SignsAt w v xs) :
    Calls Tryz.prog 5 #[.slice none 0 0, .slice none 0 0, v, .int .i64 f, .int .i64 n, .string dg] w fun e w' =>
      e = .returned (locv (.slice none 0 0) (.slice none 0 0) (sgn xs 0) (sgn xs 1) (sgn xs 2) (IntKind.u8.wrap f) (IntKind.u8.wrap n) dg) ∧ Below w.heap.size w w' := by
  have HS := Lib.hid h
  clear h
  obtain ⟨s0, hs0⟩ : ∃ s, s = sgn xs 0 := ⟨_, rfl⟩
  obtain ⟨s1, hs1⟩ : ∃ s, s = sgn xs 1 := ⟨_, rfl⟩
  obtain ⟨s2, hs2⟩ : ∃ s, s = sgn xs 2 := ⟨_, rfl⟩
  have H0 := Lib.hid hs0
  have H1 := Lib.hid hs1
  have H2 := Lib.hid hs2
  rw [← hs0, ← hs1, ← hs2]
  clear hs0 hs1 hs2
  go_enter Tryz.func5, Tryz.ntmps5
  go_wp2_with fail
  refine (rules_nil _).mono ?_
  rintro e w1 ⟨rfl, rfl⟩
  go_wp2_with fail
  refine (rules_nil _).mono ?_
  rintro e w1 ⟨rfl, rfl⟩
  go_wp2_with fail
  refine calls_gen ?_
  intro W3 hW3
  have hb3 : Below w.heap.size w W3 := by rw [hW3]; (repeat (first | (with_reducible exact Below.refl _ _) | (with_reducible refine Below.alloc ?_ ?_ _; rotate_left; focus (first | (simp; done) | (simp; omega))) | (with_reducible refine Below.setCell ?_ ?_ _; rotate_left; focus (first | (simp; done) | (simp; omega)))))
  refine (sign_any v xs 0 (by decide) W3 (HS.out.below hb3)).mono ?_
  rintro e w4 ⟨rfl, rfl⟩
  rw [← H0.out, hW3]
  clear hb3 hW3
  go_wp2_with fail
  refine calls_gen ?_
  intro W3 hW3
  have hb3 : Below w.heap.size w W3 := by rw [hW3]; (repeat (first | (with_reducible exact Below.refl _ _) | (with_reducible refine Below.alloc ?_ ?_ _; rotate_left; focus (first | (simp; done) | (simp; omega))) | (with_reducible refine Below.setCell ?_ ?_ _; rotate_left; focus (first | (simp; done) | (simp; omega)))))
  refine (sign_any v xs 1 (by decide) W3 (HS.out.below hb3)).mono ?_
  rintro e w4 ⟨rfl, rfl⟩
  rw [← H1.out, hW3]
  clear hb3 hW3
  go_wp2_with fail
  refine calls_gen ?_
  intro W3 hW3
  have hb3 : Below w.heap.size w W3 := by rw [hW3]; (repeat (first | (with_reducible exact Below.refl _ _) | (with_reducible refine Below.alloc ?_ ?_ _; rotate_left; focus (first | (simp; done) | (simp; omega))) | (with_reducible refine Below.setCell ?_ ?_ _; rotate_left; focus (first | (simp; done) | (simp; omega)))))
  refine (sign_any v xs 2 (by decide) W3 (HS.out.below hb3)).mono ?_
  rintro e w4 ⟨rfl, rfl⟩
  rw [← H2.out, hW3]
  clear hb3 hW3
  go_wp2
  refine bodyPost_ret (v := locv (.slice none 0 0) (.slice none 0 0) s0 s1 s2 (IntKind.u8.wrap f) (IntKind.u8.wrap n) dg) ?_ rfl ⟨rfl, ?_⟩
  · simp [results, Tryz.results5, go_sem, IntKind.wrap, IntKind.signed, IntKind.bits]
  · (repeat (first | (with_reducible exact Below.refl _ _) | (with_reducible refine Below.alloc ?_ ?_ _; rotate_left; focus (first | (simp; done) | (simp; omega))) | (with_reducible refine Below.setCell ?_ ?_ _; rotate_left; focus (first | (simp; done) | (simp; omega)))))
end Go.Proofs.YtpepgmccbkkaaaaGreatDoor
