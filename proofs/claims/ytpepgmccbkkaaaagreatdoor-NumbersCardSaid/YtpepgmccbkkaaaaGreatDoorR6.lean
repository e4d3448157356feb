/- phrasesref.Known, of rules whose answer is known; rules that are none at all. -/
import Derived.Test.YtpepgmccbkkaaaaGreatDoorR5
namespace Go.Proofs.YtpepgmccbkkaaaaGreatDoor
open Go Go.RowKit
set_option maxRecDepth 10000

/-- what Ruled answers of a slice of rules, in every later world -/
def RuledAt (w : World) (c : Value) (r : Bool) : Prop :=
  ∀ w', Below w.heap.size w w' → Calls Tryz.prog 19 #[c] w' fun e w'' => e = .returned (.bool r) ∧ Below w'.heap.size w' w''

theorem RuledAt.later {w w' : World} {c : Value} {r : Bool} (h : RuledAt w c r) (hb : Below w.heap.size w w') : RuledAt w' c r :=
  fun w'' hb' => h w'' (hb.trans (hb'.mono hb.size))

def catsL : List (List UInt8) := [[122, 101, 114, 111], [111, 110, 101], [116, 119, 111], [102, 101, 119], [109, 97, 110, 121], [111, 116, 104, 101, 114]]

def CatsPost (w : World) (e : Ending) (w' : World) : Prop :=
  ∃ v, e = .returned v ∧ w'.ownsRow w.heap.size 9 1 v 6 (catsL.map strv) ∧ Below w.heap.size w w'

theorem categories_any (w : World) : Calls Tryz.prog 30 #[] w (CatsPost w) := by
  go_enter Tryz.func30, Tryz.ntmps30
  go_wp2
  go_ret
  exact ⟨_, rfl, World.ownsRow_lit w _ 6 (Nat.le_refl _) (by decide) rfl, (Below.refl _ _).alloc (Nat.le_refl _) _⟩

theorem ruled_nil (w : World) : RuledAt w (.slice none 0 0) true := by
  intro w' _
  go_enter Tryz.func19, Tryz.ntmps19
  go_wp2_with fail
  refine (categories_any _).mono ?_
  rintro e w1 ⟨v, rfl, hown, hb⟩
  clear hown
  go_wp2
  refine wp_loop_rounds 1 ?_
  rw [rounds_succ]
  go_wp2
  go_ret
  exact ⟨rfl, hb⟩

def knownL (ra rb : Bool) (mi po gr fi ne : Int) (dg : List UInt8) : Bool :=
  ra && (rb && (isPt mi && (isPt po && (isPt gr && (!(mi == 0) && (!(po == 0) && (decide (((ptsL dg).2 : Int) = (dg.length : Int)) && ((decide (¬ 0 < dg.length) || !(((ptsL dg).1.length : Int) != 10)) && (decide (fi ≤ 9) && decide (ne ≤ 9))))))))))

set_option maxHeartbeats 1000000 in
theorem known_any (c o : Value) (ra rb : Bool) (mi po gr fi ne : Int) (dg : ByteArray) (w : World) (hd : dg.size ≤ 1000000)
    (hc : RuledAt w c ra) (ho : RuledAt w o rb) :
    Calls Tryz.prog 14 #[locv c o mi po gr fi ne dg] w fun e w' => e = .returned (.bool (knownL ra rb mi po gr fi ne dg.data.toList)) ∧ Below w.heap.size w w' := by
  have hA := fun W' (h : Below w.heap.size w W') => hc W' h
  have HA := Lib.hid hA
  have HB := Lib.hid ho
  clear hA hc ho
  go_enter Tryz.func14, Tryz.ntmps14
  go_wp2_with fail
  have F : ∃ W, W = w.alloc (.cells #[c, o, .int .i32 mi, .int .i32 po, .int .i32 gr, .int .u8 fi, .int .u8 ne, .string dg] 25) ∧
      Below w.heap.size w W ∧ W.heap.size = w.heap.size + 1 ∧ LocAt W w.heap.size c o mi po gr fi ne dg :=
    ⟨_, rfl, (Below.refl _ _).alloc (Nat.le_refl _) _, by simp, ⟨by go_simp, by go_simp, by go_simp, by go_simp, by go_simp, by go_simp, by go_simp, by go_simp⟩⟩
  obtain ⟨W, hW, hb, hsz, hL⟩ := F
  rw [← hW]
  clear hW
  refine (HA.out _ hb).mono ?_
  rintro e w1 ⟨rfl, hb1⟩
  have hL1 := hL.below hb1 (by omega)
  have a0 := hL1.c0
  have a1 := hL1.c1
  go_wp2_with fail
  refine (HB.out _ (hb.trans (hb1.mono hb.size))).mono ?_
  rintro e w2 ⟨rfl, hb2⟩
  have hL2 := hL1.below hb2 (by have := hb1.size; omega)
  have b2 := hL2.c2
  have b3 := hL2.c3
  have b4 := hL2.c4
  have b5 := hL2.c5
  have b6 := hL2.c6
  have b7 := hL2.c7
  have hbw : Below w.heap.size w w2 := hb.trans ((hb1.mono hb.size).trans (hb2.mono (by have := hb.size; have := hb1.size; omega)))
  have hlt2 : w.heap.size < w2.heap.size := by have := hb2.size; have := hb1.size; omega
  clear hL1 a0 a1 hb2 hb1 hb
  go_wp2_with fail
  refine (point_any _ _).mono ?_
  rintro e w' ⟨rfl, rfl⟩
  go_wp2_with fail
  refine (point_any _ _).mono ?_
  rintro e w' ⟨rfl, rfl⟩
  go_wp2_with fail
  refine (point_any _ _).mono ?_
  rintro e w' ⟨rfl, rfl⟩
  go_wp2_with fail
  all_goals first | (go_ret; refine ⟨ret_val ?_, hbw⟩; simp [knownL, *]; done) | (go_ret; refine ⟨ret_val ?_, hbw⟩; have h2 : (mi == 0) = true ∨ (po == 0) = true := (by assumption); rcases h2 with h2 | h2 <;> simp [knownL, h2]; done) | skip
  refine (points_any _ _ (by omega)).mono ?_
  rintro e w3 ⟨v, rfl, hown, hb3⟩
  have hL3 := hL2.below hb3 hlt2
  have d5 := hL3.c5
  have d6 := hL3.c6
  have d7 := hL3.c7
  obtain ⟨a, cap, rfl⟩ := own_slice hown
  have hbw3 := hbw.trans (hb3.mono hbw.size)
  have e1 : dg.size = dg.data.toList.length := by simp
  have E1 := Lib.hid e1
  clear hL3 hL2 hL hown hb3 e1 b2 b3 b4 b5 b6 b7
  go_wp2_with fail
  all_goals
    go_ret
    refine ⟨ret_val ?_, hbw3⟩
    first | (simp [knownL, *]; done) | (simp [knownL, *]; intros; omega) | (simp [knownL]; intros; omega)
end Go.Proofs.YtpepgmccbkkaaaaGreatDoor
