import Derived.Test.YtpepgmccbkkaaaaGreatDoorJ15
import Derived.Laws.Externs
import Derived.Lib.BytesEntry
import Derived.Lib.BufferMore

/- Walks of package bytes and slices at digits: TrimLeft of noughts, Clone, Compare. -/
namespace Go.Proofs.YtpepgmccbkkaaaaGreatDoor
open Go Go.RowKit
set_option maxRecDepth 10000

theorem bytes_head {w : World} {b : Addr} {x : Int} {l : List Int} (h : BytesAt w (some b) (x :: l)) : w.cell? b = some (.int .u8 x) := by
  obtain ⟨c, hc, hx⟩ := h 0 (by simp)
  cases hc
  simpa [Addr.add] using hx

theorem bytes_tail {w : World} {b : Addr} {x : Int} {l : List Int} (h : BytesAt w (some b) (x :: l)) : BytesAt w (some (b.add 1)) l := fun j hj => by
  obtain ⟨c, hc, hx⟩ := h (j + 1) (by simp; omega)
  cases hc
  refine ⟨_, rfl, ?_⟩
  rw [add_add, Nat.add_comm 1 j]
  simpa using hx

theorem BytesAt.below {w w' : World} {a : Option Addr} {l : List Int} (h : BytesAt w a l) (hb : Below w.heap.size w w') : BytesAt w' a l := fun j hj => by
  obtain ⟨b, h1, h2⟩ := h j hj
  refine ⟨b, h1, ?_⟩
  rw [hb.cell (World.block_lt_of_cell? w _ h2)]
  exact h2

theorem bytesAt_nil (w : World) (a : Option Addr) : BytesAt w a [] := fun j hj => absurd hj (Nat.not_lt_zero j)

/-- what TrimLeft leaves -/
def TrimPost (a : Option Addr) (l : List Int) (w : World) (e : Ending) (w' : World) : Prop :=
  (∃ a' cap', e = .returned (.slice a' (l.dropWhile (· == 0)).length cap') ∧ BytesAt w a' (l.dropWhile (· == 0)) ∧ (l.dropWhile (· == 0)).length ≤ cap' ∧ (∀ q, a' = some q → ∃ p, a = some p ∧ q.block = p.block)) ∧ w' = w

set_option maxHeartbeats 1000000 in
theorem trimLeftByte_any (l : List Int) (a : Option Addr) (cap : Nat) (w : World) (hl : l.length ≤ 1000000) (hcap : l.length ≤ cap) (hc2 : cap ≤ 9223372036854775807) (hB : BytesAt w a l) :
    Calls Tryz.prog 128 #[.slice a l.length cap, .int .u8 0] w (TrimPost a l w) := by
  go_enter Tryz.func128, Tryz.ntmps128
  go_wp2
  go_loop [0] (fun v => ∃ (a' : Option Addr) (cap' : Nat) (r : List Int), v = .slice a' r.length cap' ∧ r.length ≤ cap' ∧ cap' ≤ 9223372036854775807 ∧ r.length ≤ 1000000 ∧ BytesAt w a' r ∧ r.dropWhile (· == 0) = l.dropWhile (· == 0) ∧ (∀ q, a' = some q → ∃ p, a = some p ∧ q.block = p.block)) (fun v => match v with | .slice _ n _ => n | _ => 0)
  case atStart => exact ⟨a, cap, l, rfl, hcap, hc2, hl, hB, rfl, fun q h => ⟨q, h, rfl⟩⟩
  case round =>
    obtain ⟨a', cap', r, rfl, h1, h2, h3, hB', hd, hq⟩ := hrel
    have HD := Lib.hid hd
    have HB := Lib.hid hB'
    have HQ := Lib.hid hq
    clear hd hB' hq
    cases r with
    | nil =>
      go_wp2
      go_ret
      refine ⟨⟨none, 0, ?_, ?_, ?_, fun q h => by cases h⟩, rfl⟩
      · rw [← HD.out]; rfl
      · rw [← HD.out]; exact bytesAt_nil _ _
      · rw [← HD.out]; exact Nat.le_refl _
    | cons x t =>
      have hx := HB.out 0 (by simp)
      obtain ⟨b, rfl, hx0⟩ := hx
      have hx1 := bytes_head HB.out
      have hlen : (x :: t).length = t.length + 1 := rfl
      clear hx0
      by_cases h0 : x = 0
      · subst h0
        by_cases hc1 : cap' = 1
        · have ht : t = [] := by
            apply List.eq_nil_of_length_eq_zero
            rw [hlen] at h1; omega
          subst ht
          subst hc1
          go_wp2
          refine ⟨⟨some b, 0, [], rfl, Nat.le_refl _, by decide, by decide, bytesAt_nil _ _, ?_, HQ.out⟩, ?_⟩
          · rw [← HD.out]; rfl
          · show 0 < [0].length
            simp
        · have e1 : ((0 : Int) ≤ (t.length + 1 : Nat) - 1) := by omega
          have hne : ¬ (cap' : Int) = 1 := by omega
          rw [hlen] at h1 h3 ⊢
          go_wp2
          refine ⟨⟨some (b.add 1), cap' - 1, t, rfl, by omega, by omega, by omega, bytes_tail HB.out, ?_, fun q h => ?_⟩, ?_⟩
          · rw [← HD.out]; rfl
          · cases h
            exact HQ.out b rfl
          · show t.length < t.length + 1
            omega
      · have hx0 : (x == 0) = false := by simpa using h0
        rw [hlen] at h1 h3 ⊢
        have hd1 : l.dropWhile (· == 0) = x :: t := by rw [← HD.out, List.dropWhile_cons_of_neg (by simpa using h0)]
        have HD1 := Lib.hid hd1
        clear hd1 h0
        go_wp2
        go_ret
        refine ⟨⟨some b, cap', ?_, ?_, ?_, HQ.out⟩, rfl⟩
        · rw [HD1.out]; rfl
        · rw [HD1.out]; exact HB.out
        · rw [HD1.out]; simpa using h1

set_option maxHeartbeats 1000000 in
theorem trimLeft_any (l : List Int) (a : Option Addr) (cap : Nat) (w : World) (hl : l.length ≤ 1000000) (hcap : l.length ≤ cap) (hc2 : cap ≤ 9223372036854775807) (hB : BytesAt w a l) :
    Calls Tryz.prog 120 #[.slice a l.length cap, .string ⟨#[0]⟩] w (TrimPost a l w) := by
  have HB := Lib.hid hB
  clear hB
  by_cases h0 : l = []
  · subst h0
    go_enter Tryz.func120, Tryz.ntmps120
    go_wp2
    go_ret
    exact ⟨⟨none, 0, rfl, bytesAt_nil _ _, Nat.le_refl _, fun q h => by cases h⟩, rfl⟩
  · obtain ⟨n, hn⟩ : ∃ n, l.length = n + 1 := ⟨l.length - 1, by have := List.length_pos_iff.2 h0; omega⟩
    have h1 : ((l.length : Int) == 0) = false := by simp; omega
    have hT := trimLeftByte_any l a cap w hl hcap hc2 HB.out
    have HT := Lib.hid hT
    clear hT h0 hn
    go_enter Tryz.func120, Tryz.ntmps120
    go_wp2_with fail
    refine HT.out.mono ?_
    rintro e w1 ⟨⟨a', cap', rfl, h2, h3, h4⟩, rfl⟩
    have H2 := Lib.hid h2
    have H4 := Lib.hid h4
    clear h2 h4
    go_wp2
    go_ret
    exact ⟨⟨_, _, rfl, H2.out, h3, H4.out⟩, rfl⟩

theorem digs_vals0 (l : List UInt8) : digs l = (vals l).map (Value.int .u8) := by simp [digs, vals]

set_option maxHeartbeats 1000000 in
/-- a copy of digits, a row of the call's own -/
theorem clone_any (l : List UInt8) (a : Addr) (cap : Nat) (w : World) (hl : l.length ≤ 1000000) (hB : BytesAt w (some a) (vals l)) :
    Calls Tryz.prog 121 #[.slice (some a) l.length cap] w fun e w' => (∃ v, e = .returned v ∧ w'.ownsRow w.heap.size 5 1 v l.length (digs l)) ∧ Below w.heap.size w w' := by
  have HB := Lib.hid hB
  clear hB
  have hnil : ∀ W, (binOp .eql 63 (.slice (some a) l.length cap) (.slice none 0 0)).run Tryz.prog W = .ok (.bool false) W := fun W => Lib.run_eql_slice_some_nil W _ _ _ Tryz.underlying63
  go_enter Tryz.func121, Tryz.ntmps121
  go_wp2_with (at_builtin; refine app_own elem_bytes rfl _ _ rfl w.heap.size _ 0 [] rfl ?c0 a l.length cap (digs l) rfl ?c1 ?c2 ?c3 ?c4 ?c5 ?_)
  case c0 => exact World.ownsRow_lit w _ 0 (Nat.le_refl _) (by decide) rfl
  case c1 => simp [digs]
  case c2 =>
    intro j u hu
    have hj : j < (vals l).length := by
      have := (List.getElem?_eq_some_iff.1 hu).1
      simpa [digs, vals] using this
    obtain ⟨b, hb, hc⟩ := HB.out j hj
    cases hb
    rw [World.cell?_alloc_some _ _ _ (by rw [hc]; rfl), hc]
    rw [digs_vals0, List.getElem?_map, List.getElem?_eq_getElem hj] at hu
    simpa using hu
  case c3 =>
    intro u hu
    simp only [digs, List.mem_map] at hu
    obtain ⟨c, _, rfl⟩ := hu
    rfl
  case c4 => omega
  case c5 => simp
  intro v' w1 hown hgrow
  have hb : Below w.heap.size w w1 := ((Below.refl _ _).alloc (Nat.le_refl _) _).grown hgrow (by simp) (fun q hq => by cases hq; exact Nat.le_refl _)
  clear hgrow
  go_wp2
  go_ret
  exact ⟨⟨_, rfl, by simpa using hown⟩, hb⟩
end Go.Proofs.YtpepgmccbkkaaaaGreatDoor
