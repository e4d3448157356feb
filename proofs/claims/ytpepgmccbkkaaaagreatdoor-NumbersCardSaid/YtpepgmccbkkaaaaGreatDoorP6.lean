/- decimal's Int and Frac: slices of the digits. -/
import Derived.Test.YtpepgmccbkkaaaaGreatDoorP3
namespace Go.Proofs.YtpepgmccbkkaaaaGreatDoor
open Go Go.RowKit
set_option maxRecDepth 10000

theorem addr_addo (g o j : Nat) : (⟨g, o, none⟩ : Addr).add j = ⟨g, o + j, none⟩ := by
  unfold Addr.add
  split
  · simp_all
  · simp

theorem BytesAt.take {w : World} {a : Option Addr} {l : List Int} (h : BytesAt w a l) (m : Nat) : BytesAt w a (l.take m) := fun j hj => by
  have hj2 : j < l.length := by simp at hj; omega
  obtain ⟨b, hb, hc⟩ := h j hj2
  exact ⟨b, hb, by simpa using hc⟩

theorem BytesAt.drop {w : World} {g : Nat} {l : List Int} (h : BytesAt w (some ⟨g, 0, none⟩) l) (k : Nat) : BytesAt w (some ⟨g, k, none⟩) (l.drop k) := fun j hj => by
  have hj2 : k + j < l.length := by simp at hj; omega
  obtain ⟨b, hb, hc⟩ := h (k + j) hj2
  cases hb
  refine ⟨_, rfl, ?_⟩
  rw [addr_addo]
  rw [addr_add0] at hc
  simpa using hc

set_option maxHeartbeats 1000000 in
theorem int_any (g : Nat) (n cap sc : Nat) (b : Bool) (l : List Int) (w : World) (hl : l.length = n) (hs : sc ≤ n) (hcap : n ≤ cap) (hn : n ≤ 1000000) (hB : BytesAt w (some ⟨g, 0, none⟩) l) :
    Calls Tryz.prog 43 #[.agg #[.bool b, .slice (some ⟨g, 0, none⟩) n cap, .int .i64 sc]] w fun e w' => (∃ ad' cap', e = .returned (.slice ad' (n - sc) cap') ∧ (∀ q, ad' = some q → q.block = g) ∧ BytesAt w' ad' (l.take (n - sc))) ∧ Below w.heap.size w w' := by
  obtain ⟨k, hk⟩ : ∃ k, n = k + sc := ⟨n - sc, by omega⟩
  subst hk
  rw [show k + sc - sc = k from by omega]
  have h0 : (0 : Int) ≤ ((k + sc : Nat) : Int) - (sc : Int) := by omega
  have h1 : ((k + sc : Nat) : Int) - (sc : Int) = (k : Int) := by omega
  have h2 : k ≤ cap := by omega
  go_enter Tryz.func43, Tryz.ntmps43
  go_wp2
  go_ret
  exact ⟨⟨_, _, rfl, (by intro q hq; cases hq; rfl), (hB.alloc _).take k⟩, (Below.refl _ _).alloc (Nat.le_refl _) _⟩

set_option maxHeartbeats 1000000 in
theorem frac_any (g : Nat) (n cap sc : Nat) (b : Bool) (l : List Int) (w : World) (hl : l.length = n) (hs : sc ≤ n) (hcap : n ≤ cap) (hn : n ≤ 1000000) (hB : BytesAt w (some ⟨g, 0, none⟩) l) :
    Calls Tryz.prog 45 #[.agg #[.bool b, .slice (some ⟨g, 0, none⟩) n cap, .int .i64 sc]] w fun e w' => (∃ ad' cap', e = .returned (.slice ad' sc cap') ∧ (∀ q, ad' = some q → q.block = g) ∧ BytesAt w' ad' (l.drop (n - sc))) ∧ Below w.heap.size w w' := by
  obtain ⟨k, hk⟩ : ∃ k, n = k + sc := ⟨n - sc, by omega⟩
  subst hk
  rw [show k + sc - sc = k from by omega]
  have h1 : ((k + sc : Nat) : Int) - (sc : Int) = (k : Int) := by omega
  have h2 : k ≤ cap := by omega
  go_enter Tryz.func45, Tryz.ntmps45
  by_cases hck : cap = k
  · have hz : l.drop k = [] := List.drop_of_length_le (by omega)
    have HZ := Lib.hid hz
    clear hz
    go_wp2
    go_ret
    refine ⟨⟨_, _, rfl, (by intro q hq; cases hq; rfl), ?_⟩, (Below.refl _ _).alloc (Nat.le_refl _) _⟩
    rw [HZ.out]
    intro j hj
    simp at hj
  · go_wp2
    go_ret
    exact ⟨⟨_, _, rfl, (by intro q hq; cases hq; rfl), (hB.alloc _).drop k⟩, (Below.refl _ _).alloc (Nat.le_refl _) _⟩
end Go.Proofs.YtpepgmccbkkaaaaGreatDoor
