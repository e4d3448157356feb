import Derived.Test.YtpepgmccbkkaaaaGreatDoorJ3
import Derived.Test.YtpepgmccbkkaaaaGreatDoorShelf

/- strings.Cut at one byte. -/
namespace Go.Proofs.YtpepgmccbkkaaaaGreatDoor
open Go Go.RowKit
set_option maxRecDepth 10000

theorem indexByte_eq (c : UInt8) : ∀ l : List UInt8, Lib.indexByte l c = if l.idxOf c < l.length then ((l.idxOf c : Nat) : Int) else -1
  | [] => rfl
  | b :: l => by
    have ih := indexByte_eq c l
    rw [Lib.indexByte, ih, List.idxOf_cons]
    by_cases h : b == c
    · simp [h]
    · simp only [h, cond_false, List.length_cons]
      by_cases h2 : l.idxOf c < l.length
      · rw [if_pos h2, if_pos (show l.idxOf c + 1 < l.length + 1 by omega)]
        have h3 : (((l.idxOf c : Nat) : Int) == -1) = false := by rw [beq_eq_false_iff_ne]; omega
        rw [h3]
        simp
      · rw [if_neg h2, if_neg (show ¬ (l.idxOf c + 1 < l.length + 1) by omega)]
        simp

set_option maxHeartbeats 800000 in
theorem liteCut_any (s : ByteArray) (c : UInt8) (w : World) (hs : s.size ≤ 1000000) :
    Calls Tryz.prog 56 #[.string s, .string ⟨#[c]⟩] w fun e w' =>
      e = .returned (.tuple #[.string ⟨(s.data.toList.take (s.data.toList.idxOf c)).toArray⟩, .string ⟨(s.data.toList.drop (s.data.toList.idxOf c + 1)).toArray⟩, .bool (decide (s.data.toList.idxOf c < s.size))]) ∧ ∃ n, w' = w.drewN n := by
  have hx := indexByte_eq c s.data.toList
  rw [size_toList] at hx
  have HX := Lib.hid hx
  clear hx
  go_enter Tryz.func56, Tryz.ntmps56
  go_wp2_with fail
  refine (Tryz.stringslite_Index_one s c _).mono ?_
  rw [HX.out]
  rintro e w' ⟨rfl, rfl⟩
  by_cases hlt : s.data.toList.idxOf c < s.size
  · rw [if_pos hlt]
    generalize hk : s.data.toList.idxOf c = k at hlt
    have HK := Lib.hid hk
    clear hk
    have hr : (k + 1 : Nat) ≤ s.size := hlt
    go_wp2_with fail
    go_quiet (fail)
    go_wp2
    go_ret3
    rw [extract_take, extract_drop, HK.out]
    exact ⟨by simp [hlt], nq, rfl⟩
  · rw [if_neg hlt]
    have hi : s.data.toList.idxOf c = s.size := by have := List.idxOf_le_length (a := c) (l := s.data.toList); simp only [size_toList] at this; omega
    have Hi := Lib.hid hi
    clear hi hlt
    go_wp2
    go_ret3
    rw [Hi.out, take_all, mk_toList, List.drop_of_length_le (by simp)]
    exact ⟨by simp, 0, rfl⟩
end Go.Proofs.YtpepgmccbkkaaaaGreatDoor
