/- Walks of phrasesref's small functions on texts. -/
import Derived.Test.YtpepgmccbkkaaaaGreatDoorBase
namespace Go.Proofs.YtpepgmccbkkaaaaGreatDoor
open Go Go.RowKit

def numeralsL (l : List UInt8) : Bool := l.all isDig && !l.isEmpty

set_option maxHeartbeats 400000 in
theorem numerals_any (s : ByteArray) (w : World) (hs : s.size ≤ 9223372036854775807) :
    Calls Tryz.prog 23 #[.string s] w fun e w' => e = .returned (.bool (numeralsL s.data.toList)) ∧ w = w' := by
  go_enter Tryz.func23, Tryz.ntmps23
  go_wp2
  go_loop [3] (fun i => ∃ k : Nat, k ≤ s.size ∧ i = .int .i64 k ∧ (s.data.toList.take k).all isDig = true) (fun i => s.size - (intOf i).toNat)
  case atStart => exact ⟨0, by omega, rfl, by simp⟩
  case round =>
    obtain ⟨k, hk, rfl, hH⟩ := hrel
    by_cases hlt : k < s.size
    · by_cases hd : isDig s[k] = true
      · have h2 := (isDig_iff _).1 hd
        have hts := all_snoc hH hd
        rw [← take_snoc s k hlt] at hts
        go_wp2
        go_round
        case rel => exact ⟨k + 1, by omega, by go_num, hts⟩
        case measure => simp [intOf]; omega
      · have hd' : isDig s[k] = false := by simpa using hd
        have h2 := (isDig_false _).1 hd'
        have hfin : numeralsL s.data.toList = false := by simp [numeralsL, all_false_of s k hlt hd']
        go_wp2
        all_goals (go_ret; exact ⟨rfl, rfl⟩)
    · have hk' : k = s.size := by omega
      subst hk'
      have hfin : numeralsL s.data.toList = decide (0 < s.size) := by
        rw [take_all] at hH
        rw [numeralsL, hH, isEmpty_toList, Bool.true_and]
        by_cases h0 : s.size = 0
        · simp [h0]
        · simp [h0]; omega
      go_wp2
      go_ret
      exact ⟨rfl, rfl⟩

set_option maxHeartbeats 400000 in
theorem nought_any (s : ByteArray) (w : World) (hs : s.size ≤ 9223372036854775807) :
    Calls Tryz.prog 24 #[.string s] w fun e w' => e = .returned (.bool (s.data.toList.all (· == 48))) ∧ w = w' := by
  go_enter Tryz.func24, Tryz.ntmps24
  go_wp2
  go_loop [3] (fun i => ∃ k : Nat, k ≤ s.size ∧ i = .int .i64 k ∧ (s.data.toList.take k).all (· == 48) = true) (fun i => s.size - (intOf i).toNat)
  case atStart => exact ⟨0, by omega, rfl, by simp⟩
  case round =>
    obtain ⟨k, hk, rfl, hH⟩ := hrel
    by_cases hlt : k < s.size
    · by_cases hd : s[k] = 48
      · have h2 : ((s[k].toNat : Int) != 48) = false := by simp [hd]
        have hts := all_snoc (c := s[k]) hH (by simp [hd])
        rw [← take_snoc s k hlt] at hts
        go_wp2
        go_round
        case rel => exact ⟨k + 1, by omega, by go_num, hts⟩
        case measure => simp [intOf]; omega
      · have hfin : s.data.toList.all (· == 48) = false := all_false_of s k hlt (by simpa using hd)
        have h2 : ((s[k].toNat : Int) != 48) = true := by
          rw [bne_iff_ne]; intro h; exact hd (UInt8.toNat_inj.1 (by show s[k].toNat = 48; omega))
        go_wp2
        all_goals (go_ret; exact ⟨rfl, rfl⟩)
    · have hk' : k = s.size := by omega
      subst hk'
      rw [take_all] at hH
      go_wp2
      go_ret
      exact ⟨rfl, rfl⟩

theorem idxOf_hit (s : ByteArray) (c : UInt8) (k : Nat) (hk : k < s.size) (hd : s[k] = c) (h : k ≤ s.data.toList.idxOf c) : s.data.toList.idxOf c = k := by
  refine Nat.le_antisymm (Nat.le_of_not_lt fun hlt => ?_) h
  have := List.not_of_lt_findIdx (p := (· == c)) (xs := s.data.toList) (i := k) hlt
  rw [getElem_toList s k hk, hd] at this
  simp at this
theorem idxOf_miss (s : ByteArray) (c : UInt8) (k : Nat) (hk : k < s.size) (hd : s[k] ≠ c) (h : k ≤ s.data.toList.idxOf c) : k + 1 ≤ s.data.toList.idxOf c := by
  refine Nat.succ_le_of_lt (Nat.lt_of_le_of_ne h fun he => ?_)
  have hl : s.data.toList.findIdx (· == c) < s.data.toList.length := by rw [size_toList]; show s.data.toList.idxOf c < s.size; omega
  have := List.findIdx_getElem (xs := s.data.toList) (p := (· == c)) (w := hl)
  apply hd
  have e2 : s.data.toList[s.data.toList.findIdx (· == c)]'hl = s[k] := by
    rw [← getElem_toList s k hk]; congr 1; exact he.symm
  rw [e2] at this
  simpa using this

set_option maxHeartbeats 400000 in
theorem cut_any (s : ByteArray) (c : UInt8) (w : World) (hs : s.size ≤ 2000000000) :
    Calls Tryz.prog 22 #[.string s, .int .u8 c.toNat] w fun e w' =>
      e = .returned (.tuple #[.string ⟨(s.data.toList.take (s.data.toList.idxOf c)).toArray⟩, .string ⟨(s.data.toList.drop (s.data.toList.idxOf c + 1)).toArray⟩, .bool (decide (s.data.toList.idxOf c < s.size))]) ∧ ∃ n, w' = w.drewN n := by
  go_enter Tryz.func22, Tryz.ntmps22
  go_wp2
  go_loop [7] (fun i => ∃ k : Nat, k ≤ s.size ∧ i = .int .i64 k ∧ k ≤ s.data.toList.idxOf c) (fun i => s.size - (intOf i).toNat)
  case atStart => exact ⟨0, by omega, rfl, by omega⟩
  case round =>
    obtain ⟨k, hk, rfl, hH⟩ := hrel
    by_cases hlt : k < s.size
    · by_cases hd : s[k] = c
      · have h2 : ((s[k].toNat : Int) == (c.toNat : Int)) = true := by rw [toNat_beq, hd]; simp
        have hi : s.data.toList.idxOf c = k := idxOf_hit s c k hlt hd hH
        have hr : (k + 1 : Nat) ≤ s.size := hlt
        have Hi := Lib.hid hi
        clear hi
        go_wp2_with fail
        go_quiet (fail)
        go_wp2
        go_ret3
        rw [Hi.out, extract_take, extract_drop]
        exact ⟨by simp [hlt], nq, rfl⟩
      · have h2 : ((s[k].toNat : Int) == (c.toNat : Int)) = false := by rw [toNat_beq]; simp [hd]
        have hi : k + 1 ≤ s.data.toList.idxOf c := idxOf_miss s c k hlt hd hH
        go_wp2
        go_round
        case rel => exact ⟨k + 1, by omega, by go_num, hi⟩
        case measure => simp [intOf]; omega
    · have hk' : k = s.size := by omega
      subst hk'
      have hi : s.data.toList.idxOf c = s.size := by have := List.idxOf_le_length (a := c) (l := s.data.toList); simp only [size_toList] at this; omega
      have Hi := Lib.hid hi
      clear hi
      go_wp2
      go_ret3
      rw [Hi.out, take_all, mk_toList, List.drop_of_length_le (by simp)]
      exact ⟨by simp, 0, rfl⟩

set_option maxHeartbeats 400000 in
theorem decimal_any (n : Nat) : ∀ (w : World), n ≤ 9223372036854775807 →
    Calls Tryz.prog 84 #[.int .i64 n] w fun e w' => e = .returned (.string ⟨(decL n).toArray⟩) ∧ w = w' := by
  induction n using Nat.strongRecOn with
  | _ n ih =>
    intro w hn
    by_cases hlt : n < 10
    · have hd := digits_extract (n % 10) (by omega)
      have hx : decL n = [dchar (n % 10)] := by rw [decL_small hlt, Nat.mod_eq_of_lt hlt]
      have Hx := Lib.hid hx
      clear hx ih
      go_enter Tryz.func84, Tryz.ntmps84
      go_wp2
      go_ret
      rw [Hx.out]
      exact ⟨ret_val (congrArg Value.string hd), rfl⟩
    · have hd := digits_extract (n % 10) (by omega)
      have hx := decL_big hlt
      have Hx := Lib.hid hx
      have hl := decL_length (n / 10)
      have IH := Lib.hid (ih (n / 10) (by omega) w (by omega))
      clear hx ih
      go_enter Tryz.func84, Tryz.ntmps84
      go_wp2_with fail
      rw [show ((n : Int) / 10) = ((n / 10 : Nat) : Int) from by omega]
      refine IH.out.mono ?_
      rintro e w' ⟨rfl, rfl⟩
      go_wp2
      go_ret
      rw [Hx.out]
      exact ⟨ret_val (congrArg Value.string (append_mk _ _)), rfl⟩
end Go.Proofs.YtpepgmccbkkaaaaGreatDoor
