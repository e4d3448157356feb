/- The walk of phrasesref.size. -/
import Derived.Test.YtpepgmccbkkaaaaGreatDoorR2
namespace Go.Proofs.YtpepgmccbkkaaaaGreatDoor
open Go Go.RowKit
set_option maxRecDepth 10000

set_option maxRecDepth 100000 in
set_option maxHeartbeats 1000000 in
theorem size_any (s : ByteArray) (w : World) (h0 : 0 < s.size) (hs : s.size ≤ 2000000000) :
    Calls Tryz.prog 33 #[.string s] w fun e w' => e = .returned (.int .i64 (sizeL s.data.toList)) ∧ w = w' := by
  have hh := headD_eq s h0
  have hb : s[0].toNat < 256 := UInt8.toNat_lt _
  by_cases hbad : 128 ≤ s[0].toNat ∧ (s[0].toNat < 192 ∨ 248 ≤ s[0].toNat)
  · have hz : sizeL s.data.toList = 0 := by
      unfold sizeL; rw [hh, if_neg (by omega), if_neg (by omega), if_neg (by omega), if_pos (by omega)]
    have Hz := Lib.hid hz
    have Hh := Lib.hid hh
    clear hz hh
    obtain ⟨hb1, hb2⟩ := hbad
    rcases hb2 with hb2 | hb2
    all_goals
      go_enter Tryz.func33, Tryz.ntmps33
      go_wp2
      go_ret
      rw [Hz.out]
      exact ⟨rfl, rfl⟩
  · obtain ⟨n, v, H⟩ : ∃ n v, (240 ≤ s[0].toNat ∧ s[0].toNat < 248 ∧ n = 4 ∧ v = s[0].toNat - 240) ∨
      (224 ≤ s[0].toNat ∧ s[0].toNat < 240 ∧ n = 3 ∧ v = s[0].toNat - 224) ∨
      (192 ≤ s[0].toNat ∧ s[0].toNat < 224 ∧ n = 2 ∧ v = s[0].toNat - 192) ∨
      (s[0].toNat < 128 ∧ n = 1 ∧ v = s[0].toNat) := by
      by_cases c1 : 240 ≤ s[0].toNat
      · exact ⟨_, _, .inl ⟨by omega, by omega, rfl, rfl⟩⟩
      by_cases c2 : 224 ≤ s[0].toNat
      · exact ⟨_, _, .inr (.inl ⟨by omega, by omega, rfl, rfl⟩)⟩
      by_cases c3 : 192 ≤ s[0].toNat
      · exact ⟨_, _, .inr (.inr (.inl ⟨by omega, by omega, rfl, rfl⟩))⟩
      · exact ⟨_, _, .inr (.inr (.inr ⟨by omega, rfl, rfl⟩))⟩
    have hz : sizeL s.data.toList = sizeBy s.data.toList n v := sizeL_of (by rw [hh]; exact H)
    have Hz := Lib.hid hz
    have Hh := Lib.hid hh
    clear hz hh hbad
    have hn : 1 ≤ n ∧ n ≤ 4 ∧ v ≤ 127 := by omega
    rcases H with ⟨h1, h2, rfl, hv⟩ | ⟨h1, h2, rfl, hv⟩ | ⟨h1, h2, rfl, hv⟩ | ⟨h1, rfl, hv⟩
    · have hv' : (v : Int) = (s[0].toNat : Int) - 240 := by omega
      have hvlt : v ≤ 127 := hn.2.2
      have i1 : (240 : Int) ≤ (s[0].toNat : Int) := by omega
      have i2 : (s[0].toNat : Int) < 248 := by omega
      have Hv := Lib.hid hv'
      clear hv hv' hn
      by_cases hsh : s.size < 4
      · have hz2 := Lib.hid (sizeBy_short (l := s.data.toList) (n := 4) (v := v) (by simpa using hsh))
        go_enter Tryz.func33, Tryz.ntmps33
        go_wp2
        go_ret
        rw [Hz.out, hz2.out]
        exact ⟨rfl, rfl⟩
      · have i3 : (4 : Int) ≤ (s.size : Int) := by omega
        go_enter Tryz.func33, Tryz.ntmps33
        go_wp2
        go_loop [5, 7] (fun x i => ∃ k : Nat, 1 ≤ k ∧ k ≤ 4 ∧ i = .int .i64 k ∧ x = .int .i64 (ptVal (s.data.toList.tail.take (k - 1)) v) ∧ (s.data.toList.tail.take (k - 1)).all isCont = true) (fun _ i => 4 - (intOf i).toNat)
        case atStart => exact ⟨1, by omega, by omega, rfl, by rw [← Hv.out]; rfl, by simp⟩
        case round =>
          obtain ⟨k, hk1, hk2, rfl, rfl, hall⟩ := hrel
          have hbd := ptVal_lt _ v hall
          have hlen : (s.data.toList.tail.take (k - 1)).length ≤ 3 := by simp; omega
          have hbd2 : ptVal (s.data.toList.tail.take (k - 1)) v ≤ 64 ^ 3 * 128 := Nat.le_of_lt (Nat.lt_of_lt_of_le hbd (Nat.mul_le_mul (Nat.pow_le_pow_right (by omega) hlen) (by omega)))
          clear hbd hlen
          by_cases hlt : k < 4
          · by_cases hc : isCont s[k] = true
            · have hc' := (isCont_iff _).1 hc
              have hs1 := tail_snoc s k hk1 (by omega)
              have hall' := all_snoc hall hc
              have hpv := ptVal_snoc (s.data.toList.tail.take (k - 1)) s[k] v
              rw [← hs1] at hall' hpv
              have Hall' := Lib.hid hall'
              have Hpv := Lib.hid hpv
              clear hall' hpv hs1 hall hc
              go_wp2
              go_round
              case rel => exact ⟨k + 1, by omega, by omega, by go_num, by rw [show k + 1 - 1 = k from rfl, Hpv.out]; go_num, Hall'.out⟩
              case measure => simp [intOf]; omega
            · have hc' : isCont s[k] = false := by simpa using hc
              have hz2 := Lib.hid (sizeBy_cont (v := v) (cont_false_of s k 4 hk1 hlt (by omega) hc'))
              have hc2 : (s[k].toNat : Int) < 128 ∨ (191 : Int) < s[k].toNat := by
                have := isCont_iff s[k]; rw [hc'] at this; simp at this; omega
              clear hc hc' hall
              rcases hc2 with hc2 | hc2
              all_goals
                go_wp2
                go_ret
                rw [Hz.out, hz2.out]
                exact ⟨rfl, rfl⟩
          · obtain rfl : k = 4 := by omega
            have hz2 := Lib.hid (sizeBy_end (n := 4) (v := v) (by simp; omega) hall)
            have hle : least 4 = least 4 := rfl
            generalize ptVal (s.data.toList.tail.take (4 - 1)) v = q at *
            have hq : (q : Int) ≤ 33554432 := by omega
            clear hbd2 hall hle
            go_wp2_with fail
            refine (point_any _ _).mono ?_
            rintro e w' ⟨rfl, rfl⟩
            by_cases hle : (q : Int) < 65536
            · have hz3 : (if (q : Int) < least 4 ∨ isPt q = false then 0 else 4) = 0 := if_pos (.inl hle)
              have Hz3 := Lib.hid hz3
              clear hz3
              go_wp2
              go_ret
              rw [Hz.out, hz2.out, Hz3.out]
              exact ⟨rfl, rfl⟩
            · have hleb : decide ((q : Int) < 65536) = false := by simpa using hle
              have Hle := Lib.hid hle
              clear hle
              by_cases hp : isPt q = true
              · have hz3 : (if (q : Int) < least 4 ∨ isPt q = false then 0 else 4) = 4 := if_neg (by rw [hp]; intro h; rcases h with h | h; exact Hle.out h; cases h)
                have Hz3 := Lib.hid hz3
                clear hz3
                go_wp2
                go_ret
                rw [Hz.out, hz2.out, Hz3.out]
                exact ⟨rfl, rfl⟩
              · have hp' : isPt q = false := by simpa using hp
                have hz3 : (if (q : Int) < least 4 ∨ isPt q = false then 0 else 4) = 0 := if_pos (.inr hp')
                have Hz3 := Lib.hid hz3
                clear hz3 hp
                go_wp2
                go_ret
                rw [Hz.out, hz2.out, Hz3.out]
                exact ⟨rfl, rfl⟩
    · have hv' : (v : Int) = (s[0].toNat : Int) - 224 := by omega
      have hvlt : v ≤ 127 := hn.2.2
      have i1 : (224 : Int) ≤ (s[0].toNat : Int) := by omega
      have i2 : (s[0].toNat : Int) < 240 := by omega
      have Hv := Lib.hid hv'
      clear hv hv' hn
      by_cases hsh : s.size < 3
      · have hz2 := Lib.hid (sizeBy_short (l := s.data.toList) (n := 3) (v := v) (by simpa using hsh))
        go_enter Tryz.func33, Tryz.ntmps33
        go_wp2
        go_ret
        rw [Hz.out, hz2.out]
        exact ⟨rfl, rfl⟩
      · have i3 : (3 : Int) ≤ (s.size : Int) := by omega
        go_enter Tryz.func33, Tryz.ntmps33
        go_wp2
        go_loop [5, 7] (fun x i => ∃ k : Nat, 1 ≤ k ∧ k ≤ 3 ∧ i = .int .i64 k ∧ x = .int .i64 (ptVal (s.data.toList.tail.take (k - 1)) v) ∧ (s.data.toList.tail.take (k - 1)).all isCont = true) (fun _ i => 3 - (intOf i).toNat)
        case atStart => exact ⟨1, by omega, by omega, rfl, by rw [← Hv.out]; rfl, by simp⟩
        case round =>
          obtain ⟨k, hk1, hk2, rfl, rfl, hall⟩ := hrel
          have hbd := ptVal_lt _ v hall
          have hlen : (s.data.toList.tail.take (k - 1)).length ≤ 3 := by simp; omega
          have hbd2 : ptVal (s.data.toList.tail.take (k - 1)) v ≤ 64 ^ 3 * 128 := Nat.le_of_lt (Nat.lt_of_lt_of_le hbd (Nat.mul_le_mul (Nat.pow_le_pow_right (by omega) hlen) (by omega)))
          clear hbd hlen
          by_cases hlt : k < 3
          · by_cases hc : isCont s[k] = true
            · have hc' := (isCont_iff _).1 hc
              have hs1 := tail_snoc s k hk1 (by omega)
              have hall' := all_snoc hall hc
              have hpv := ptVal_snoc (s.data.toList.tail.take (k - 1)) s[k] v
              rw [← hs1] at hall' hpv
              have Hall' := Lib.hid hall'
              have Hpv := Lib.hid hpv
              clear hall' hpv hs1 hall hc
              go_wp2
              go_round
              case rel => exact ⟨k + 1, by omega, by omega, by go_num, by rw [show k + 1 - 1 = k from rfl, Hpv.out]; go_num, Hall'.out⟩
              case measure => simp [intOf]; omega
            · have hc' : isCont s[k] = false := by simpa using hc
              have hz2 := Lib.hid (sizeBy_cont (v := v) (cont_false_of s k 3 hk1 hlt (by omega) hc'))
              have hc2 : (s[k].toNat : Int) < 128 ∨ (191 : Int) < s[k].toNat := by
                have := isCont_iff s[k]; rw [hc'] at this; simp at this; omega
              clear hc hc' hall
              rcases hc2 with hc2 | hc2
              all_goals
                go_wp2
                go_ret
                rw [Hz.out, hz2.out]
                exact ⟨rfl, rfl⟩
          · obtain rfl : k = 3 := by omega
            have hz2 := Lib.hid (sizeBy_end (n := 3) (v := v) (by simp; omega) hall)
            have hle : least 3 = least 3 := rfl
            generalize ptVal (s.data.toList.tail.take (3 - 1)) v = q at *
            have hq : (q : Int) ≤ 33554432 := by omega
            clear hbd2 hall hle
            go_wp2_with fail
            refine (point_any _ _).mono ?_
            rintro e w' ⟨rfl, rfl⟩
            by_cases hle : (q : Int) < 2048
            · have hz3 : (if (q : Int) < least 3 ∨ isPt q = false then 0 else 3) = 0 := if_pos (.inl hle)
              have Hz3 := Lib.hid hz3
              clear hz3
              go_wp2
              go_ret
              rw [Hz.out, hz2.out, Hz3.out]
              exact ⟨rfl, rfl⟩
            · have hleb : decide ((q : Int) < 2048) = false := by simpa using hle
              have Hle := Lib.hid hle
              clear hle
              by_cases hp : isPt q = true
              · have hz3 : (if (q : Int) < least 3 ∨ isPt q = false then 0 else 3) = 3 := if_neg (by rw [hp]; intro h; rcases h with h | h; exact Hle.out h; cases h)
                have Hz3 := Lib.hid hz3
                clear hz3
                go_wp2
                go_ret
                rw [Hz.out, hz2.out, Hz3.out]
                exact ⟨rfl, rfl⟩
              · have hp' : isPt q = false := by simpa using hp
                have hz3 : (if (q : Int) < least 3 ∨ isPt q = false then 0 else 3) = 0 := if_pos (.inr hp')
                have Hz3 := Lib.hid hz3
                clear hz3 hp
                go_wp2
                go_ret
                rw [Hz.out, hz2.out, Hz3.out]
                exact ⟨rfl, rfl⟩
    · have hv' : (v : Int) = (s[0].toNat : Int) - 192 := by omega
      have hvlt : v ≤ 127 := hn.2.2
      have i1 : (192 : Int) ≤ (s[0].toNat : Int) := by omega
      have i2 : (s[0].toNat : Int) < 224 := by omega
      have Hv := Lib.hid hv'
      clear hv hv' hn
      by_cases hsh : s.size < 2
      · have hz2 := Lib.hid (sizeBy_short (l := s.data.toList) (n := 2) (v := v) (by simpa using hsh))
        go_enter Tryz.func33, Tryz.ntmps33
        go_wp2
        go_ret
        rw [Hz.out, hz2.out]
        exact ⟨rfl, rfl⟩
      · have i3 : (2 : Int) ≤ (s.size : Int) := by omega
        go_enter Tryz.func33, Tryz.ntmps33
        go_wp2
        go_loop [5, 7] (fun x i => ∃ k : Nat, 1 ≤ k ∧ k ≤ 2 ∧ i = .int .i64 k ∧ x = .int .i64 (ptVal (s.data.toList.tail.take (k - 1)) v) ∧ (s.data.toList.tail.take (k - 1)).all isCont = true) (fun _ i => 2 - (intOf i).toNat)
        case atStart => exact ⟨1, by omega, by omega, rfl, by rw [← Hv.out]; rfl, by simp⟩
        case round =>
          obtain ⟨k, hk1, hk2, rfl, rfl, hall⟩ := hrel
          have hbd := ptVal_lt _ v hall
          have hlen : (s.data.toList.tail.take (k - 1)).length ≤ 3 := by simp; omega
          have hbd2 : ptVal (s.data.toList.tail.take (k - 1)) v ≤ 64 ^ 3 * 128 := Nat.le_of_lt (Nat.lt_of_lt_of_le hbd (Nat.mul_le_mul (Nat.pow_le_pow_right (by omega) hlen) (by omega)))
          clear hbd hlen
          by_cases hlt : k < 2
          · by_cases hc : isCont s[k] = true
            · have hc' := (isCont_iff _).1 hc
              have hs1 := tail_snoc s k hk1 (by omega)
              have hall' := all_snoc hall hc
              have hpv := ptVal_snoc (s.data.toList.tail.take (k - 1)) s[k] v
              rw [← hs1] at hall' hpv
              have Hall' := Lib.hid hall'
              have Hpv := Lib.hid hpv
              clear hall' hpv hs1 hall hc
              go_wp2
              go_round
              case rel => exact ⟨k + 1, by omega, by omega, by go_num, by rw [show k + 1 - 1 = k from rfl, Hpv.out]; go_num, Hall'.out⟩
              case measure => simp [intOf]; omega
            · have hc' : isCont s[k] = false := by simpa using hc
              have hz2 := Lib.hid (sizeBy_cont (v := v) (cont_false_of s k 2 hk1 hlt (by omega) hc'))
              have hc2 : (s[k].toNat : Int) < 128 ∨ (191 : Int) < s[k].toNat := by
                have := isCont_iff s[k]; rw [hc'] at this; simp at this; omega
              clear hc hc' hall
              rcases hc2 with hc2 | hc2
              all_goals
                go_wp2
                go_ret
                rw [Hz.out, hz2.out]
                exact ⟨rfl, rfl⟩
          · obtain rfl : k = 2 := by omega
            have hz2 := Lib.hid (sizeBy_end (n := 2) (v := v) (by simp; omega) hall)
            have hle : least 2 = least 2 := rfl
            generalize ptVal (s.data.toList.tail.take (2 - 1)) v = q at *
            have hq : (q : Int) ≤ 33554432 := by omega
            clear hbd2 hall hle
            go_wp2_with fail
            refine (point_any _ _).mono ?_
            rintro e w' ⟨rfl, rfl⟩
            by_cases hle : (q : Int) < 128
            · have hz3 : (if (q : Int) < least 2 ∨ isPt q = false then 0 else 2) = 0 := if_pos (.inl hle)
              have Hz3 := Lib.hid hz3
              clear hz3
              go_wp2
              go_ret
              rw [Hz.out, hz2.out, Hz3.out]
              exact ⟨rfl, rfl⟩
            · have hleb : decide ((q : Int) < 128) = false := by simpa using hle
              have Hle := Lib.hid hle
              clear hle
              by_cases hp : isPt q = true
              · have hz3 : (if (q : Int) < least 2 ∨ isPt q = false then 0 else 2) = 2 := if_neg (by rw [hp]; intro h; rcases h with h | h; exact Hle.out h; cases h)
                have Hz3 := Lib.hid hz3
                clear hz3
                go_wp2
                go_ret
                rw [Hz.out, hz2.out, Hz3.out]
                exact ⟨rfl, rfl⟩
              · have hp' : isPt q = false := by simpa using hp
                have hz3 : (if (q : Int) < least 2 ∨ isPt q = false then 0 else 2) = 0 := if_pos (.inr hp')
                have Hz3 := Lib.hid hz3
                clear hz3 hp
                go_wp2
                go_ret
                rw [Hz.out, hz2.out, Hz3.out]
                exact ⟨rfl, rfl⟩
    · have hz2 : sizeBy s.data.toList 1 v = 1 := by
        rw [sizeBy_end (by rw [size_toList]; omega) (by simp)]
        refine if_neg ?_
        have e1 : ptVal (s.data.toList.tail.take (1 - 1)) v = v := by simp [ptVal]
        rw [e1]
        have e2 : least 1 = 0 := rfl
        have e3 : isPt (v : Int) = true := by simp only [isPt, decide_eq_true_eq]; omega
        rw [e2, e3]
        intro h
        rcases h with h | h
        · omega
        · cases h
      have Hz2 := Lib.hid hz2
      have hp : isPt ((s[0].toNat : Int)) = true := by simp [isPt]; omega
      have i2 : (s[0].toNat : Int) < 128 := by omega
      have i3 : ¬ ((s.size : Int) < 1) := by omega
      have Hv := Lib.hid hv
      clear hz2 hv hn
      go_enter Tryz.func33, Tryz.ntmps33
      go_wp2
      refine wp_loop_rounds 1 ?_
      rw [rounds_succ]
      go_wp2_with fail
      refine (point_any _ _).mono ?_
      rintro e w' ⟨rfl, rfl⟩
      go_wp2
      go_ret
      rw [Hz.out, Hz2.out]
      exact ⟨rfl, rfl⟩
end Go.Proofs.YtpepgmccbkkaaaaGreatDoor
