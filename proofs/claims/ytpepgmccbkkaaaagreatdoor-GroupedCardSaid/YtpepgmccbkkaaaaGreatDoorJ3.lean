import Derived.Test.YtpepgmccbkkaaaaGreatDoorJ2
import Derived.Lib.DecodeN
import Derived.Lib.MapLaws
import Derived.Lib.RuneCount
import Derived.Lib.ValidU
import GoSem.Conv.StringToRunes
import Derived.Maps.Own
import Derived.Lib.SmallJoins
import Derived.StillTailTactics
import Derived.Deep.RegionWith
import Derived.OwnWalk
import Derived.Test.YtpepgmccbkkaaaaGreatDoorShelfV
import Derived.Laws.IdiomCopy

/- The walk of phrasesref.size. -/
namespace Go.Proofs.YtpepgmccbkkaaaaGreatDoor
open Go Go.RowKit
set_option maxRecDepth 10000

set_option maxRecDepth 100000 in
set_option maxHeartbeats 1000000 in
theorem size_any (s : ByteArray) (w : World) (h0 : 0 < s.size) (hs : s.size ≤ 2000000000) :
    Calls Tryz.prog 33 #[.string s] w fun e w' => e = .returned (.int .i64 (sizeL s.data.toList)) ∧ w = w' := by
  have hh := headD_eq s h0
  have hb : s[0].toNat < 256 := UInt8.toNat_lt _
  by_cases hbad : 128 ≤ s[0].toNat ∧ (s[0].toNat < 192 ∨ 248 ≤ s[0].toNat)
  · have hz : sizeL s.data.toList = 0 := by
      unfold sizeL; rw [hh, if_neg (by omega), if_neg (by omega), if_neg (by omega), if_pos (by omega)]
    have Hz := Lib.hid hz
    have Hh := Lib.hid hh
    clear hz hh
    obtain ⟨hb1, hb2⟩ := hbad
    rcases hb2 with hb2 | hb2
    all_goals
      go_enter Tryz.func33, Tryz.ntmps33
      go_wp2
      go_ret
      rw [Hz.out]
      exact ⟨rfl, rfl⟩
  · obtain ⟨n, v, H⟩ : ∃ n v, (240 ≤ s[0].toNat ∧ s[0].toNat < 248 ∧ n = 4 ∧ v = s[0].toNat - 240) ∨
      (224 ≤ s[0].toNat ∧ s[0].toNat < 240 ∧ n = 3 ∧ v = s[0].toNat - 224) ∨
      (192 ≤ s[0].toNat ∧ s[0].toNat < 224 ∧ n = 2 ∧ v = s[0].toNat - 192) ∨
      (s[0].toNat < 128 ∧ n = 1 ∧ v = s[0].toNat) := by
      by_cases c1 : 240 ≤ s[0].toNat
      · exact ⟨_, _, .inl ⟨by omega, by omega, rfl, rfl⟩⟩
      by_cases c2 : 224 ≤ s[0].toNat
      · exact ⟨_, _, .inr (.inl ⟨by omega, by omega, rfl, rfl⟩)⟩
      by_cases c3 : 192 ≤ s[0].toNat
      · exact ⟨_, _, .inr (.inr (.inl ⟨by omega, by omega, rfl, rfl⟩))⟩
      · exact ⟨_, _, .inr (.inr (.inr ⟨by omega, rfl, rfl⟩))⟩
    have hz : sizeL s.data.toList = sizeBy s.data.toList n v := sizeL_of (by rw [hh]; exact H)
    have Hz := Lib.hid hz
    have Hh := Lib.hid hh
    clear hz hh hbad
    have hn : 1 ≤ n ∧ n ≤ 4 ∧ v ≤ 127 := by omega
    rcases H with ⟨h1, h2, rfl, hv⟩ | ⟨h1, h2, rfl, hv⟩ | ⟨h1, h2, rfl, hv⟩ | ⟨h1, rfl, hv⟩
    · have hv' : (v : Int) = (s[0].toNat : Int) - 240 := by omega
      have hvlt : v ≤ 127 := hn.2.2
      have i1 : (240 : Int) ≤ (s[0].toNat : Int) := by omega
      have i2 : (s[0].toNat : Int) < 248 := by omega
      have Hv := Lib.hid hv'
      clear hv hv' hn
      by_cases hsh : s.size < 4
      · have hz2 := Lib.hid (sizeBy_short (l := s.data.toList) (n := 4) (v := v) (by simpa using hsh))
        go_enter Tryz.func33, Tryz.ntmps33
        go_wp2
        go_ret
        rw [Hz.out, hz2.out]
        exact ⟨rfl, rfl⟩
      · have i3 : (4 : Int) ≤ (s.size : Int) := by omega
        go_enter Tryz.func33, Tryz.ntmps33
        go_wp2
        go_loop [5, 7] (fun x i => ∃ k : Nat, 1 ≤ k ∧ k ≤ 4 ∧ i = .int .i64 k ∧ x = .int .i64 (ptVal (s.data.toList.tail.take (k - 1)) v) ∧ (s.data.toList.tail.take (k - 1)).all isCont = true) (fun _ i => 4 - (intOf i).toNat)
        case atStart => exact ⟨1, by omega, by omega, rfl, by rw [← Hv.out]; rfl, by simp⟩
        case round =>
          obtain ⟨k, hk1, hk2, rfl, rfl, hall⟩ := hrel
          have hbd := ptVal_lt _ v hall
          have hlen : (s.data.toList.tail.take (k - 1)).length ≤ 3 := by simp; omega
          have hbd2 : ptVal (s.data.toList.tail.take (k - 1)) v ≤ 64 ^ 3 * 128 := Nat.le_of_lt (Nat.lt_of_lt_of_le hbd (Nat.mul_le_mul (Nat.pow_le_pow_right (by omega) hlen) (by omega)))
          clear hbd hlen
          by_cases hlt : k < 4
          · by_cases hc : isCont s[k] = true
            · have hc' := (isCont_iff _).1 hc
              have hs1 := tail_snoc s k hk1 (by omega)
              have hall' := all_snoc hall hc
              have hpv := ptVal_snoc (s.data.toList.tail.take (k - 1)) s[k] v
              rw [← hs1] at hall' hpv
              have Hall' := Lib.hid hall'
              have Hpv := Lib.hid hpv
              clear hall' hpv hs1 hall hc
              go_wp2
              go_round
              case rel => exact ⟨k + 1, by omega, by omega, by go_num, by rw [show k + 1 - 1 = k from rfl, Hpv.out]; go_num, Hall'.out⟩
              case measure => simp [intOf]; omega
            · have hc' : isCont s[k] = false := by simpa using hc
              have hz2 := Lib.hid (sizeBy_cont (v := v) (cont_false_of s k 4 hk1 hlt (by omega) hc'))
              have hc2 : (s[k].toNat : Int) < 128 ∨ (191 : Int) < s[k].toNat := by
                have := isCont_iff s[k]; rw [hc'] at this; simp at this; omega
              clear hc hc' hall
              rcases hc2 with hc2 | hc2
              all_goals
                go_wp2
                go_ret
                rw [Hz.out, hz2.out]
                exact ⟨rfl, rfl⟩
          · obtain rfl : k = 4 := by omega
            have hz2 := Lib.hid (sizeBy_end (n := 4) (v := v) (by simp; omega) hall)
            have hle : least 4 = least 4 := rfl
            generalize ptVal (s.data.toList.tail.take (4 - 1)) v = q at *
            have hq : (q : Int) ≤ 33554432 := by omega
            clear hbd2 hall hle
            go_wp2_with fail
            refine (point_any _ _).mono ?_
            rintro e w' ⟨rfl, rfl⟩
            by_cases hle : (q : Int) < 65536
            · have hz3 : (if (q : Int) < least 4 ∨ isPt q = false then 0 else 4) = 0 := if_pos (.inl hle)
              have Hz3 := Lib.hid hz3
              clear hz3
              go_wp2
              go_ret
              rw [Hz.out, hz2.out, Hz3.out]
              exact ⟨rfl, rfl⟩
            · have hleb : decide ((q : Int) < 65536) = false := by simpa using hle
              have Hle := Lib.hid hle
              clear hle
              by_cases hp : isPt q = true
              · have hz3 : (if (q : Int) < least 4 ∨ isPt q = false then 0 else 4) = 4 := if_neg (by rw [hp]; intro h; rcases h with h | h; exact Hle.out h; cases h)
                have Hz3 := Lib.hid hz3
                clear hz3
                go_wp2
                go_ret
                rw [Hz.out, hz2.out, Hz3.out]
                exact ⟨rfl, rfl⟩
              · have hp' : isPt q = false := by simpa using hp
                have hz3 : (if (q : Int) < least 4 ∨ isPt q = false then 0 else 4) = 0 := if_pos (.inr hp')
                have Hz3 := Lib.hid hz3
                clear hz3 hp
                go_wp2
                go_ret
                rw [Hz.out, hz2.out, Hz3.out]
                exact ⟨rfl, rfl⟩
    · have hv' : (v : Int) = (s[0].toNat : Int) - 224 := by omega
      have hvlt : v ≤ 127 := hn.2.2
      have i1 : (224 : Int) ≤ (s[0].toNat : Int) := by omega
      have i2 : (s[0].toNat : Int) < 240 := by omega
      have Hv := Lib.hid hv'
      clear hv hv' hn
      by_cases hsh : s.size < 3
      · have hz2 := Lib.hid (sizeBy_short (l := s.data.toList) (n := 3) (v := v) (by simpa using hsh))
        go_enter Tryz.func33, Tryz.ntmps33
        go_wp2
        go_ret
        rw [Hz.out, hz2.out]
        exact ⟨rfl, rfl⟩
      · have i3 : (3 : Int) ≤ (s.size : Int) := by omega
        go_enter Tryz.func33, Tryz.ntmps33
        go_wp2
        go_loop [5, 7] (fun x i => ∃ k : Nat, 1 ≤ k ∧ k ≤ 3 ∧ i = .int .i64 k ∧ x = .int .i64 (ptVal (s.data.toList.tail.take (k - 1)) v) ∧ (s.data.toList.tail.take (k - 1)).all isCont = true) (fun _ i => 3 - (intOf i).toNat)
        case atStart => exact ⟨1, by omega, by omega, rfl, by rw [← Hv.out]; rfl, by simp⟩
        case round =>
          obtain ⟨k, hk1, hk2, rfl, rfl, hall⟩ := hrel
          have hbd := ptVal_lt _ v hall
          have hlen : (s.data.toList.tail.take (k - 1)).length ≤ 3 := by simp; omega
          have hbd2 : ptVal (s.data.toList.tail.take (k - 1)) v ≤ 64 ^ 3 * 128 := Nat.le_of_lt (Nat.lt_of_lt_of_le hbd (Nat.mul_le_mul (Nat.pow_le_pow_right (by omega) hlen) (by omega)))
          clear hbd hlen
          by_cases hlt : k < 3
          · by_cases hc : isCont s[k] = true
            · have hc' := (isCont_iff _).1 hc
              have hs1 := tail_snoc s k hk1 (by omega)
              have hall' := all_snoc hall hc
              have hpv := ptVal_snoc (s.data.toList.tail.take (k - 1)) s[k] v
              rw [← hs1] at hall' hpv
              have Hall' := Lib.hid hall'
              have Hpv := Lib.hid hpv
              clear hall' hpv hs1 hall hc
              go_wp2
              go_round
              case rel => exact ⟨k + 1, by omega, by omega, by go_num, by rw [show k + 1 - 1 = k from rfl, Hpv.out]; go_num, Hall'.out⟩
              case measure => simp [intOf]; omega
            · have hc' : isCont s[k] = false := by simpa using hc
              have hz2 := Lib.hid (sizeBy_cont (v := v) (cont_false_of s k 3 hk1 hlt (by omega) hc'))
              have hc2 : (s[k].toNat : Int) < 128 ∨ (191 : Int) < s[k].toNat := by
                have := isCont_iff s[k]; rw [hc'] at this; simp at this; omega
              clear hc hc' hall
              rcases hc2 with hc2 | hc2
              all_goals
                go_wp2
                go_ret
                rw [Hz.out, hz2.out]
                exact ⟨rfl, rfl⟩
          · obtain rfl : k = 3 := by omega
            have hz2 := Lib.hid (sizeBy_end (n := 3) (v := v) (by simp; omega) hall)
            have hle : least 3 = least 3 := rfl
            generalize ptVal (s.data.toList.tail.take (3 - 1)) v = q at *
            have hq : (q : Int) ≤ 33554432 := by omega
            clear hbd2 hall hle
            go_wp2_with fail
            refine (point_any _ _).mono ?_
            rintro e w' ⟨rfl, rfl⟩
            by_cases hle : (q : Int) < 2048
            · have hz3 : (if (q : Int) < least 3 ∨ isPt q = false then 0 else 3) = 0 := if_pos (.inl hle)
              have Hz3 := Lib.hid hz3
              clear hz3
              go_wp2
              go_ret
              rw [Hz.out, hz2.out, Hz3.out]
              exact ⟨rfl, rfl⟩
            · have hleb : decide ((q : Int) < 2048) = false := by simpa using hle
              have Hle := Lib.hid hle
              clear hle
              by_cases hp : isPt q = true
              · have hz3 : (if (q : Int) < least 3 ∨ isPt q = false then 0 else 3) = 3 := if_neg (by rw [hp]; intro h; rcases h with h | h; exact Hle.out h; cases h)
                have Hz3 := Lib.hid hz3
                clear hz3
                go_wp2
                go_ret
                rw [Hz.out, hz2.out, Hz3.out]
                exact ⟨rfl, rfl⟩
              · have hp' : isPt q = false := by simpa using hp
                have hz3 : (if (q : Int) < least 3 ∨ isPt q = false then 0 else 3) = 0 := if_pos (.inr hp')
                have Hz3 := Lib.hid hz3
                clear hz3 hp
                go_wp2
                go_ret
                rw [Hz.out, hz2.out, Hz3.out]
                exact ⟨rfl, rfl⟩
    · have hv' : (v : Int) = (s[0].toNat : Int) - 192 := by omega
      have hvlt : v ≤ 127 := hn.2.2
      have i1 : (192 : Int) ≤ (s[0].toNat : Int) := by omega
      have i2 : (s[0].toNat : Int) < 224 := by omega
      have Hv := Lib.hid hv'
      clear hv hv' hn
      by_cases hsh : s.size < 2
      · have hz2 := Lib.hid (sizeBy_short (l := s.data.toList) (n := 2) (v := v) (by simpa using hsh))
        go_enter Tryz.func33, Tryz.ntmps33
        go_wp2
        go_ret
        rw [Hz.out, hz2.out]
        exact ⟨rfl, rfl⟩
      · have i3 : (2 : Int) ≤ (s.size : Int) := by omega
        go_enter Tryz.func33, Tryz.ntmps33
        go_wp2
        go_loop [5, 7] (fun x i => ∃ k : Nat, 1 ≤ k ∧ k ≤ 2 ∧ i = .int .i64 k ∧ x = .int .i64 (ptVal (s.data.toList.tail.take (k - 1)) v) ∧ (s.data.toList.tail.take (k - 1)).all isCont = true) (fun _ i => 2 - (intOf i).toNat)
        case atStart => exact ⟨1, by omega, by omega, rfl, by rw [← Hv.out]; rfl, by simp⟩
        case round =>
          obtain ⟨k, hk1, hk2, rfl, rfl, hall⟩ := hrel
          have hbd := ptVal_lt _ v hall
          have hlen : (s.data.toList.tail.take (k - 1)).length ≤ 3 := by simp; omega
          have hbd2 : ptVal (s.data.toList.tail.take (k - 1)) v ≤ 64 ^ 3 * 128 := Nat.le_of_lt (Nat.lt_of_lt_of_le hbd (Nat.mul_le_mul (Nat.pow_le_pow_right (by omega) hlen) (by omega)))
          clear hbd hlen
          by_cases hlt : k < 2
          · by_cases hc : isCont s[k] = true
            · have hc' := (isCont_iff _).1 hc
              have hs1 := tail_snoc s k hk1 (by omega)
              have hall' := all_snoc hall hc
              have hpv := ptVal_snoc (s.data.toList.tail.take (k - 1)) s[k] v
              rw [← hs1] at hall' hpv
              have Hall' := Lib.hid hall'
              have Hpv := Lib.hid hpv
              clear hall' hpv hs1 hall hc
              go_wp2
              go_round
              case rel => exact ⟨k + 1, by omega, by omega, by go_num, by rw [show k + 1 - 1 = k from rfl, Hpv.out]; go_num, Hall'.out⟩
              case measure => simp [intOf]; omega
            · have hc' : isCont s[k] = false := by simpa using hc
              have hz2 := Lib.hid (sizeBy_cont (v := v) (cont_false_of s k 2 hk1 hlt (by omega) hc'))
              have hc2 : (s[k].toNat : Int) < 128 ∨ (191 : Int) < s[k].toNat := by
                have := isCont_iff s[k]; rw [hc'] at this; simp at this; omega
              clear hc hc' hall
              rcases hc2 with hc2 | hc2
              all_goals
                go_wp2
                go_ret
                rw [Hz.out, hz2.out]
                exact ⟨rfl, rfl⟩
          · obtain rfl : k = 2 := by omega
            have hz2 := Lib.hid (sizeBy_end (n := 2) (v := v) (by simp; omega) hall)
            have hle : least 2 = least 2 := rfl
            generalize ptVal (s.data.toList.tail.take (2 - 1)) v = q at *
            have hq : (q : Int) ≤ 33554432 := by omega
            clear hbd2 hall hle
            go_wp2_with fail
            refine (point_any _ _).mono ?_
            rintro e w' ⟨rfl, rfl⟩
            by_cases hle : (q : Int) < 128
            · have hz3 : (if (q : Int) < least 2 ∨ isPt q = false then 0 else 2) = 0 := if_pos (.inl hle)
              have Hz3 := Lib.hid hz3
              clear hz3
              go_wp2
              go_ret
              rw [Hz.out, hz2.out, Hz3.out]
              exact ⟨rfl, rfl⟩
            · have hleb : decide ((q : Int) < 128) = false := by simpa using hle
              have Hle := Lib.hid hle
              clear hle
              by_cases hp : isPt q = true
              · have hz3 : (if (q : Int) < least 2 ∨ isPt q = false then 0 else 2) = 2 := if_neg (by rw [hp]; intro h; rcases h with h | h; exact Hle.out h; cases h)
                have Hz3 := Lib.hid hz3
                clear hz3
                go_wp2
                go_ret
                rw [Hz.out, hz2.out, Hz3.out]
                exact ⟨rfl, rfl⟩
              · have hp' : isPt q = false := by simpa using hp
                have hz3 : (if (q : Int) < least 2 ∨ isPt q = false then 0 else 2) = 0 := if_pos (.inr hp')
                have Hz3 := Lib.hid hz3
                clear hz3 hp
                go_wp2
                go_ret
                rw [Hz.out, hz2.out, Hz3.out]
                exact ⟨rfl, rfl⟩
    · have hz2 : sizeBy s.data.toList 1 v = 1 := by
        rw [sizeBy_end (by rw [size_toList]; omega) (by simp)]
        refine if_neg ?_
        have e1 : ptVal (s.data.toList.tail.take (1 - 1)) v = v := by simp [ptVal]
        rw [e1]
        have e2 : least 1 = 0 := rfl
        have e3 : isPt (v : Int) = true := by simp only [isPt, decide_eq_true_eq]; omega
        rw [e2, e3]
        intro h
        rcases h with h | h
        · omega
        · cases h
      have Hz2 := Lib.hid hz2
      have hp : isPt ((s[0].toNat : Int)) = true := by simp [isPt]; omega
      have i2 : (s[0].toNat : Int) < 128 := by omega
      have i3 : ¬ ((s.size : Int) < 1) := by omega
      have Hv := Lib.hid hv
      clear hz2 hv hn
      go_enter Tryz.func33, Tryz.ntmps33
      go_wp2
      refine wp_loop_rounds 1 ?_
      rw [rounds_succ]
      go_wp2_with fail
      refine (point_any _ _).mono ?_
      rintro e w' ⟨rfl, rfl⟩
      go_wp2
      go_ret
      rw [Hz.out, Hz2.out]
      exact ⟨rfl, rfl⟩
end Go.Proofs.YtpepgmccbkkaaaaGreatDoor

/- phrasesref.points: a text's code points. -/
namespace Go.Proofs.YtpepgmccbkkaaaaGreatDoor
open Go Go.RowKit

theorem sizeBy_le (l : List UInt8) (n v : Nat) : sizeBy l n v ≤ l.length ∧ sizeBy l n v ≤ n := by
  unfold sizeBy
  repeat' split
  all_goals omega

theorem sizeL_le (l : List UInt8) : sizeL l ≤ l.length ∧ sizeL l ≤ 4 := by
  have h := fun n v => sizeBy_le l n v
  unfold sizeL
  simp only []
  split
  · exact h 4 _
  split
  · exact ⟨(h 3 _).1, by have := (h 3 ((l.headD 0).toNat - 224)).2; omega⟩
  split
  · exact ⟨(h 2 _).1, by have := (h 2 ((l.headD 0).toNat - 192)).2; omega⟩
  split
  · omega
  · exact ⟨(h 1 _).1, by have := (h 1 ((l.headD 0).toNat)).2; omega⟩

/-- a text's code points, each as its bytes, and how many bytes they are -/
def ptsL (l : List UInt8) : List (List UInt8) × Nat :=
  if h : l = [] ∨ sizeL l = 0 then ([], 0) else
    let r := ptsL (l.drop (sizeL l))
    (l.take (sizeL l) :: r.1, sizeL l + r.2)
  termination_by l.length
  decreasing_by
    simp only [not_or] at h
    have := List.length_pos_iff.2 h.1
    simp; omega

theorem ptsL_nil : ptsL [] = ([], 0) := by rw [ptsL]; simp
theorem ptsL_bad {l : List UInt8} (h : sizeL l = 0) : ptsL l = ([], 0) := by rw [ptsL]; simp [h]
theorem ptsL_step {l : List UInt8} (h0 : l ≠ []) (h : sizeL l ≠ 0) : ptsL l = (l.take (sizeL l) :: (ptsL (l.drop (sizeL l))).1, sizeL l + (ptsL (l.drop (sizeL l))).2) := by
  rw [ptsL, dif_neg (by simp [h0, h])]

def PointsPost (l : List UInt8) (w : World) (e : Ending) (w' : World) : Prop :=
  ∃ v, e = .returned (.tuple #[v, .int .i64 (ptsL l).2]) ∧ w'.ownsRow w.heap.size 9 1 v (ptsL l).1.length ((ptsL l).1.map strv) ∧ Below w.heap.size w w'

/-- the loop's relation -/
def PtsRel (l : List UInt8) (w : World) (v i : Value) (wr : World) : Prop :=
  ∃ (k : Nat) (acc : List (List UInt8)), k ≤ l.length ∧ i = .int .i64 k ∧ wr.ownsRow w.heap.size 9 1 v acc.length (acc.map strv) ∧ Below w.heap.size w wr ∧
    acc.length ≤ k ∧ (ptsL l).1 = acc ++ (ptsL (l.drop k)).1 ∧ (ptsL l).2 = k + (ptsL (l.drop k)).2

theorem ptsRel_step {l : List UInt8} {w : World} {k n : Nat} {acc : List (List UInt8)} {v' : Value} {w1 : World} (hk : k < l.length) (hn : sizeL (l.drop k) = n) (h0 : n ≠ 0)
    (hown : w1.ownsRow w.heap.size 9 1 v' (acc.length + 1) (acc.map strv ++ [strv ((l.drop k).take n)])) (hb : Below w.heap.size w w1)
    (hl : acc.length ≤ k) (h1 : (ptsL l).1 = acc ++ (ptsL (l.drop k)).1) (h2 : (ptsL l).2 = k + (ptsL (l.drop k)).2) : PtsRel l w v' (.int .i64 ((k : Int) + n)) w1 := by
  have hne : l.drop k ≠ [] := by simp; omega
  have hle := (sizeL_le (l.drop k)).1
  rw [hn] at hle
  simp only [List.length_drop] at hle
  rw [ptsL_step hne (by omega), hn, List.drop_drop] at h1 h2
  refine ⟨k + n, acc ++ [(l.drop k).take n], by omega, by go_num, ?_, hb, ?_, ?_, ?_⟩
  · simpa using hown
  · simp; omega
  · rw [h1]; simp
  · rw [h2]; simp; omega

set_option maxHeartbeats 800000 in
theorem points_any (s : ByteArray) (w : World) (hs : s.size ≤ 1000000000) :
    Calls Tryz.prog 21 #[.string s] w (PointsPost s.data.toList w) := by
  go_enter Tryz.func21, Tryz.ntmps21
  go_wp2
  go_loopw [4, 5] (fun v i wr => PtsRel s.data.toList w v i wr) (fun _ i _ => s.size - (intOf i).toNat)
  case atStart => exact ⟨0, [], by omega, rfl, World.ownsRow_nil _ _ _ _, Below.refl _ _, by simp, by simp, by simp⟩
  case round =>
    obtain ⟨k, acc, hk, rfl, hown, hb, hl, h1, h2⟩ := hrel
    rw [size_toList] at hk
    have H1 := Lib.hid h1
    have H2 := Lib.hid h2
    clear h1 h2
    by_cases hlt : k < s.size
    · have e1 : (s.extract k s.size).data.toList = s.data.toList.drop k := by rw [extract_drop]
      have hle := sizeL_le (s.data.toList.drop k)
      simp only [List.length_drop, size_toList] at hle
      obtain ⟨n, hn⟩ : ∃ n, sizeL (s.data.toList.drop k) = n := ⟨_, rfl⟩
      rw [hn] at hle
      go_wp2_with fail
      refine (size_any _ _ (by simp; omega) (by simp; omega)).mono ?_
      rw [e1, hn]
      have Hn := Lib.hid hn
      clear hn e1
      rintro e w' ⟨rfl, rfl⟩
      by_cases h0 : n = 0
      · subst h0
        go_wp2
        go_ret2
        have hz := ptsL_bad Hn.out
        refine ⟨_, ?_, (by rw [H1.out, hz]; simpa using hown), hb⟩
        rw [H2.out, hz]
        rfl
      · have h0' : ((n : Int) == 0) = false := by simpa using h0
        go_wp2_with (at_builtin; refine app_own elem_strs rfl _ _ rfl w.heap.size _ _ _ rfl (hown.alloc _) ⟨wr.heap.size, 0, none⟩ 1 1 [.string (s.extract k (k + n))] rfl rfl ?c1 ?c2 ?c3 ?c4 ?_)
        case c1 => exact cells_one (by simp)
        case c2 => intro u hu; simp at hu; subst hu; rfl
        case c3 => omega
        case c4 => have := hb.size; simp; omega
        intro v' w1 hown' hgrow
        go_wp2
        go_roundw
        case rel =>
          have e2 : s.extract k (k + n) = ⟨((s.data.toList.drop k).take n).toArray⟩ := by rw [extract_eq, Nat.add_sub_cancel_left]
          rw [e2] at hown'
          exact ptsRel_step (by rw [size_toList]; exact hlt) Hn.out h0 hown' ((hb.alloc hb.size _).grown hgrow (by have := hb.size; simp; omega) (fun q hq => (hown.lt q hq).1)) hl H1.out H2.out
        case measure => simp [intOf]; omega
    · go_wp2
      go_ret2
      have hz : ptsL (s.data.toList.drop k) = ([], 0) := by rw [List.drop_of_length_le (by simp; omega), ptsL_nil]
      refine ⟨_, ?_, (by rw [H1.out, hz]; simpa using hown), hb⟩
      rw [H2.out, hz]
      rfl
end Go.Proofs.YtpepgmccbkkaaaaGreatDoor

/- The document's reading of code points against the model's: sizes. -/
namespace Go.Proofs.YtpepgmccbkkaaaaGreatDoor
open Go Go.RowKit
set_option maxRecDepth 10000

/-- what the model reads at the head of a list -/
def decN (l : List UInt8) : Nat × Nat := Lib.decodeN l.length (l.getD 0 0).toNat (l.getD 1 0).toNat (l.getD 2 0).toNat (l.getD 3 0).toNat

theorem isCont_nat (c : UInt8) : isCont c = decide (128 ≤ c.toNat ∧ c.toNat ≤ 191) := by
  by_cases h : isCont c = true
  · have := (isCont_iff c).1 h
    rw [h, decide_eq_true (by omega)]
  · have h' : isCont c = false := by simpa using h
    rw [h', eq_comm, decide_eq_false_iff_not]
    intro hc
    exact h ((isCont_iff c).2 (by omega))

/-- a point that may stand -/
abbrev okPt (v : Nat) : Prop := v ≤ 1114111 ∧ (v < 55296 ∨ 57343 < v)
theorem isPt_nat (v : Nat) : isPt (v : Int) = true ↔ okPt v := by
  unfold isPt okPt
  simp only [decide_eq_true_eq]
  omega

theorem sizeBy_gen (l t : List UInt8) (n v x : Nat) (hl : n ≤ l.length) (ht : l.tail.take (n - 1) = t) (hx : t.all isCont = true → ptVal t v = x) :
    sizeBy l n v = if t.all isCont = true ∧ least n ≤ (x : Int) ∧ okPt x then n else 0 := by
  unfold sizeBy
  rw [if_neg (by omega), ht]
  by_cases h1 : t.all isCont = true
  · have h0 : ¬ (t.all isCont = false) := by rw [h1]; simp
    rw [hx h1, if_neg h0]
    by_cases h2 : least n ≤ (x : Int) ∧ okPt x
    · have r1 : ¬ ((x : Int) < least n ∨ isPt (x : Int) = false) := by
        rintro (h3 | h3)
        · omega
        · rw [(isPt_nat x).2 h2.2] at h3; cases h3
      rw [if_neg r1, if_pos ⟨h1, h2⟩]
    · have r1 : (x : Int) < least n ∨ isPt (x : Int) = false := by
        by_cases h3 : least n ≤ (x : Int)
        · refine .inr ?_
          rw [← Bool.not_eq_true, isPt_nat]
          exact fun h => h2 ⟨h3, h⟩
        · exact .inl (by omega)
      rw [if_pos r1, if_neg (fun h => h2 h.2)]
  · have h0 : t.all isCont = false := by simpa using h1
    rw [if_pos h0, if_neg (fun h => h1 h.1)]

/-! the model's decoder by classes of the first byte -/
theorem dN1 {n b0 b1 b2 b3 : Nat} (h : b0 < 128) : Lib.decodeN n b0 b1 b2 b3 = (b0, 1) := by rw [Lib.decodeN, if_pos h]
theorem dNbad {n b0 b1 b2 b3 : Nat} (h : (128 ≤ b0 ∧ b0 < 192) ∨ 248 ≤ b0) : Lib.decodeN n b0 b1 b2 b3 = (65533, 1) := by
  rw [Lib.decodeN, if_neg (by omega), if_neg (by omega), if_neg (by omega), if_neg (by omega)]
theorem dN2 {n b0 b1 b2 b3 : Nat} (h : 192 ≤ b0 ∧ b0 < 224) :
    Lib.decodeN n b0 b1 b2 b3 = if (1 < n ∧ 128 ≤ b1 ∧ b1 ≤ 191) ∧ 128 ≤ 64 * (b0 - 192) + (b1 - 128) then (64 * (b0 - 192) + (b1 - 128), 2) else (65533, 1) := by
  rw [Lib.decodeN, if_neg (by omega)]
  by_cases h1 : 1 < n ∧ 128 ≤ b1 ∧ b1 ≤ 191
  · have e : b0 % 32 * 64 + b1 % 64 = 64 * (b0 - 192) + (b1 - 128) := by omega
    rw [if_pos (by omega), e]
    by_cases h2 : 128 ≤ 64 * (b0 - 192) + (b1 - 128)
    · rw [if_pos h2, if_pos ⟨h1, h2⟩]
    · rw [if_neg h2, if_neg (fun hh => h2 hh.2)]
  · by_cases h3 : b0 / 32 = 6 ∧ 1 < n ∧ b1 / 64 = 2
    · exfalso; omega
    · rw [if_neg h3, if_neg (by omega), if_neg (by omega), if_neg (fun hh => h1 hh.1)]
theorem dN3 {n b0 b1 b2 b3 : Nat} (h : 224 ≤ b0 ∧ b0 < 240) :
    Lib.decodeN n b0 b1 b2 b3 = if (2 < n ∧ (128 ≤ b1 ∧ b1 ≤ 191) ∧ 128 ≤ b2 ∧ b2 ≤ 191) ∧ 2048 ≤ 64 * (64 * (b0 - 224) + (b1 - 128)) + (b2 - 128) ∧ okPt (64 * (64 * (b0 - 224) + (b1 - 128)) + (b2 - 128)) then (64 * (64 * (b0 - 224) + (b1 - 128)) + (b2 - 128), 3) else (65533, 1) := by
  rw [Lib.decodeN, if_neg (by omega), if_neg (by omega)]
  by_cases h1 : 2 < n ∧ (128 ≤ b1 ∧ b1 ≤ 191) ∧ 128 ≤ b2 ∧ b2 ≤ 191
  · have e : b0 % 16 * 4096 + b1 % 64 * 64 + b2 % 64 = 64 * (64 * (b0 - 224) + (b1 - 128)) + (b2 - 128) := by omega
    rw [if_pos (by omega), e]
    generalize 64 * (64 * (b0 - 224) + (b1 - 128)) + (b2 - 128) = v
    by_cases h2 : 2048 ≤ v ∧ okPt v
    · rw [if_pos (by unfold okPt at h2; omega), if_pos ⟨h1, h2⟩]
    · rw [if_neg (by unfold okPt at h2; omega), if_neg (fun hh => h2 hh.2)]
  · by_cases h3 : b0 / 16 = 14 ∧ (1 < n ∧ b1 / 64 = 2) ∧ 2 < n ∧ b2 / 64 = 2
    · exfalso; omega
    · rw [if_neg h3, if_neg (by omega), if_neg (fun hh => h1 hh.1)]
theorem dN4 {n b0 b1 b2 b3 : Nat} (h : 240 ≤ b0 ∧ b0 < 248) :
    Lib.decodeN n b0 b1 b2 b3 = if (3 < n ∧ (128 ≤ b1 ∧ b1 ≤ 191) ∧ (128 ≤ b2 ∧ b2 ≤ 191) ∧ 128 ≤ b3 ∧ b3 ≤ 191) ∧ 65536 ≤ 64 * (64 * (64 * (b0 - 240) + (b1 - 128)) + (b2 - 128)) + (b3 - 128) ∧ okPt (64 * (64 * (64 * (b0 - 240) + (b1 - 128)) + (b2 - 128)) + (b3 - 128)) then (64 * (64 * (64 * (b0 - 240) + (b1 - 128)) + (b2 - 128)) + (b3 - 128), 4) else (65533, 1) := by
  rw [Lib.decodeN, if_neg (by omega), if_neg (by omega), if_neg (by omega)]
  by_cases h1 : 3 < n ∧ (128 ≤ b1 ∧ b1 ≤ 191) ∧ (128 ≤ b2 ∧ b2 ≤ 191) ∧ 128 ≤ b3 ∧ b3 ≤ 191
  · have e : b0 % 8 * 262144 + b1 % 64 * 4096 + b2 % 64 * 64 + b3 % 64 = 64 * (64 * (64 * (b0 - 240) + (b1 - 128)) + (b2 - 128)) + (b3 - 128) := by omega
    rw [if_pos (by omega), e]
    generalize 64 * (64 * (64 * (b0 - 240) + (b1 - 128)) + (b2 - 128)) + (b3 - 128) = v
    by_cases h2 : 65536 ≤ v ∧ okPt v
    · rw [if_pos (by unfold okPt at h2; omega), if_pos ⟨h1, h2⟩]
    · rw [if_neg (by unfold okPt at h2; omega), if_neg (fun hh => h2 hh.2)]
  · by_cases h3 : b0 / 8 = 30 ∧ (1 < n ∧ b1 / 64 = 2) ∧ (2 < n ∧ b2 / 64 = 2) ∧ 3 < n ∧ b3 / 64 = 2
    · exfalso; omega
    · rw [if_neg h3, if_neg (fun hh => h1 hh.1)]

/-- the size is the width that the model reads, where it reads no error -/
def sizeOk (l : List UInt8) : Prop := (sizeL l = 0 ∧ decN l = (65533, 1)) ∨ (sizeL l = (decN l).2 ∧ 0 < sizeL l ∧ ¬ ((decN l).1 = 65533 ∧ (decN l).2 = 1))

theorem fin_err {a : UInt8} {r : List UInt8} (hd : decN (a :: r) = (65533, 1)) (hs : sizeL (a :: r) = 0) (_h : 128 ≤ a.toNat) : sizeOk (a :: r) := .inl ⟨hs, hd⟩
theorem fin_ok {a : UInt8} {r : List UInt8} {v k : Nat} (hd : decN (a :: r) = (v, k)) (hs : sizeL (a :: r) = k) (h : 1 < k) : sizeOk (a :: r) :=
  .inr ⟨by rw [hs, hd], by omega, by rw [hd]; intro q; have := q.2; simp at this; omega⟩

theorem size_ok (a : UInt8) (r : List UInt8) : sizeOk (a :: r) := by
  have hh : (a :: r).headD 0 = a := rfl
  have ha := a.toNat_lt
  by_cases c1 : a.toNat < 128
  · have hd : decN (a :: r) = (a.toNat, 1) := dN1 (b0 := a.toNat) c1
    have hs : sizeL (a :: r) = 1 := by
      rw [sizeL_of (l := a :: r) (n := 1) (v := a.toNat) (.inr (.inr (.inr ⟨by rw [hh]; omega, rfl, by rw [hh]⟩))),
        sizeBy_gen (a :: r) [] 1 a.toNat a.toNat (by simp) (by simp) (fun _ => rfl), if_pos ⟨rfl, by simp [least], by unfold okPt; omega⟩]
    exact .inr ⟨by rw [hs, hd], by omega, by rw [hd]; intro q; have := q.1; simp at this; omega⟩
  by_cases c2 : a.toNat < 192 ∨ 248 ≤ a.toNat
  · refine fin_err (dNbad (b0 := a.toNat) (by omega)) ?_ (by omega)
    unfold sizeL
    rw [hh, if_neg (by omega), if_neg (by omega), if_neg (by omega), if_pos (by omega)]
  by_cases c3 : a.toNat < 224
  · have hD : decN (a :: r) = _ := dN2 (n := (a :: r).length) (b0 := a.toNat) (b1 := ((a :: r).getD 1 0).toNat) (b2 := ((a :: r).getD 2 0).toNat) (b3 := ((a :: r).getD 3 0).toNat) (show 192 ≤ a.toNat ∧ a.toNat < 224 by omega)
    have hS : sizeL (a :: r) = sizeBy (a :: r) 2 (a.toNat - 192) := sizeL_of (l := a :: r) (n := 2) (v := a.toNat - 192) (.inr (.inr (.inl ⟨by rw [hh]; omega, by rw [hh]; omega, rfl, by rw [hh]⟩)))
    match r, hD, hS with
    | [], hD, hS => exact fin_err (by rw [hD, if_neg (by simp)]) (by rw [hS, sizeBy_short (by simp)]) (by omega)
    | b :: r, hD, hS =>
      have e1 : (a :: b :: r).getD 1 0 = b := rfl
      rw [e1] at hD
      rw [sizeBy_gen _ [b] 2 _ (64 * (a.toNat - 192) + (b.toNat - 128)) (by simp) (by simp) (fun _ => rfl)] at hS
      simp only [List.all_cons, List.all_nil, Bool.and_true, Bool.and_eq_true, isCont_nat, decide_eq_true_eq] at hS
      have hb := b.toNat_lt
      by_cases h : (128 ≤ b.toNat ∧ b.toNat ≤ 191) ∧ 128 ≤ (64 * (a.toNat - 192) + (b.toNat - 128))
      · exact fin_ok (by rw [hD, if_pos ⟨⟨by simp, h.1⟩, h.2⟩]) (by rw [hS, if_pos ⟨h.1, by simp [least]; omega, by unfold okPt; omega⟩]) (by decide)
      · exact fin_err (by rw [hD, if_neg (fun q => h ⟨q.1.2, q.2⟩)]) (by rw [hS, if_neg (fun q => h ⟨q.1, by have := q.2.1; simp [least] at this; omega⟩)]) (by omega)
  by_cases c4 : a.toNat < 240
  · have hD : decN (a :: r) = _ := dN3 (n := (a :: r).length) (b0 := a.toNat) (b1 := ((a :: r).getD 1 0).toNat) (b2 := ((a :: r).getD 2 0).toNat) (b3 := ((a :: r).getD 3 0).toNat) (show 224 ≤ a.toNat ∧ a.toNat < 240 by omega)
    have hS : sizeL (a :: r) = sizeBy (a :: r) 3 (a.toNat - 224) := sizeL_of (l := a :: r) (n := 3) (v := a.toNat - 224) (.inr (.inl ⟨by rw [hh]; omega, by rw [hh]; omega, rfl, by rw [hh]⟩))
    match r, hD, hS with
    | [], hD, hS => exact fin_err (by rw [hD, if_neg (by simp)]) (by rw [hS, sizeBy_short (by simp)]) (by omega)
    | [b], hD, hS => exact fin_err (by rw [hD, if_neg (by simp)]) (by rw [hS, sizeBy_short (by simp)]) (by omega)
    | b :: c :: r, hD, hS =>
      have e1 : (a :: b :: c :: r).getD 1 0 = b := rfl
      have e2 : (a :: b :: c :: r).getD 2 0 = c := rfl
      rw [e1, e2] at hD
      rw [sizeBy_gen _ [b, c] 3 _ (64 * (64 * (a.toNat - 224) + (b.toNat - 128)) + (c.toNat - 128)) (by simp) (by simp) (fun _ => rfl)] at hS
      simp only [List.all_cons, List.all_nil, Bool.and_true, Bool.and_eq_true, isCont_nat, decide_eq_true_eq] at hS
      have hb := b.toNat_lt
      have hc := c.toNat_lt
      generalize 64 * (64 * (a.toNat - 224) + (b.toNat - 128)) + (c.toNat - 128) = v at hD hS
      by_cases h : ((128 ≤ b.toNat ∧ b.toNat ≤ 191) ∧ (128 ≤ c.toNat ∧ c.toNat ≤ 191)) ∧ 2048 ≤ v ∧ okPt v
      · exact fin_ok (by rw [hD, if_pos ⟨⟨by simp, h.1⟩, h.2⟩]) (by rw [hS, if_pos ⟨h.1, by simp [least]; omega, h.2.2⟩]) (by decide)
      · exact fin_err (by rw [hD, if_neg (fun q => h ⟨q.1.2, q.2⟩)]) (by rw [hS, if_neg (fun q => h ⟨q.1, by have := q.2.1; simp [least] at this; omega, q.2.2⟩)]) (by omega)
  · have hD : decN (a :: r) = _ := dN4 (n := (a :: r).length) (b0 := a.toNat) (b1 := ((a :: r).getD 1 0).toNat) (b2 := ((a :: r).getD 2 0).toNat) (b3 := ((a :: r).getD 3 0).toNat) (show 240 ≤ a.toNat ∧ a.toNat < 248 by omega)
    have hS : sizeL (a :: r) = sizeBy (a :: r) 4 (a.toNat - 240) := sizeL_of (l := a :: r) (n := 4) (v := a.toNat - 240) (.inl ⟨by rw [hh]; omega, by rw [hh]; omega, rfl, by rw [hh]⟩)
    match r, hD, hS with
    | [], hD, hS => exact fin_err (by rw [hD, if_neg (by simp)]) (by rw [hS, sizeBy_short (by simp)]) (by omega)
    | [b], hD, hS => exact fin_err (by rw [hD, if_neg (by simp)]) (by rw [hS, sizeBy_short (by simp)]) (by omega)
    | [b, c], hD, hS => exact fin_err (by rw [hD, if_neg (by simp)]) (by rw [hS, sizeBy_short (by simp)]) (by omega)
    | b :: c :: d :: r, hD, hS =>
      have e1 : (a :: b :: c :: d :: r).getD 1 0 = b := rfl
      have e2 : (a :: b :: c :: d :: r).getD 2 0 = c := rfl
      have e3 : (a :: b :: c :: d :: r).getD 3 0 = d := rfl
      rw [e1, e2, e3] at hD
      rw [sizeBy_gen _ [b, c, d] 4 _ (64 * (64 * (64 * (a.toNat - 240) + (b.toNat - 128)) + (c.toNat - 128)) + (d.toNat - 128)) (by simp) (by simp) (fun _ => rfl)] at hS
      simp only [List.all_cons, List.all_nil, Bool.and_true, Bool.and_eq_true, isCont_nat, decide_eq_true_eq] at hS
      have hb := b.toNat_lt
      have hc := c.toNat_lt
      have hd := d.toNat_lt
      generalize 64 * (64 * (64 * (a.toNat - 240) + (b.toNat - 128)) + (c.toNat - 128)) + (d.toNat - 128) = v at hD hS
      by_cases h : ((128 ≤ b.toNat ∧ b.toNat ≤ 191) ∧ (128 ≤ c.toNat ∧ c.toNat ≤ 191) ∧ (128 ≤ d.toNat ∧ d.toNat ≤ 191)) ∧ 65536 ≤ v ∧ okPt v
      · exact fin_ok (by rw [hD, if_pos ⟨⟨by simp, h.1⟩, h.2⟩]) (by rw [hS, if_pos ⟨h.1, by simp [least]; omega, h.2.2⟩]) (by decide)
      · exact fin_err (by rw [hD, if_neg (fun q => h ⟨q.1.2, q.2⟩)]) (by rw [hS, if_neg (fun q => h ⟨q.1, by have := q.2.1; simp [least] at this; omega, q.2.2⟩)]) (by omega)
end Go.Proofs.YtpepgmccbkkaaaaGreatDoor

/- The document's code points against Go's: which texts are UTF-8, how many points, which. -/
namespace Go.Proofs.YtpepgmccbkkaaaaGreatDoor
open Go Go.RowKit
set_option maxRecDepth 10000

theorem decL_N (l : List UInt8) : Lib.decodeL l = decN l := Lib.decodeL_N l

theorem valid_go : ∀ (n : Nat) (l : List UInt8), l.length ≤ n → (Lib.validGoD n l = true ↔ (ptsL l).2 = l.length)
  | 0, l, h => by
    have : l = [] := List.eq_nil_of_length_eq_zero (by omega)
    subst this
    simp [Lib.validGoD, ptsL_nil]
  | n + 1, [], _ => by simp [Lib.validGoD, ptsL_nil]
  | n + 1, a :: r, h => by
    have hne : a :: r ≠ [] := by simp
    rw [Lib.validGoD, if_neg hne, decL_N]
    rcases size_ok a r with ⟨h1, h2⟩ | ⟨h1, h2, h3⟩
    · rw [h2, if_pos ⟨rfl, rfl⟩, ptsL_bad h1]
      simp
    · have hle := (sizeL_le (a :: r)).1
      rw [if_neg h3, ← h1, ptsL_step hne (by omega), valid_go n _ (by simp; simp at h; omega)]
      simp only [List.length_drop]
      omega

theorem valid_pts (l : List UInt8) : Lib.validD l = true ↔ (ptsL l).2 = l.length := valid_go l.length l (Nat.le_refl _)

/-- the points of a text -/
def runesL (l : List UInt8) : List Int :=
  if h : l = [] ∨ sizeL l = 0 then [] else ((decN l).1 : Int) :: runesL (l.drop (sizeL l))
termination_by l.length
decreasing_by
  have h1 : l ≠ [] := fun e => h (.inl e)
  have h2 : sizeL l ≠ 0 := fun e => h (.inr e)
  have := List.length_pos_iff.2 h1
  simp
  omega

theorem runesL_nil : runesL [] = [] := by rw [runesL]; simp
theorem runesL_step {l : List UInt8} (h0 : l ≠ []) (h : sizeL l ≠ 0) : runesL l = ((decN l).1 : Int) :: runesL (l.drop (sizeL l)) := by
  rw [runesL, dif_neg (by rintro (q | q) <;> contradiction)]

/-- each point is written as it was read -/
theorem runes_enc : ∀ (n : Nat) (l : List UInt8), l.length ≤ n → (runesL l).map Lib.encodeRune = (ptsL l).1
  | 0, l, h => by
    have : l = [] := List.eq_nil_of_length_eq_zero (by omega)
    subst this
    simp [runesL_nil, ptsL_nil]
  | n + 1, [], _ => by simp [runesL_nil, ptsL_nil]
  | n + 1, a :: r, h => by
    have hne : a :: r ≠ [] := by simp
    rcases size_ok a r with ⟨h1, h2⟩ | ⟨h1, h2, h3⟩
    · rw [ptsL_bad h1, runesL, dif_pos (.inr h1)]
      rfl
    · rw [runesL_step hne (by omega), ptsL_step hne (by omega), List.map_cons, runes_enc n _ (by simp; simp at h; omega)]
      have he := Lib.encode_decode (a :: r) hne (by rw [decL_N]; exact h3)
      rw [decL_N] at he
      rw [he, h1]

theorem dec_at (s : ByteArray) (i : Nat) (hi : i < s.size) : Utf8.decode s i = decN (s.data.toList.drop i) := by
  rw [Lib.decode_at]
  unfold decN
  have e : ∀ k, s.get! (i + k) = (s.data.toList.drop i).getD k 0 := fun k => by
    rw [List.getD_eq_getElem?_getD, List.getElem?_drop]
    by_cases hk : i + k < s.size
    · rw [List.getElem?_eq_getElem (by simpa using hk)]
      show s.data[i + k]! = _
      rw [getElem!_pos s.data (i + k) (by simpa using hk)]
      simp
    · rw [List.getElem?_eq_none (by simp; omega)]
      show s.data[i + k]! = _
      rw [getElem!_neg s.data (i + k) (by simpa using hk)]
      rfl
  have e0 := e 0
  rw [Nat.add_zero] at e0
  rw [e0, e 1, e 2, e 3]
  simp

theorem count_pts (s : ByteArray) : ∀ (fuel pos : Nat), s.size - pos ≤ fuel → pos ≤ s.size → (ptsL (s.data.toList.drop pos)).2 = s.size - pos → Lib.runeCountFrom s fuel pos = (ptsL (s.data.toList.drop pos)).1.length ∧
      ∀ acc, Conv.runesFrom s fuel pos acc = acc ++ ((runesL (s.data.toList.drop pos)).map (Value.int .i32)).toArray
  | 0, pos, h, hp, hv => by
    have hz : s.data.toList.drop pos = [] := List.drop_of_length_le (by simp; omega)
    rw [hz, ptsL_nil, runesL_nil]
    exact ⟨rfl, fun acc => by simp [Conv.runesFrom]⟩
  | fuel + 1, pos, h, hp, hv => by
    by_cases hlt : pos < s.size
    · have hne : s.data.toList.drop pos ≠ [] := by simp; omega
      have hd := dec_at s pos hlt
      have hok : sizeOk (s.data.toList.drop pos) := by
        cases hl : s.data.toList.drop pos with
        | nil => exact absurd hl hne
        | cons a r => exact size_ok a r
      rcases hok with ⟨h1, h2⟩ | ⟨h1, h2, h3⟩
      · rw [ptsL_bad h1] at hv
        simp at hv
        omega
      · have hle := (sizeL_le (s.data.toList.drop pos)).1
        simp only [List.length_drop, size_toList] at hle
        rw [ptsL_step hne (by omega)] at hv
        have hdd : (s.data.toList.drop pos).drop (sizeL (s.data.toList.drop pos)) = s.data.toList.drop (pos + sizeL (s.data.toList.drop pos)) := by rw [List.drop_drop]
        rw [hdd] at hv
        have ih := count_pts s fuel (pos + sizeL (s.data.toList.drop pos)) (by omega) (by omega) (by simp at hv; omega)
        rw [ptsL_step hne (by omega), runesL_step hne (by omega), hdd]
        constructor
        · rw [Lib.runeCountFrom, if_pos hlt, hd, ← h1, ih.1]
          simp; omega
        · intro acc
          rw [Conv.runesFrom, if_pos hlt, hd]
          dsimp only
          rw [← h1, ih.2]
          simp
    · have hz : s.data.toList.drop pos = [] := List.drop_of_length_le (by simp; omega)
      rw [hz, ptsL_nil, runesL_nil]
      exact ⟨by rw [Lib.runeCountFrom, if_neg hlt]; rfl, fun acc => by rw [Conv.runesFrom, if_neg hlt]; simp⟩
end Go.Proofs.YtpepgmccbkkaaaaGreatDoor

/- numfmt.Read: which locales the program takes. -/
namespace Go.Proofs.YtpepgmccbkkaaaaGreatDoor
open Go Go.RowKit
set_option maxRecDepth 10000

/-- blocks below lo, and those from hi on that were there, are as they were -/
def Agree (lo hi : Nat) (A B : World) : Prop := A.heap.size ≤ B.heap.size ∧ ∀ j, j < lo ∨ (hi ≤ j ∧ j < A.heap.size) → B.heap[j]? = A.heap[j]?

/-- plural.Read of a list of rules, from some world on: does it take them; what holds of its set, as long as nothing writes into it -/
def PReadAt (w : World) (c : Value) (r : Bool) (Q : World → Value → Prop) : Prop :=
  ∀ W, Below w.heap.size w W → Calls Tryz.prog 34 #[c] W fun e W' => (∃ a n k, e = .returned (.tuple #[.slice a n k, .bool r]) ∧ ∀ W2, Agree w.heap.size W.heap.size W' W2 → Q W2 (.slice a n k)) ∧ Below W.heap.size W W'

set_option maxHeartbeats 1000000 in
theorem pread_nil (w : World) : PReadAt w (.slice none 0 0) true (fun _ v => v = .slice none 0 0) := by
  intro W hW
  have hmm := @run_makeMap Tryz.prog
  go_enter Tryz.func34, Tryz.ntmps34
  go_wp2
  obtain ⟨w1, hrun, hown1, hgrow⟩ := (World.ownsMap_made (H := Unit) W Tryz.prog 9 (plainElem Tryz.prog 3)).update (Maps.string_keyed Tryz.underlying9) Tryz.underlying115 (by unfold maxLen; omega) (WideMaps.keyOf_string_mk (s := ⟨#[111, 116, 104, 101, 114]⟩) Tryz.underlying9 (by decide)) (plainElem_int Tryz.underlying3 (q := .i64) (a := 1) (by decide))
  rw [hrun]
  simp only [Result.andThen]
  have hb : Below W.heap.size W w1 := ((Below.refl _ _).alloc (Nat.le_refl _) _).grown hgrow (by simp) (fun j hj => by cases hj; exact Nat.le_refl _)
  clear hrun hown1 hgrow
  go_wp2
  go_loopw [2, 13] (fun o i wr => o = .slice none 0 0 ∧ i = .int .i64 0 ∧ wr = w1) (fun _ _ _ => 0)
  case atStart => exact ⟨rfl, rfl, rfl⟩
  case round =>
    obtain ⟨rfl, rfl, rfl⟩ := hrel
    go_wp2
    go_ret2
    exact ⟨⟨_, _, _, rfl, fun _ _ => rfl⟩, hb⟩
end Go.Proofs.YtpepgmccbkkaaaaGreatDoor

/- phrasesref.shown: digits as a locale has them. -/
namespace Go.Proofs.YtpepgmccbkkaaaaGreatDoor
open Go Go.RowKit

/-- a locale's value -/
abbrev locv (c o : Value) (mi po gr fi ne : Int) (dg : ByteArray) : Value :=
  .agg #[c, o, .int .i32 mi, .int .i32 po, .int .i32 gr, .int .u8 fi, .int .u8 ne, .string dg]

/-- digits by a list of signs; of no list: themselves -/
def shownL (pts : List (List UInt8)) (ds : List UInt8) : List UInt8 :=
  if pts = [] then ds else ds.flatMap (fun c => pts.getD (c.toNat - 48) [])

theorem shownL_snoc {pts : List (List UInt8)} (h : pts ≠ []) (ds : List UInt8) (c : UInt8) : shownL pts (ds ++ [c]) = shownL pts ds ++ pts.getD (c.toNat - 48) [] := by
  simp [shownL, h]

/-- each code point is at most four bytes long -/
theorem ptsL_mem (l : List UInt8) : ∀ p ∈ (ptsL l).1, p.length ≤ 4 := by
  induction hn : l.length using Nat.strongRecOn generalizing l with
  | _ n ih =>
    intro p hp
    by_cases h : l = [] ∨ sizeL l = 0
    · rw [ptsL, dif_pos h] at hp; simp at hp
    · simp only [not_or] at h
      rw [ptsL_step h.1 h.2] at hp
      have hl := List.length_pos_iff.2 h.1
      rcases List.mem_cons.1 hp with rfl | hp
      · have := sizeL_le l; simp; omega
      · exact ih (l.drop (sizeL l)).length (by simp; omega) _ rfl p hp

theorem shownL_length (pts : List (List UInt8)) (h : ∀ p ∈ pts, p.length ≤ 4) (ds : List UInt8) : (shownL pts ds).length ≤ 4 * ds.length := by
  unfold shownL
  split
  · omega
  · induction ds with
    | nil => simp
    | cons c ds ih =>
      have hc : (pts.getD (c.toNat - 48) []).length ≤ 4 := by
        by_cases hlt : c.toNat - 48 < pts.length
        · rw [List.getD_eq_getElem?_getD, List.getElem?_eq_getElem hlt]; exact h _ (List.getElem_mem _)
        · rw [List.getD_eq_getElem?_getD, List.getElem?_eq_none (by omega)]; simp
      rw [List.flatMap_cons, List.length_append, List.length_cons]
      have := ih
      omega

theorem all_dig_getElem {s : ByteArray} (h : s.data.toList.all isDig = true) (k : Nat) (hk : k < s.size) : isDig s[k] = true := by
  rw [← getElem_toList s k hk]
  exact List.all_eq_true.1 h _ (List.getElem_mem _)

def ShownPost (pts : List (List UInt8)) (ds : List UInt8) (w : World) (e : Ending) (w' : World) : Prop :=
  e = .returned (strv (shownL pts ds)) ∧ Below w.heap.size w w'

set_option maxHeartbeats 800000 in
theorem shown_any (s : ByteArray) (c o : Value) (mi po gr fi ne : Int) (dg : ByteArray) (w : World) (hs : s.size ≤ 1000000) (hd : dg.size ≤ 1000000)
    (hdig : s.data.toList.all isDig = true) (h10 : (ptsL dg.data.toList).1 = [] ∨ (ptsL dg.data.toList).1.length = 10) :
    Calls Tryz.prog 25 #[.string s, locv c o mi po gr fi ne dg] w (ShownPost (ptsL dg.data.toList).1 s.data.toList w) := by
  have hpl := ptsL_mem dg.data.toList
  go_enter Tryz.func25, Tryz.ntmps25
  go_wp2_with fail
  refine (points_any _ _ (by omega)).mono ?_
  rintro e w1 ⟨v, rfl, hown, hb⟩
  generalize (ptsL dg.data.toList).1 = pts at *
  generalize (ptsL dg.data.toList).2 = np at *
  rcases h10 with rfl | h10
  · obtain ⟨a, cap, rfl⟩ := own_slice hown
    go_wp2
    go_ret
    refine ⟨ret_val ?_, ((Below.refl _ _).alloc (Nat.le_refl _) _).trans (hb.mono (by simp))⟩
    simp [shownL]
  · obtain ⟨g, cap, rfl, hg1, hg2, hcell⟩ := own_some hown (by omega)
    have hne : pts ≠ [] := by intro h; simp [h] at h10
    have h00 : (((pts.length : Nat) : Int) == 0) = false := by simp [h10]
    have hc1 : ∀ j, j < 10 → w1.cell? ⟨g, j, none⟩ = some (strv (pts.getD j [])) := by
      intro j hj
      rw [hcell j (by omega)]
      simp [List.getD_eq_getElem?_getD, List.getElem?_eq_getElem (show j < pts.length by omega)]
    have h10a : (10 : Int) ≤ (pts.length : Int) := by omega
    have hp4 : ∀ j : Nat, (pts[j]?.getD []).length ≤ 4 := by
      intro j
      by_cases hlt : j < pts.length
      · rw [List.getElem?_eq_getElem hlt]; exact hpl _ (List.getElem_mem _)
      · rw [List.getElem?_eq_none (by omega)]; simp
    have Hne := Lib.hid hne
    have Hp4 := Lib.hid hp4
    clear hne h10 hcell hown hp4
    go_wp2
    go_loop [7, 8] (fun t i => ∃ k : Nat, k ≤ s.size ∧ i = .int .i64 k ∧ t = strv (shownL pts (s.data.toList.take k))) (fun _ i => s.size - (intOf i).toNat)
    case atStart => exact ⟨0, by omega, rfl, by simp [shownL]⟩
    case round =>
      obtain ⟨k, hk, rfl, rfl⟩ := hrel
      have hl := shownL_length pts hpl (s.data.toList.take k)
      have hl2 : (s.data.toList.take k).length ≤ s.size := by simp; omega
      by_cases hlt : k < s.size
      · have hd := (isDig_iff _).1 (all_dig_getElem hdig k hlt)
        have hcx := hc1 (s[k].toNat - 48) (by omega)
        have hp := Hp4.out (s[k].toNat - 48)
        have hsn := shownL_snoc Hne.out (s.data.toList.take k) s[k]
        rw [← take_snoc s k hlt] at hsn
        have Hsn := Lib.hid hsn
        clear hsn
        go_wp2
        go_round
        case rel => exact ⟨k + 1, by omega, by go_num, by rw [Hsn.out, append_mk]; simp⟩
        case measure => simp [intOf]; omega
      · obtain rfl : k = s.size := by omega
        go_wp2
        go_ret
        rw [take_all]
        exact ⟨rfl, ((Below.refl _ _).alloc (Nat.le_refl _) _).trans (hb.mono (by simp))⟩
end Go.Proofs.YtpepgmccbkkaaaaGreatDoor

/- phrasesref's (Num).Written: a number as a locale writes it. -/
namespace Go.Proofs.YtpepgmccbkkaaaaGreatDoor
open Go Go.RowKit
set_option maxRecDepth 10000

/-- digits with groups, from the right end: the first of n digits, the others of nx -/
def grpL (pts : List (List UInt8)) (g : List UInt8) (nx : Nat) (w : List UInt8) (n : Nat) : List UInt8 :=
  if h : 0 < n ∧ n < w.length then grpL pts g nx (w.take (w.length - n)) nx ++ g ++ shownL pts (w.drop (w.length - n)) else shownL pts w
  termination_by w.length
  decreasing_by simp; omega

theorem grpL_step {pts : List (List UInt8)} {g : List UInt8} {nx : Nat} {w : List UInt8} {n : Nat} (h : 0 < n ∧ n < w.length) :
    grpL pts g nx w n = grpL pts g nx (w.take (w.length - n)) nx ++ g ++ shownL pts (w.drop (w.length - n)) := by rw [grpL, dif_pos h]
theorem grpL_end {pts : List (List UInt8)} {g : List UInt8} {nx : Nat} {w : List UInt8} {n : Nat} (h : ¬ (0 < n ∧ n < w.length)) :
    grpL pts g nx w n = shownL pts w := by rw [grpL, dif_neg h]

/-- a code point's bytes -/
def enc (r : Int) : List UInt8 := (Utf8.encode r).data.toList

theorem enc_length (r : Int) : (enc r).length ≤ 4 ∧ (Utf8.encode r).size ≤ 4 := by
  have h : (Utf8.encode r).size ≤ 4 := by
    unfold Utf8.encode
    simp only []
    generalize (if Utf8.valid r = true then r.toNat else Utf8.runeError) = x
    split
    · exact (by decide : 1 ≤ 4)
    split
    · exact (by decide : 2 ≤ 4)
    split
    · exact (by decide : 3 ≤ 4)
    · exact (by decide : 4 ≤ 4)
  exact ⟨by simpa [enc] using h, h⟩

/-- a number as a locale writes it -/
def writtenL (below : Bool) (whole frac : List UInt8) (pts : List (List UInt8)) (mi po gr : Int) (fi ne : Nat) : List UInt8 :=
  (if below then enc mi else []) ++ grpL pts (enc gr) (if ne = 0 then fi else ne) whole (if gr = 0 then 0 else fi) ++
    (if frac = [] then [] else enc po ++ shownL pts frac)

def WrittenPost (t : List UInt8) (w : World) (e : Ending) (w' : World) : Prop :=
  e = .returned (strv t) ∧ Below w.heap.size w w'

/-- the cells of a locale in a block -/
structure LocAt (w : World) (b : Nat) (c o : Value) (mi po gr fi ne : Int) (dg : ByteArray) : Prop where
  c0 : w.cell? ⟨b, 0, none⟩ = some c
  c1 : w.cell? ⟨b, 1, none⟩ = some o
  c2 : w.cell? ⟨b, 2, none⟩ = some (.int .i32 mi)
  c3 : w.cell? ⟨b, 3, none⟩ = some (.int .i32 po)
  c4 : w.cell? ⟨b, 4, none⟩ = some (.int .i32 gr)
  c5 : w.cell? ⟨b, 5, none⟩ = some (.int .u8 fi)
  c6 : w.cell? ⟨b, 6, none⟩ = some (.int .u8 ne)
  c7 : w.cell? ⟨b, 7, none⟩ = some (.string dg)

theorem LocAt.below {w w' : World} {B b : Nat} {c o : Value} {mi po gr fi ne : Int} {dg : ByteArray} (h : LocAt w b c o mi po gr fi ne dg) (hb : Below B w w') (hlt : b < B) : LocAt w' b c o mi po gr fi ne dg :=
  ⟨(hb.cell (p := ⟨b, 0, none⟩) hlt).trans h.c0, (hb.cell (p := ⟨b, 1, none⟩) hlt).trans h.c1, (hb.cell (p := ⟨b, 2, none⟩) hlt).trans h.c2, (hb.cell (p := ⟨b, 3, none⟩) hlt).trans h.c3,
   (hb.cell (p := ⟨b, 4, none⟩) hlt).trans h.c4, (hb.cell (p := ⟨b, 5, none⟩) hlt).trans h.c5, (hb.cell (p := ⟨b, 6, none⟩) hlt).trans h.c6, (hb.cell (p := ⟨b, 7, none⟩) hlt).trans h.c7⟩

theorem LocAt.drew {w : World} {b : Nat} {c o : Value} {mi po gr fi ne : Int} {dg : ByteArray} (h : LocAt w b c o mi po gr fi ne dg) : LocAt w.drew b c o mi po gr fi ne dg :=
  ⟨h.c0, h.c1, h.c2, h.c3, h.c4, h.c5, h.c6, h.c7⟩

/-- the size of a text in a slot -/
def szOf : Value → Nat | .string v => v.size | _ => 0

/-- the loop's relation -/
def WrRel (s : ByteArray) (pts : List (List UInt8)) (gr : Int) (fi nx : Nat) (B : Nat) (w0 : World) (t u n : Value) (wr : World) : Prop :=
  ∃ (tt : List UInt8) (v : ByteArray) (k : Nat), t = strv tt ∧ u = .string v ∧ n = .int .i64 k ∧ v.size ≤ s.size ∧ v.data.toList.all isDig = true ∧ k ≤ 255 ∧ tt.length + 8 * v.size ≤ 8 * s.size ∧
    (0 < k → 0 < fi) ∧ grpL pts (enc gr) nx s.data.toList (if gr = 0 then 0 else fi) = grpL pts (enc gr) nx v.data.toList (if gr = 0 then 0 else k) ++ tt ∧ Below B w0 wr

theorem toList_eq (s : ByteArray) : s.toList = s.data.toList := by
  exact Go.ByteArray.toList_eq s

theorem empty_of {s : ByteArray} (h : (!s.toList.isEmpty) = false) : s.data.toList = [] := by
  rw [toList_eq] at h
  cases hs : s.data.toList with
  | nil => rfl
  | cons a l => rw [hs] at h; simp at h

theorem nonempty_of {s : ByteArray} (h : (!s.toList.isEmpty) = true) : s.data.toList ≠ [] := by
  rw [toList_eq] at h
  intro h0
  rw [h0] at h; simp at h

theorem enc_app (r : Int) (a b : List UInt8) : Utf8.encode r ++ ByteArray.mk a.toArray ++ ByteArray.mk b.toArray = ByteArray.mk (enc r ++ a ++ b).toArray := by
  rw [← append_mk, ← append_mk]; rfl

theorem wrRel_step {s : ByteArray} {pts : List (List UInt8)} {gr : Int} {fi ne nx B : Nat} {w0 w1 : World} {tt : List UInt8} {v : ByteArray} {k : Nat} (hp : ∀ p ∈ pts, p.length ≤ 4)
    (hv : v.size ≤ s.size) (hvd : v.data.toList.all isDig = true) (htt : tt.length + 8 * v.size ≤ 8 * s.size) (hnx : nx = if ne = 0 then fi else ne) (hne : ne ≤ 255) (hfi : fi ≤ 255)
    (g1 : 0 < k) (g2 : gr ≠ 0) (g3 : k < v.size) (hk0 : 0 < k → 0 < fi)
    (hG : grpL pts (enc gr) nx s.data.toList (if gr = 0 then 0 else fi) = grpL pts (enc gr) nx v.data.toList (if gr = 0 then 0 else k) ++ tt) (hb : Below B w0 w1) :
    WrRel s pts gr fi nx B w0 (strv (enc gr ++ shownL pts (v.data.toList.drop (v.size - k)) ++ tt)) (.string (v.extract 0 (v.size - k))) (.int .i64 (nx : Int)) w1 := by
  have e1 : (v.extract 0 (v.size - k)).data.toList = v.data.toList.take (v.size - k) := by rw [extract_take]
  have e2 : (v.extract 0 (v.size - k)).size = v.size - k := by rw [← size_toList, e1]; simp
  have hl := shownL_length pts hp (v.data.toList.drop (v.size - k))
  have hl2 : (v.data.toList.drop (v.size - k)).length = k := by simp; omega
  have hg := (enc_length gr).1
  refine ⟨_, _, nx, rfl, rfl, rfl, by omega, ?_, ?_, ?_, ?_, ?_, hb⟩
  · rw [e1]; exact List.all_eq_true.2 fun x hx => List.all_eq_true.1 hvd x (List.mem_of_mem_take hx)
  · rw [hnx]; split <;> omega
  · simp only [List.length_append]; omega
  · intro _; exact hk0 g1
  · rw [hG, if_neg g2, if_neg g2, e1, grpL_step (w := v.data.toList) ⟨g1, by simpa using g3⟩, size_toList]
    simp

set_option maxRecDepth 100000 in
set_option maxHeartbeats 800000 in
theorem written_any (below : Bool) (s f : ByteArray) (c o : Value) (mi po gr : Int) (fi ne : Nat) (dg : ByteArray) (w : World) (hs : s.size ≤ 100000) (hf : f.size ≤ 100000) (hd : dg.size ≤ 1000000)
    (hfi : fi ≤ 255) (hne : ne ≤ 255)
    (hdig : s.data.toList.all isDig = true) (hdig2 : f.data.toList.all isDig = true) (h10 : (ptsL dg.data.toList).1 = [] ∨ (ptsL dg.data.toList).1.length = 10) :
    Calls Tryz.prog 16 #[.agg #[.bool below, .string s, .string f], locv c o mi po gr fi ne dg] w
      (WrittenPost (writtenL below s.data.toList f.data.toList (ptsL dg.data.toList).1 mi po gr fi ne) w) := by
  obtain ⟨nx, hnx⟩ : ∃ nx, nx = if ne = 0 then fi else ne := ⟨_, rfl⟩
  have Hnx := Lib.hid hnx
  clear hnx
  go_enter Tryz.func16, Tryz.ntmps16
  go_wp2
  have F : ∃ W, W = (w.alloc (.cells #[.bool below, .string s, .string f] 41)).alloc (.cells #[c, o, .int .i32 mi, .int .i32 po, .int .i32 gr, .int .u8 fi, .int .u8 ne, .string dg] 25) ∧
      Below w.heap.size w W ∧ W.heap.size = w.heap.size + 2 ∧ LocAt W (w.heap.size + 1) c o mi po gr fi ne dg ∧
      W.cell? ⟨w.heap.size, 0, none⟩ = some (.bool below) ∧ W.cell? ⟨w.heap.size, 2, none⟩ = some (.string f) :=
    ⟨_, rfl, ((Below.refl _ _).alloc (Nat.le_refl _) _).alloc (by simp) _, by simp, ⟨by go_simp, by go_simp, by go_simp, by go_simp, by go_simp, by go_simp, by go_simp, by go_simp⟩, by go_simp, by go_simp⟩
  obtain ⟨W, hW, hb, hsz, hL, hx0, hx2⟩ := F
  rw [← hW]
  clear hW
  go_loopw [5, 6, 7] (fun t u n wr => WrRel s (ptsL dg.data.toList).1 gr fi nx W.heap.size W t u n wr) (fun _ u _ _ => szOf u)
  case atStart => exact ⟨[], s, fi, rfl, rfl, rfl, Nat.le_refl _, hdig, hfi, by simp, fun h => h, by simp, Below.refl _ _⟩
  case round =>
    obtain ⟨tt, v, k, rfl, rfl, rfl, hv, hvd, hk, htt, hk0, hG, hbr⟩ := hrel
    have HG := Lib.hid hG
    clear hG
    have hLr := hL.below hbr (by omega)
    have k0 := hLr.c0
    have k1 := hLr.c1
    have k2 := hLr.c2
    have k3 := hLr.c3
    have k4 := hLr.c4
    have k5 := hLr.c5
    have k6 := hLr.c6
    have k7 := hLr.c7
    by_cases hgo : 0 < k ∧ gr ≠ 0 ∧ k < v.size
    · obtain ⟨g1, g2, g3⟩ := hgo
      have g2' : (gr != 0) = true := by simpa using g2
      go_wp2_with fail
      have e1 : (v.extract (v.size - k) v.size).data.toList = v.data.toList.drop (v.size - k) := by rw [extract_drop]
      have hsh : ∀ (W' : World), True → Calls Tryz.prog 25 #[.string (v.extract (v.size - k) v.size), locv c o mi po gr fi ne dg] W' (ShownPost (ptsL dg.data.toList).1 (v.data.toList.drop (v.size - k)) W') := by
        intro W' _
        rw [← e1]
        exact shown_any _ _ _ _ _ _ _ _ _ W' (by simp; omega) hd (by rw [e1]; exact List.all_eq_true.2 fun x hx => List.all_eq_true.1 hvd x (List.mem_of_mem_drop hx)) h10
      have b1 : (0 : Int) ≤ (v.size : Int) - (k : Int) := by omega
      have b2 : (v.size : Int) - (k : Int) ≤ (v.size : Int) := by omega
      have b3 : ((v.size : Int) - (k : Int)).toNat = v.size - k := by omega
      have b5 : k ≤ v.size := by omega
      have b4 : IntKind.i64.wrap ((v.size : Int) - (k : Int)) = (v.size : Int) - (k : Int) := IntWalk.i64_in _ (by omega)
      have Hsh := Lib.hid hsh
      clear hsh e1
      go_wp2_with fail
      go_still_tail 7, (by kernel_rfl)
      change wpList _ _ _ _ _ wr.drew
      go_wp2_with fail
      refine (Hsh.out _ trivial).mono ?_
      rintro e w1 ⟨rfl, hb1⟩
      have hb1' : Below W.heap.size W w1 := hbr.trans ((show Below wr.heap.size wr w1 from ⟨hb1.os, hb1.tape, hb1.output, hb1.size, hb1.block⟩).mono hbr.size)
      have hL1 := hL.below hb1' (by omega)
      have q4 := hL1.c4
      have q5 := hL1.c5
      have q6 := hL1.c6
      have hg4 := (enc_length gr).2
      have hl := shownL_length (ptsL dg.data.toList).1 (ptsL_mem _) (v.data.toList.drop (v.size - k))
      have hl2 : (v.data.toList.drop (v.size - k)).length = k := by simp; omega
      have hstep := fun (hnx : nx = if ne = 0 then fi else ne) => wrRel_step (B := W.heap.size) (w0 := W) (w1 := w1) (ptsL_mem dg.data.toList) hv hvd htt hnx hne hfi g1 g2 g3 hk0 HG.out hb1'
      have Hstep := Lib.hid hstep
      clear hstep hvd
      by_cases he : ne = 0
      · have he' : ((ne : Int) == 0) = true := by simpa using he
        have hn1 : nx = fi := by rw [Hnx.out, if_pos he]
        have Hn1 := Lib.hid hn1
        clear he hn1
        go_wp2
        go_roundw
        case rel => rw [enc_app, show ((fi : Nat) : Int) = (nx : Int) from by rw [Hn1.out]]; exact Hstep.out Hnx.out
        case measure => simp [szOf]; omega
      · have he' : ((ne : Int) == 0) = false := by simpa using he
        have hn1 : nx = ne := by rw [Hnx.out, if_neg he]
        have Hn1 := Lib.hid hn1
        clear he hn1
        go_wp2
        go_roundw
        case rel => rw [enc_app, show ((ne : Nat) : Int) = (nx : Int) from by rw [Hn1.out]]; exact Hstep.out Hnx.out
        case measure => simp [szOf]; omega
    · have hend : grpL (ptsL dg.data.toList).1 (enc gr) nx v.data.toList (if gr = 0 then 0 else k) = shownL (ptsL dg.data.toList).1 v.data.toList := by
        refine grpL_end ?_
        rw [size_toList]
        by_cases hg : gr = 0
        · rw [if_pos hg]; omega
        · rw [if_neg hg]; omega
      have hgo' : ¬ (0 < k) ∨ (0 < k ∧ (gr != 0) = false) ∨ (0 < k ∧ (gr != 0) = true ∧ ¬ (k < v.size)) := by
        by_cases h1 : 0 < k
        · by_cases h2 : gr = 0
          · exact .inr (.inl ⟨h1, by simp [h2]⟩)
          · exact .inr (.inr ⟨h1, by simpa using h2, fun h => hgo ⟨h1, h2, h⟩⟩)
        · exact .inl h1
      have Hend := Lib.hid hend
      have hx0' := (hbr.cell (p := ⟨w.heap.size, 0, none⟩) (by show w.heap.size < W.heap.size; omega)).trans hx0
      have hx2' := (hbr.cell (p := ⟨w.heap.size, 2, none⟩) (by show w.heap.size < W.heap.size; omega)).trans hx2
      have hsh := shown_any v c o mi po gr fi ne dg wr (by omega) hd hvd h10
      have Hsh := Lib.hid hsh
      have hl := shownL_length (ptsL dg.data.toList).1 (ptsL_mem _) v.data.toList
      rw [size_toList] at hl
      have hlf := shownL_length (ptsL dg.data.toList).1 (ptsL_mem _) f.data.toList
      rw [size_toList] at hlf
      have hgm := (enc_length mi).2
      have hgp := (enc_length po).2
      clear hgo hend hsh
      have hW : writtenL below s.data.toList f.data.toList (ptsL dg.data.toList).1 mi po gr fi ne =
          (if below then enc mi else []) ++ (shownL (ptsL dg.data.toList).1 v.data.toList ++ tt) ++ (if f.data.toList = [] then [] else enc po ++ shownL (ptsL dg.data.toList).1 f.data.toList) := by
        unfold writtenL
        rw [← Hnx.out, HG.out, Hend.out]
      have HW := Lib.hid hW
      have hshf := fun W' => shown_any f c o mi po gr fi ne dg W' (by omega) hd hdig2 h10
      have Hshf := Lib.hid hshf
      clear hW hshf
      rcases hgo' with h1 | ⟨h1, h2⟩ | ⟨h1, h2, h3⟩
      all_goals
        go_wp2_with fail
        refine (Hsh.out).mono ?_
        rintro e w2 ⟨rfl, hb2⟩
        have hL2 := hLr.below hb2 (by have := hbr.size; omega)
        have q2 := hL2.c2
        have q3 := hL2.c3
        have q0 := hL2.c0
        have q1 := hL2.c1
        have q4 := hL2.c4
        have q5 := hL2.c5
        have q6 := hL2.c6
        have q7 := hL2.c7
        have hx02 := (hb2.cell (p := ⟨w.heap.size, 0, none⟩) (by show w.heap.size < wr.heap.size; have := hbr.size; omega)).trans hx0'
        have hx22 := (hb2.cell (p := ⟨w.heap.size, 2, none⟩) (by show w.heap.size < wr.heap.size; have := hbr.size; omega)).trans hx2'
        clear hL2 hLr k0 k1 k2 k3 k4 k5 k6 k7 hx0' hx2'
        have hbw : Below w.heap.size w w2 := hb.trans ((hbr.mono (by omega)).trans (hb2.mono (by have := hbr.size; omega)))
        go_wp2_with fail
        · have hb1 : below = true := by assumption
          have hf1 : (!f.toList.isEmpty) = true := by assumption
          refine (Hshf.out _).mono ?_
          rintro e w3 ⟨rfl, hb3⟩
          have r3 := (hb3.cell (p := ⟨w.heap.size + 1, 3, none⟩) (by show w.heap.size + 1 < w2.heap.size; have := hbr.size; have := hb2.size; omega)).trans q3
          go_wp2
          go_ret
          refine ⟨ret_val ?_, hbw.trans (hb3.mono hbw.size)⟩
          rw [HW.out, if_pos hb1, if_neg (nonempty_of hf1)]
          refine congrArg Value.string ?_
          apply ByteArray.ext
          simp [enc, ByteArray.data_append]
        · have hb1 : below = true := by assumption
          have hf1 : (!f.toList.isEmpty) = false := by assumption
          go_ret
          refine ⟨ret_val ?_, hbw⟩
          rw [HW.out, if_pos hb1, if_pos (empty_of hf1)]
          refine congrArg Value.string ?_
          apply ByteArray.ext
          simp [enc, ByteArray.data_append]
        · have hb1 : below = false := by assumption
          have hf1 : (!f.toList.isEmpty) = true := by assumption
          refine (Hshf.out _).mono ?_
          rintro e w3 ⟨rfl, hb3⟩
          have r3 := (hb3.cell (p := ⟨w.heap.size + 1, 3, none⟩) (by show w.heap.size + 1 < w2.heap.size; have := hbr.size; have := hb2.size; omega)).trans q3
          go_wp2
          go_ret
          refine ⟨ret_val ?_, hbw.trans (hb3.mono hbw.size)⟩
          rw [HW.out, if_neg (by rw [hb1]; simp), if_neg (nonempty_of hf1)]
          refine congrArg Value.string ?_
          apply ByteArray.ext
          simp [enc, ByteArray.data_append]
        · have hb1 : below = false := by assumption
          have hf1 : (!f.toList.isEmpty) = false := by assumption
          go_ret
          refine ⟨ret_val ?_, hbw⟩
          rw [HW.out, if_neg (by rw [hb1]; simp), if_pos (empty_of hf1)]
          refine congrArg Value.string ?_
          apply ByteArray.ext
          simp [ByteArray.data_append]
end Go.Proofs.YtpepgmccbkkaaaaGreatDoor

/- phrasesref.categories. -/
namespace Go.Proofs.YtpepgmccbkkaaaaGreatDoor
open Go Go.RowKit
set_option maxRecDepth 10000

def catsL : List (List UInt8) := [[122, 101, 114, 111], [111, 110, 101], [116, 119, 111], [102, 101, 119], [109, 97, 110, 121], [111, 116, 104, 101, 114]]

def CatsPost (w : World) (e : Ending) (w' : World) : Prop :=
  ∃ v, e = .returned v ∧ w'.ownsRow w.heap.size 9 1 v 6 (catsL.map strv) ∧ Below w.heap.size w w'

theorem categories_any (w : World) : Calls Tryz.prog 30 #[] w (CatsPost w) := by
  go_enter Tryz.func30, Tryz.ntmps30
  go_wp2
  go_ret
  exact ⟨_, rfl, World.ownsRow_lit w _ 6 (Nat.le_refl _) (by decide) rfl, (Below.refl _ _).alloc (Nat.le_refl _) _⟩
end Go.Proofs.YtpepgmccbkkaaaaGreatDoor

/- phrasesref.Known, of rules whose answer is known; rules that are none at all. -/
namespace Go.Proofs.YtpepgmccbkkaaaaGreatDoor
open Go Go.RowKit
set_option maxRecDepth 10000

/-- what Ruled answers of a slice of rules, in every later world -/
def RuledAt (w : World) (c : Value) (r : Bool) : Prop :=
  ∀ w', Below w.heap.size w w' → Calls Tryz.prog 19 #[c] w' fun e w'' => e = .returned (.bool r) ∧ Below w'.heap.size w' w''

theorem RuledAt.later {w w' : World} {c : Value} {r : Bool} (h : RuledAt w c r) (hb : Below w.heap.size w w') : RuledAt w' c r :=
  fun w'' hb' => h w'' (hb.trans (hb'.mono hb.size))

theorem ruled_nil (w : World) : RuledAt w (.slice none 0 0) true := by
  intro w' _
  go_enter Tryz.func19, Tryz.ntmps19
  go_wp2_with fail
  refine (categories_any _).mono ?_
  rintro e w1 ⟨v, rfl, hown, hb⟩
  clear hown
  go_wp2
  refine wp_loop_rounds 1 ?_
  rw [rounds_succ]
  go_wp2
  go_ret
  exact ⟨rfl, hb⟩

def knownL (ra rb : Bool) (mi po gr fi ne : Int) (dg : List UInt8) : Bool :=
  ra && (rb && (isPt mi && (isPt po && (isPt gr && (!(mi == 0) && (!(po == 0) && (decide (((ptsL dg).2 : Int) = (dg.length : Int)) && ((decide (¬ 0 < dg.length) || !(((ptsL dg).1.length : Int) != 10)) && (decide (fi ≤ 9) && decide (ne ≤ 9))))))))))

set_option maxHeartbeats 1000000 in
theorem known_any (c o : Value) (ra rb : Bool) (mi po gr fi ne : Int) (dg : ByteArray) (w : World) (hd : dg.size ≤ 1000000)
    (hc : RuledAt w c ra) (ho : RuledAt w o rb) :
    Calls Tryz.prog 14 #[locv c o mi po gr fi ne dg] w fun e w' => e = .returned (.bool (knownL ra rb mi po gr fi ne dg.data.toList)) ∧ Below w.heap.size w w' := by
  have hA := fun W' (h : Below w.heap.size w W') => hc W' h
  have HA := Lib.hid hA
  have HB := Lib.hid ho
  clear hA hc ho
  go_enter Tryz.func14, Tryz.ntmps14
  go_wp2_with fail
  have F : ∃ W, W = w.alloc (.cells #[c, o, .int .i32 mi, .int .i32 po, .int .i32 gr, .int .u8 fi, .int .u8 ne, .string dg] 25) ∧
      Below w.heap.size w W ∧ W.heap.size = w.heap.size + 1 ∧ LocAt W w.heap.size c o mi po gr fi ne dg :=
    ⟨_, rfl, (Below.refl _ _).alloc (Nat.le_refl _) _, by simp, ⟨by go_simp, by go_simp, by go_simp, by go_simp, by go_simp, by go_simp, by go_simp, by go_simp⟩⟩
  obtain ⟨W, hW, hb, hsz, hL⟩ := F
  rw [← hW]
  clear hW
  refine (HA.out _ hb).mono ?_
  rintro e w1 ⟨rfl, hb1⟩
  have hL1 := hL.below hb1 (by omega)
  have a0 := hL1.c0
  have a1 := hL1.c1
  go_wp2_with fail
  refine (HB.out _ (hb.trans (hb1.mono hb.size))).mono ?_
  rintro e w2 ⟨rfl, hb2⟩
  have hL2 := hL1.below hb2 (by have := hb1.size; omega)
  have b2 := hL2.c2
  have b3 := hL2.c3
  have b4 := hL2.c4
  have b5 := hL2.c5
  have b6 := hL2.c6
  have b7 := hL2.c7
  have hbw : Below w.heap.size w w2 := hb.trans ((hb1.mono hb.size).trans (hb2.mono (by have := hb.size; have := hb1.size; omega)))
  have hlt2 : w.heap.size < w2.heap.size := by have := hb2.size; have := hb1.size; omega
  clear hL1 a0 a1 hb2 hb1 hb
  go_wp2_with fail
  refine (point_any _ _).mono ?_
  rintro e w' ⟨rfl, rfl⟩
  go_wp2_with fail
  refine (point_any _ _).mono ?_
  rintro e w' ⟨rfl, rfl⟩
  go_wp2_with fail
  refine (point_any _ _).mono ?_
  rintro e w' ⟨rfl, rfl⟩
  go_wp2_with fail
  all_goals first | (go_ret; refine ⟨ret_val ?_, hbw⟩; simp [knownL, *]; done) | (go_ret; refine ⟨ret_val ?_, hbw⟩; have h2 : (mi == 0) = true ∨ (po == 0) = true := (by assumption); rcases h2 with h2 | h2 <;> simp [knownL, h2]; done) | skip
  refine (points_any _ _ (by omega)).mono ?_
  rintro e w3 ⟨v, rfl, hown, hb3⟩
  have hL3 := hL2.below hb3 hlt2
  have d5 := hL3.c5
  have d6 := hL3.c6
  have d7 := hL3.c7
  obtain ⟨a, cap, rfl⟩ := own_slice hown
  have hbw3 := hbw.trans (hb3.mono hbw.size)
  have e1 : dg.size = dg.data.toList.length := by simp
  have E1 := Lib.hid e1
  clear hL3 hL2 hL hown hb3 e1 b2 b3 b4 b5 b6 b7
  go_wp2_with fail
  all_goals
    go_ret
    refine ⟨ret_val ?_, hbw3⟩
    first | (simp [knownL, *]; done) | (simp [knownL, *]; intros; omega) | (simp [knownL]; intros; omega)
end Go.Proofs.YtpepgmccbkkaaaaGreatDoor

/- numfmt.Read: what it gives back, and lemmas on its worlds. -/
namespace Go.Proofs.YtpepgmccbkkaaaaGreatDoor
open Go Go.RowKit
set_option maxRecDepth 10000

/-- 0 to 9 -/
def tenL : List UInt8 := [48, 49, 50, 51, 52, 53, 54, 55, 56, 57]
/-- the digits of a locale -/
def digL (dg : List UInt8) : List UInt8 := if dg = [] then tenL else dg

/-- what numfmt.Read gives back -/
def ReadPost (ra rb : Bool) (mi po gr : Int) (fi ne : Nat) (dg : List UInt8) (Qc Qo : World → Value → Prop) (w : World) (e : Ending) (w' : World) : Prop :=
  Below w.heap.size w w' ∧
  if knownL ra rb mi po gr fi ne dg then ∃ (g : Nat) (cv ov : Value), e = .returned (.pointer (some ⟨g, 0, none⟩)) ∧ w.heap.size ≤ g ∧ g < w'.heap.size ∧
      LocX w' g mi po gr fi ((if ne = 0 then fi else ne : Nat) : Int) (runesL (digL dg)) ∧ w'.cell? ⟨g, 0, none⟩ = some cv ∧ w'.cell? ⟨g, 1, none⟩ = some ov ∧
      (∀ W, Below w'.heap.size w' W → Qc W cv) ∧ (∀ W, Below w'.heap.size w' W → Qo W ov)
  else e = .returned (.pointer none)

/-- all that was there but blocks b and b + 1 is as it was -/
def Sam (b : Nat) (A B : World) : Prop := A.heap.size ≤ B.heap.size ∧ ∀ j, j ≠ b → j ≠ b + 1 → j < A.heap.size → B.heap[j]? = A.heap[j]?

theorem Sam.refl (b : Nat) (A : World) : Sam b A A := ⟨Nat.le_refl _, fun _ _ _ _ => rfl⟩
theorem Sam.trans {b : Nat} {A B C : World} (h : Sam b A B) (k : Sam b B C) : Sam b A C :=
  ⟨Nat.le_trans h.1 k.1, fun j h1 h2 h3 => (k.2 j h1 h2 (Nat.lt_of_lt_of_le h3 h.1)).trans (h.2 j h1 h2 h3)⟩
theorem Sam.below {b : Nat} {A B : World} (h : Below A.heap.size A B) : Sam b A B := ⟨h.size, fun j _ _ h3 => h.block j h3⟩
theorem Sam.set {b : Nat} {A B : World} (h : Sam b A B) (p : Addr) (v : Value) (hp : p.block = b ∨ p.block = b + 1) : Sam b A (B.setCell p v) :=
  h.trans ⟨by simp, fun j h1 h2 _ => Below.heap_setCell _ _ _ _ (by omega)⟩
theorem Sam.agree {b hi : Nat} {A B C : World} (h : Sam b A B) (hh : b + 2 ≤ hi) (hb : b + 2 ≤ A.heap.size) (k : Below B.heap.size B C) : Agree b hi A C :=
  ⟨Nat.le_trans h.1 k.size, fun j hj => by
    have hlt : j < A.heap.size := by omega
    rw [k.block j (Nat.lt_of_lt_of_le hlt h.1)]
    exact h.2 j (by omega) (by omega) hlt⟩

theorem push_last (h : Array Obj) (a b : Obj) : ((h.push a).push b)[h.size + 1]? = some b := by
  have e : h.size + 1 = (h.push a).size := by simp
  rw [e]
  exact Array.getElem?_push_size

theorem valid_isPt (r : Int) : Lib.validRune r = isPt r := by
  unfold Lib.validRune isPt
  rw [decide_eq_decide]
  omega

theorem kn_false {ra rb : Bool} {mi po gr : Int} {fi ne : Nat} {dg : List UInt8} (h : ¬ (ra = true ∧ rb = true ∧ max (fi : Int) (ne : Int) ≤ 9 ∧ ¬ mi = 0 ∧ ¬ po = 0)) : knownL ra rb mi po gr fi ne dg = false := by
  rw [← Bool.not_eq_true]
  intro hk
  simp only [knownL, Bool.and_eq_true, Bool.not_eq_true', beq_eq_false_iff_ne, decide_eq_true_eq] at hk
  exact h ⟨hk.1, hk.2.1, by omega, hk.2.2.2.2.2.1, hk.2.2.2.2.2.2.1⟩

theorem kn_false2 {ra rb : Bool} {mi po gr : Int} {fi ne : Nat} {dg : List UInt8} (h : isPt mi = false ∨ isPt po = false ∨ isPt gr = false) : knownL ra rb mi po gr fi ne dg = false := by
  rw [← Bool.not_eq_true]
  intro hk
  simp only [knownL, Bool.and_eq_true] at hk
  rcases h with h | h | h
  · rw [hk.2.2.1] at h; cases h
  · rw [hk.2.2.2.1] at h; cases h
  · rw [hk.2.2.2.2.1] at h; cases h

theorem tabs_later {w W : World} (h : Lib.Utf8Tabs 2 3 w) (hb : Below w.heap.size w W) : Lib.Utf8Tabs 2 3 W := by
  have lt : ∀ (a : Addr) (v : Value), w.cell? a = some v → a.block < w.heap.size := fun a v h => World.block_lt_of_cell? w a h
  refine ⟨fun c hc => ?_, fun i hi => ⟨?_, ?_⟩⟩
  · rw [hb.cell (lt _ _ (h.1 c hc))]; exact h.1 c hc
  · rw [hb.cell (lt _ _ (h.2 i hi).1)]; exact (h.2 i hi).1
  · rw [hb.cell (lt _ _ (h.2 i hi).2)]; exact (h.2 i hi).2

theorem kn_false3 {ra rb : Bool} {mi po gr : Int} {fi ne : Nat} {dg : List UInt8} (h : Lib.validD dg = false) : knownL ra rb mi po gr fi ne dg = false := by
  rw [← Bool.not_eq_true]
  intro hk
  simp only [knownL, Bool.and_eq_true, decide_eq_true_eq] at hk
  have h1 : (ptsL dg).2 = dg.length := by have := hk.2.2.2.2.2.2.2.1; omega
  rw [(valid_pts dg).2 h1] at h
  cases h

theorem cell_old {w : World} {o : Obj} {a : Addr} (h : a.block < w.heap.size) : (w.alloc o).cell? a = w.cell? a := World.cell?_alloc_lt w o a h

theorem ten_count : (ptsL (⟨#[48, 49, 50, 51, 52, 53, 54, 55, 56, 57]⟩ : ByteArray).data.toList).1.length = 10 := by
  have h := (count_pts ⟨#[48, 49, 50, 51, 52, 53, 54, 55, 56, 57]⟩ 10 0 (by decide) (by decide) (by rw [List.drop_zero, (valid_pts _).1 (by decide)]; decide)).1
  rw [List.drop_zero] at h
  rw [← h]
  decide

theorem kn_false4 {ra rb : Bool} {mi po gr : Int} {fi ne : Nat} {dg : List UInt8} (hd : ¬ dg = []) (h : ¬ (ptsL dg).1.length = 10) : knownL ra rb mi po gr fi ne dg = false := by
  rw [← Bool.not_eq_true]
  intro hk
  simp only [knownL, Bool.and_eq_true, Bool.or_eq_true, decide_eq_true_eq] at hk
  rcases hk.2.2.2.2.2.2.2.2.1 with h1 | h1
  · exact h1 (List.length_pos_iff.2 hd)
  · refine h ?_
    simp at h1
    omega

theorem below_iter (B : Nat) (w : World) (s : ByteArray) (pos : Nat) : B ≤ w.heap.size → Below B w (w.iter s pos) := fun hB => (Below.refl _ _).alloc hB _

theorem heap_set {w : World} {b j : Nat} {cs : Array Value} {T : TypeId} {fr : Nat × Nat} (h : w.heap[b]? = some (.cells cs T fr)) (v : Value) : (w.setCell ⟨b, j, none⟩ v).heap[b]? = some (.cells (cs.setIfInBounds j v) T fr) := by
  simp [World.setCell, Array.getElem?_modify, h]

/-- the locale that came in, in block b; the one that is made, behind it -/
structure RW (b : Nat) (c o cv ov : Value) (mi po gr fi ne nx : Int) (dg : ByteArray) (W : World) : Prop where
  hA : W.heap[b]? = some (.cells #[c, o, .int .i32 mi, .int .i32 po, .int .i32 gr, .int .u8 fi, .int .u8 ne, .string dg] 25 (0, 0))
  hB : W.heap[b + 1]? = some (.cells #[cv, ov, .int .i32 mi, .int .i32 po, .int .i32 gr, .int .i64 fi, .int .i64 nx, .int .i32 0, .int .i32 0, .int .i32 0, .int .i32 0, .int .i32 0, .int .i32 0, .int .i32 0, .int .i32 0, .int .i32 0, .int .i32 0] 82 (0, 0))

theorem RW.below {b B : Nat} {c o cv ov : Value} {mi po gr fi ne nx : Int} {dg : ByteArray} {W W' : World} (h : RW b c o cv ov mi po gr fi ne nx dg W) (hb : Below B W W') (hlt : b + 1 < B) : RW b c o cv ov mi po gr fi ne nx dg W' :=
  ⟨by rw [hb.block b (by omega)]; exact h.hA, by rw [hb.block (b + 1) hlt]; exact h.hB⟩

theorem RW.a {b : Nat} {c o cv ov : Value} {mi po gr fi ne nx : Int} {dg : ByteArray} {W : World} (h : RW b c o cv ov mi po gr fi ne nx dg W) :
    W.cell? ⟨b, 0, none⟩ = some c ∧ W.cell? ⟨b, 1, none⟩ = some o ∧ W.cell? ⟨b, 2, none⟩ = some (.int .i32 mi) ∧ W.cell? ⟨b, 3, none⟩ = some (.int .i32 po) ∧ W.cell? ⟨b, 4, none⟩ = some (.int .i32 gr) ∧
    W.cell? ⟨b, 5, none⟩ = some (.int .u8 fi) ∧ W.cell? ⟨b, 6, none⟩ = some (.int .u8 ne) ∧ W.cell? ⟨b, 7, none⟩ = some (.string dg) ∧ W.frozen? ⟨b, 7, none⟩ = false :=
  ⟨Lib.cell_of_heap h.hA 0, Lib.cell_of_heap h.hA 1, Lib.cell_of_heap h.hA 2, Lib.cell_of_heap h.hA 3, Lib.cell_of_heap h.hA 4, Lib.cell_of_heap h.hA 5, Lib.cell_of_heap h.hA 6, Lib.cell_of_heap h.hA 7, Lib.frozen_of_heap h.hA 7⟩

theorem RW.b {b : Nat} {c o cv ov : Value} {mi po gr fi ne nx : Int} {dg : ByteArray} {W : World} (h : RW b c o cv ov mi po gr fi ne nx dg W) :
    W.cell? ⟨b + 1, 0, none⟩ = some cv ∧ W.cell? ⟨b + 1, 1, none⟩ = some ov ∧ W.cell? ⟨b + 1, 5, none⟩ = some (.int .i64 fi) ∧ W.cell? ⟨b + 1, 6, none⟩ = some (.int .i64 nx) ∧
    W.frozen? ⟨b + 1, 0, none⟩ = false ∧ W.frozen? ⟨b + 1, 1, none⟩ = false ∧ W.frozen? ⟨b + 1, 6, none⟩ = false :=
  ⟨Lib.cell_of_heap h.hB 0, Lib.cell_of_heap h.hB 1, Lib.cell_of_heap h.hB 5, Lib.cell_of_heap h.hB 6, Lib.frozen_of_heap h.hB 0, Lib.frozen_of_heap h.hB 1, Lib.frozen_of_heap h.hB 6⟩

theorem RW.set0 {b : Nat} {c o cv ov : Value} {mi po gr fi ne nx : Int} {dg : ByteArray} {W : World} (h : RW b c o cv ov mi po gr fi ne nx dg W) (v : Value) : RW b c o v ov mi po gr fi ne nx dg (W.setCell ⟨b + 1, 0, none⟩ v) :=
  ⟨by rw [Below.heap_setCell _ _ _ _ (by simp)]; exact h.hA, by rw [heap_set h.hB]; rfl⟩
theorem RW.set1 {b : Nat} {c o cv ov : Value} {mi po gr fi ne nx : Int} {dg : ByteArray} {W : World} (h : RW b c o cv ov mi po gr fi ne nx dg W) (v : Value) : RW b c o cv v mi po gr fi ne nx dg (W.setCell ⟨b + 1, 1, none⟩ v) :=
  ⟨by rw [Below.heap_setCell _ _ _ _ (by simp)]; exact h.hA, by rw [heap_set h.hB]; rfl⟩
theorem RW.set6 {b : Nat} {c o cv ov : Value} {mi po gr fi ne nx : Int} {dg : ByteArray} {W : World} (h : RW b c o cv ov mi po gr fi ne nx dg W) (v : Int) : RW b c o cv ov mi po gr fi ne v dg (W.setCell ⟨b + 1, 6, none⟩ (.int .i64 v)) :=
  ⟨by rw [Below.heap_setCell _ _ _ _ (by simp)]; exact h.hA, by rw [heap_set h.hB]; rfl⟩
theorem RW.setd {b : Nat} {c o cv ov : Value} {mi po gr fi ne nx : Int} {dg : ByteArray} {W : World} (h : RW b c o cv ov mi po gr fi ne nx dg W) (d : ByteArray) : RW b c o cv ov mi po gr fi ne nx d (W.setCell ⟨b, 7, none⟩ (.string d)) :=
  ⟨by rw [heap_set h.hA]; rfl, by rw [Below.heap_setCell _ _ _ _ (by simp)]; exact h.hB⟩

theorem src_cells (V : World) (cs : List Value) (r : Array Value) (T : TypeId) (j : Nat) (v : Value) (h : cs[j]? = some v) :
    (V.alloc (.cells (cs.toArray ++ r) T)).drew.drew.cell? ((⟨V.heap.size, 0, none⟩ : Addr).add j) = some v := by
  have h1 : (V.alloc (.cells (cs.toArray ++ r) T)).drew.drew.heap[V.heap.size]? = some (.cells (cs.toArray ++ r) T) := by
    show (V.heap.push _)[V.heap.size]? = _
    simp
  have hlt : j < cs.length := by
    rcases Nat.lt_or_ge j cs.length with hh | hh
    · exact hh
    · rw [List.getElem?_eq_none hh] at h; cases h
  rw [addr_add0, Lib.cell_of_heap h1 j, Array.getElem?_append_left (by simpa using hlt)]
  simpa using h

theorem dst_cells {V : World} {g : Nat} {cs : Array Value} {T : TypeId} (h : V.heap[g]? = some (.cells cs T (0, 0))) (hs : cs.size = 17) (n : Nat) (hn : n = 10) :
    (∀ j, j < n → (V.cell? ⟨g, 7 + j, none⟩).isSome = true) ∧ ∀ j, j < n → V.frozen? ⟨g, 7 + j, none⟩ = false := by
  subst hn
  refine ⟨fun j hj => ?_, fun j hj => Lib.frozen_of_heap h _⟩
  rw [Lib.cell_of_heap h (7 + j)]
  have : 7 + j < cs.size := by omega
  simp [this]

theorem Sam.setCells {b : Nat} {A : World} : ∀ (vs : List Value) (B : World) (o : Nat), Sam b A B → Sam b A (B.setCells (b + 1) o vs)
  | [], _, _, h => h
  | v :: vs, B, o, h => by
    unfold World.setCells
    exact Sam.setCells vs _ _ (h.set _ _ (.inr rfl))

theorem below_setCells {b : Nat} {A : World} : ∀ (vs : List Value) (B : World) (o : Nat), Below b A B → Below b A (B.setCells (b + 1) o vs)
  | [], _, _, h => h
  | v :: vs, B, o, h => by
    unfold World.setCells
    exact below_setCells vs _ _ (h.setCell (Nat.le_succ b) _)

theorem kn_true {mi po gr : Int} {fi ne : Nat} {dg D : List UInt8} (hD : D = digL dg) (h3 : max (fi : Int) (ne : Int) ≤ 9) (h4 : ¬ mi = 0) (h5 : ¬ po = 0) (p1 : isPt mi = true) (p2 : isPt po = true) (p3 : isPt gr = true)
    (hp : (ptsL D).2 = D.length) (hc : (ptsL D).1.length = 10) : knownL true true mi po gr fi ne dg = true := by
  unfold digL at hD
  by_cases h : dg = []
  · subst h
    have e : (ptsL []).2 = 0 := by rw [ptsL_nil]
    simp [knownL, p1, p2, p3, h4, h5, e]
    omega
  · rw [if_neg h] at hD
    subst hD
    simp [knownL, p1, p2, p3, h4, h5, hp, hc]
    omega

theorem read_fin {w W1 W3 W7 : World} {D : ByteArray} {pos : Nat} {ob : Obj} {c oo cv ov : Value} {mi po gr : Int} {fi ne nx hi1 hi3 : Nat} {rs : List Int} {dg : List UInt8} {Qc Qo : World → Value → Prop}
    (h : RW w.heap.size c oo cv ov mi po gr fi ne (nx : Int) D W7) (hb : Below w.heap.size w W7) (hz : w.heap.size + 2 ≤ W7.heap.size) (hl : rs.length = 10) (hnx : nx = if ne = 0 then fi else ne)
    (hrs : rs = runesL D.data.toList) (hD : D.data.toList = digL dg) (hk : knownL true true mi po gr fi ne dg = true)
    (s1 : Sam w.heap.size W1 W7) (s3 : Sam w.heap.size W3 W7) (h1 : w.heap.size + 2 ≤ hi1) (h3 : w.heap.size + 2 ≤ hi3) (z1 : w.heap.size + 2 ≤ W1.heap.size) (z3 : w.heap.size + 2 ≤ W3.heap.size)
    (q1 : ∀ W, Agree w.heap.size hi1 W1 W → Qc W cv) (q3 : ∀ W, Agree w.heap.size hi3 W3 W → Qo W ov) :
    ReadPost true true mi po gr fi ne dg Qc Qo w (.returned (.pointer (some ⟨w.heap.size + 1, 0, none⟩))) (((W7.iter D pos).alloc ob).drew.drew.setCells (w.heap.size + 1) 7 (rs.map (Value.int .i32))) := by
  have hV : ((W7.iter D pos).alloc ob).drew.drew.heap[w.heap.size + 1]? = W7.heap[w.heap.size + 1]? := by
    show ((W7.alloc _).alloc _).heap[w.heap.size + 1]? = _
    rw [Below.heap_alloc _ _ _ (by simp; omega), Below.heap_alloc _ _ _ (by omega)]
  have hVB := hV.trans h.hB
  have sV : ∀ {A : World}, Sam w.heap.size A W7 → Sam w.heap.size A (((W7.iter D pos).alloc ob).drew.drew.setCells (w.heap.size + 1) 7 (rs.map (Value.int .i32))) := by
    intro A hA
    refine Sam.setCells _ _ _ (hA.trans ⟨?_, fun j _ _ hj => ?_⟩)
    · show W7.heap.size ≤ ((W7.alloc _).alloc _).heap.size
      simp; omega
    · show ((W7.alloc _).alloc _).heap[j]? = _
      rw [Below.heap_alloc _ _ _ (by simp; omega), Below.heap_alloc _ _ _ hj]
  have hbV : Below w.heap.size w (((W7.iter D pos).alloc ob).drew.drew.setCells (w.heap.size + 1) 7 (rs.map (Value.int .i32))) := by
    refine below_setCells _ _ _ ?_
    have h1 : Below w.heap.size w ((W7.iter D pos).alloc ob) := (hb.trans (below_iter _ _ _ _ (by omega))).alloc (by show _ ≤ (W7.alloc _).heap.size; simp; omega) _
    exact ⟨h1.os, h1.tape, h1.output, h1.size, h1.block⟩
  have hz9 := (sV (Sam.refl _ W7)).1
  generalize hVV : ((W7.iter D pos).alloc ob).drew.drew = V at *
  have out : ∀ j, j < 7 → (V.setCells (w.heap.size + 1) 7 (rs.map (Value.int .i32))).cell? ⟨w.heap.size + 1, j, none⟩ = V.cell? ⟨w.heap.size + 1, j, none⟩ := fun j hj => World.cell?_setCells_out _ _ _ _ _ (fun _ _ => .inl hj)
  refine ⟨hbV, ?_⟩
  rw [if_pos hk]
  refine ⟨w.heap.size + 1, cv, ov, rfl, Nat.le_succ _, by omega, ⟨?_, ?_, ?_, ?_, ?_, ?_, ?_⟩, ?_, ?_, fun W hW => q1 W ((sV s1).agree h1 z1 hW), fun W hW => q3 W ((sV s3).agree h3 z3 hW)⟩
  · rw [out 2 (by decide)]; exact Lib.cell_of_heap hVB 2
  · rw [out 3 (by decide)]; exact Lib.cell_of_heap hVB 3
  · rw [out 4 (by decide)]; exact Lib.cell_of_heap hVB 4
  · rw [out 5 (by decide)]; exact Lib.cell_of_heap hVB 5
  · rw [out 6 (by decide), ← hnx]; exact Lib.cell_of_heap hVB 6
  · rw [← hD, ← hrs]; exact hl
  · rw [← hD, ← hrs]
    intro j hj
    have hin := World.cell?_setCells_in (w.heap.size + 1) (rs.map (Value.int .i32)) 7 V (by rw [List.length_map]; exact (dst_cells hVB rfl _ hl).1) j (by simpa using hj)
    rw [hin, List.getElem_map]
  · rw [out 0 (by decide)]; exact Lib.cell_of_heap hVB 0
  · rw [out 1 (by decide)]; exact Lib.cell_of_heap hVB 1

theorem copy_run (V : World) (rs : List Int) (r : Array Value) (cap b : Nat) {cs : Array Value} {T : TypeId} (hl : rs.length = 10)
    (hVB : (V.alloc (.cells ((rs.map (Value.int .i32)).toArray ++ r) 21)).drew.drew.heap[b]? = some (.cells cs T (0, 0))) (hs : cs.size = 17) :
    (Builtin.copy_ #[86, 86] 3 #[.slice (some ⟨b, 7, none⟩) 10 10, .slice (some ⟨V.heap.size, 0, none⟩) 10 cap]).run Tryz.prog (V.alloc (.cells ((rs.map (Value.int .i32)).toArray ++ r) 21)).drew.drew =
      .ok (goInt (rs.map (Value.int .i32)).length) ((V.alloc (.cells ((rs.map (Value.int .i32)).toArray ++ r) 21)).drew.drew.setCells b 7 (rs.map (Value.int .i32))) := by
  have hd := dst_cells hVB hs (rs.map (Value.int .i32)).length (by simp [hl])
  have hsrc := src_cells V (rs.map (Value.int .i32)) r 21
  generalize (V.alloc (.cells ((rs.map (Value.int .i32)).toArray ++ r) 21)).drew.drew = W at *
  exact run_copy_cells W 86 86 3 21 b 7 10 10 ⟨V.heap.size, 0, none⟩ 10 cap (rs.map (Value.int .i32)) Tryz.underlying86 (by kernel_rfl) (by simp [hl]) hsrc hd.1 hd.2 (by intro v hv; simp at hv; obtain ⟨x, _, rfl⟩ := hv; rfl)
end Go.Proofs.YtpepgmccbkkaaaaGreatDoor
