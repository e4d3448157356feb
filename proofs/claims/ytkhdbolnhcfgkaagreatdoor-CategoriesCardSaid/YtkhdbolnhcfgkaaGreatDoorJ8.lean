import Derived.Test.YtkhdbolnhcfgkaaGreatDoorJ7

/- plural's parser: how a relation is put. (Printed by wip/mkQ14.py) -/
namespace Go.Proofs.YtkhdbolnhcfgkaaGreatDoor
open Go Go.RowKit
set_option maxRecDepth 10000

/-- words that are left of words -/
structure Sub (t ws : List Wd) : Prop where
  mem : ∀ x ∈ t, x ∈ ws
  len : t.length ≤ ws.length

theorem Sub.refl (ws : List Wd) : Sub ws ws := ⟨fun _ h => h, Nat.le_refl _⟩
theorem Sub.trans {a b c : List Wd} (h : Sub a b) (k : Sub b c) : Sub a c := ⟨fun x hx => k.mem x (h.mem x hx), Nat.le_trans h.len k.len⟩
theorem Sub.tail (ws : List Wd) : Sub ws.tail ws := ⟨fun _ h => List.mem_of_mem_tail h, by simp⟩

theorem pNum_sub {ws t : List Wd} {v : Nat} (h : pNum ws = some (v, t)) : Sub t ws := ⟨(pNum_small h).2.1, by have := (pNum_small h).2.2; omega⟩

theorem pItem_sub {ws t : List Wd} {q : Nat × Nat} (h : pItem ws = some (q, t)) : Sub t ws := by
  unfold pItem at h
  cases hn : pNum ws with
  | none => rw [hn] at h; cases h
  | some r =>
    obtain ⟨a, u⟩ := r
    rw [hn] at h
    dsimp only at h
    have hs := pNum_sub hn
    by_cases hd : isW [46, 46] u = true
    · rw [if_pos hd] at h
      cases hn2 : pNum u.tail with
      | none => rw [hn2] at h; cases h
      | some r2 =>
        obtain ⟨b, u2⟩ := r2
        rw [hn2] at h
        dsimp only at h
        by_cases hb : b < a
        · rw [if_pos hb] at h; cases h
        · rw [if_neg hb] at h
          cases h
          exact ((pNum_sub hn2).trans (Sub.tail u)).trans hs
    · rw [if_neg hd] at h
      cases h
      exact hs

theorem pListGo_sub {wi : Bool} : ∀ {n : Nat} {acc ts : List Tst} {ws t : List Wd}, pListGo wi n acc ws = some (ts, t) → Sub t ws
  | 0, _, _, _, _, h => by cases h
  | n + 1, acc, ts, ws, t, h => by
    rw [pListGo] at h
    cases hi : pItem ws with
    | none => rw [hi] at h; cases h
    | some r =>
      obtain ⟨q, u⟩ := r
      rw [hi] at h
      dsimp only at h
      by_cases hc : isW [44] u = true
      · rw [if_pos hc] at h
        exact ((pListGo_sub h).trans (Sub.tail u)).trans (pItem_sub hi)
      · rw [if_neg hc] at h
        cases h
        exact pItem_sub hi

theorem pList_sub {wi : Bool} {ws t : List Wd} {T : Tst} (h : pList wi ws = some (T, t)) : Sub t ws := by
  unfold pList at h
  cases hg : pListGo wi (ws.length + 1) [] ws with
  | none => rw [hg] at h; cases h
  | some r =>
    obtain ⟨ts, u⟩ := r
    rw [hg] at h
    cases h
    exact pListGo_sub hg

/-- what a parsing call makes -/
def ParseQ (p : Nat) (r : Option (Tst × List Wd)) (w : World) (e : Ending) (w' : World) : Prop :=
  (match r with | none => e = thrown | some (T, t) => (∃ v, e = .returned v ∧ TestR w.heap.size w'.heap.size w' v T) ∧ PAt w' p t) ∧ But p w w'

theorem plist_any (p : Nat) (wi : Bool) (ws : List Wd) (w : World) (hp : PAt w p ws) (hx : ∀ x ∈ ws, WOk x) (hT : RT p w) (hl : ws.length ≤ 1000) :
    Calls Tryz.prog 97 #[.pointer (some ⟨p, 0, none⟩), .bool wi] w (ParseQ p (pList wi ws) w) := by
  refine (list_any p wi ws w hp hx hT hl).mono ?_
  rintro e w' ⟨h, hb⟩
  refine ⟨?_, hb⟩
  unfold pList
  cases hg : pListGo wi (ws.length + 1) [] ws with
  | none => rw [hg] at h; exact h
  | some r =>
    obtain ⟨ts, u⟩ := r
    rw [hg] at h
    exact h

def MannerQ (p : Nat) (r : Option ((Tst × Bool) × List Wd)) (w : World) (e : Ending) (w' : World) : Prop :=
  (match r with | none => e = thrown | some ((T, nt), t) => (∃ v, e = .returned (.tuple #[v, .bool nt]) ∧ TestR w.heap.size w'.heap.size w' v T) ∧ PAt w' p t) ∧ But p w w'

set_option maxHeartbeats 4000000 in
theorem manner_p (p : Nat) (ws : List Wd) (w : World) (hp : PAt w p ws) (hx : ∀ x ∈ ws, WOk x) (hT : RT p w) (hl : ws.length ≤ 1000) :
    Calls Tryz.prog 79 #[.pointer (some ⟨p, 0, none⟩)] w (MannerQ p (pManner ws) w) := by
  obtain ⟨r, hr⟩ : ∃ r, pManner ws = r := ⟨_, rfl⟩
  rw [hr]
  have HX := Lib.hid hx
  have HR := Lib.hid hr
  have hlt := hp.lt
  have HP := Lib.hid hp
  have HT := Lib.hid hT
  clear hr hx hp hT
  go_enter Tryz.func79, Tryz.ntmps79
  have L1 : ws.tail.length ≤ 1000 := by simp; omega
  have L2 : ws.tail.tail.length ≤ 1000 := by simp; omega
  have M1 : ∀ x ∈ ws.tail, WOk x := fun x h => HX.out x (List.mem_of_mem_tail h)
  have M2 : ∀ x ∈ ws.tail.tail, WOk x := fun x h => M1 x (List.mem_of_mem_tail h)
  have HM1 := Lib.hid M1
  have HM2 := Lib.hid M2
  clear M1 M2
  go_wp2_with fail
  refine (is_lit p [61] (ws) _ HP.out).mono ?_
  rintro e w1 ⟨rfl, hp1, hb1⟩
  have hbut1 := hb1
  have HPX1 := Lib.hid hp1
  clear hp1
  cases e1 : isW [61] (ws)
  · have hq := HPX1.out
    rw [e1] at hq
    have HP1 := Lib.hid hq
    have E1 := Lib.hid e1
    clear hq e1
    go_wp2_with fail
    refine (is_lit p [33, 61] (ws) _ HP1.out).mono ?_
    rintro e w2 ⟨rfl, hp2, hb2⟩
    have hbut2 := hbut1.trans hb2
    have HPX2 := Lib.hid hp2
    clear hp2
    cases e2 : isW [33, 61] (ws)
    · have hq := HPX2.out
      rw [e2] at hq
      have HP2 := Lib.hid hq
      have E2 := Lib.hid e2
      clear hq e2
      go_wp2_with fail
      refine (is_lit p [105, 115] (ws) _ HP2.out).mono ?_
      rintro e w3 ⟨rfl, hp3, hb3⟩
      have hbut3 := hbut2.trans hb3
      have HPX3 := Lib.hid hp3
      clear hp3
      cases e3 : isW [105, 115] (ws)
      · have hq := HPX3.out
        rw [e3] at hq
        have HP3 := Lib.hid hq
        have E3 := Lib.hid e3
        clear hq e3
        go_wp2_with fail
        refine (is_lit p [110, 111, 116] (ws) _ HP3.out).mono ?_
        rintro e w4 ⟨rfl, hp4, hb4⟩
        have hbut4 := hbut3.trans hb4
        have HPX4 := Lib.hid hp4
        clear hp4
        cases e4 : isW [110, 111, 116] (ws)
        · have hq := HPX4.out
          rw [e4] at hq
          have HP4 := Lib.hid hq
          have E4 := Lib.hid e4
          clear hq e4
          go_wp2_with fail
          refine (is_lit p [119, 105, 116, 104, 105, 110] (ws) _ HP4.out).mono ?_
          rintro e w5 ⟨rfl, hp5, hb5⟩
          have hbut5 := hbut4.trans hb5
          have HPX5 := Lib.hid hp5
          clear hp5
          cases e5 : isW [119, 105, 116, 104, 105, 110] (ws)
          · have hq := HPX5.out
            rw [e5] at hq
            have HP5 := Lib.hid hq
            have E5 := Lib.hid e5
            clear hq e5
            go_wp2_with fail
            refine (is_lit p [105, 110] (ws) _ HP5.out).mono ?_
            rintro e w6 ⟨rfl, hp6, hb6⟩
            have hbut6 := hbut5.trans hb6
            have HPX6 := Lib.hid hp6
            clear hp6
            cases e6 : isW [105, 110] (ws)
            · have hq := HPX6.out
              rw [e6] at hq
              have HP6 := Lib.hid hq
              have E6 := Lib.hid e6
              clear hq e6
              have hr0 : r = none := by
                rw [← HR.out]
                simp [pManner, E1.out, E2.out, E3.out, E4.out, E5.out, E6.out]
              have HR0 := Lib.hid hr0
              clear hr0
              go_wp2
              refine ⟨rfl, ?_, hbut6⟩
              rw [HR0.out]
            · have hq := HPX6.out
              rw [e6] at hq
              have HP6 := Lib.hid hq
              have E6 := Lib.hid e6
              clear hq e6
              have hlst := plist_any p false (ws.tail) w6 HP6.out HM1.out (HT.out.but hbut6) L1
              have HL := Lib.hid hlst
              clear hlst
              go_wp2_with fail
              refine HL.out.mono ?_
              rintro e w7 ⟨hq, hb7⟩
              have hbut7 := hbut6.trans hb7
              have hrr : r = (pList false (ws.tail)).map fun q => ((q.1, false), q.2) := by
                rw [← HR.out]
                simp [pManner, E1.out, E2.out, E3.out, E4.out, E5.out, E6.out]
              have HRR := Lib.hid hrr
              clear hrr
              cases hn : pList false (ws.tail) with
              | none =>
                rw [hn] at hq
                obtain rfl := hq
                have hr0 := HRR.out
                rw [hn] at hr0
                have HR0 := Lib.hid hr0
                clear hr0 hn
                go_wp2
                refine ⟨rfl, ?_, hbut7⟩
                rw [HR0.out]
                rfl
              | some q =>
                obtain ⟨T, t⟩ := q
                rw [hn] at hq
                obtain ⟨⟨v, rfl, ht⟩, hpp⟩ := hq
                have hr0 := HRR.out
                rw [hn] at hr0
                have HR0 := Lib.hid hr0
                have HTT := Lib.hid ht
                have HPP := Lib.hid hpp
                clear hr0 hn ht hpp
                go_wp2
                go_ret2
                refine ⟨?_, hbut7⟩
                rw [HR0.out]
                exact ⟨⟨v, rfl, HTT.out.keep (keep_refl (Nat.le_refl _)) hbut6.size (Nat.le_refl _)⟩, HPP.out⟩
          · have hq := HPX5.out
            rw [e5] at hq
            have HP5 := Lib.hid hq
            have E5 := Lib.hid e5
            clear hq e5
            have hlst := plist_any p true (ws.tail) w5 HP5.out HM1.out (HT.out.but hbut5) L1
            have HL := Lib.hid hlst
            clear hlst
            go_wp2_with fail
            refine HL.out.mono ?_
            rintro e w6 ⟨hq, hb6⟩
            have hbut6 := hbut5.trans hb6
            have hrr : r = (pList true (ws.tail)).map fun q => ((q.1, false), q.2) := by
              rw [← HR.out]
              simp [pManner, E1.out, E2.out, E3.out, E4.out, E5.out]
            have HRR := Lib.hid hrr
            clear hrr
            cases hn : pList true (ws.tail) with
            | none =>
              rw [hn] at hq
              obtain rfl := hq
              have hr0 := HRR.out
              rw [hn] at hr0
              have HR0 := Lib.hid hr0
              clear hr0 hn
              go_wp2
              refine ⟨rfl, ?_, hbut6⟩
              rw [HR0.out]
              rfl
            | some q =>
              obtain ⟨T, t⟩ := q
              rw [hn] at hq
              obtain ⟨⟨v, rfl, ht⟩, hpp⟩ := hq
              have hr0 := HRR.out
              rw [hn] at hr0
              have HR0 := Lib.hid hr0
              have HTT := Lib.hid ht
              have HPP := Lib.hid hpp
              clear hr0 hn ht hpp
              go_wp2
              go_ret2
              refine ⟨?_, hbut6⟩
              rw [HR0.out]
              exact ⟨⟨v, rfl, HTT.out.keep (keep_refl (Nat.le_refl _)) hbut5.size (Nat.le_refl _)⟩, HPP.out⟩
        · have hq := HPX4.out
          rw [e4] at hq
          have HP4 := Lib.hid hq
          have E4 := Lib.hid e4
          clear hq e4
          go_wp2_with fail
          refine (is_lit p [119, 105, 116, 104, 105, 110] (ws.tail) _ HP4.out).mono ?_
          rintro e w5 ⟨rfl, hp5, hb5⟩
          have hbut5 := hbut4.trans hb5
          have HPX5 := Lib.hid hp5
          clear hp5
          cases e5 : isW [119, 105, 116, 104, 105, 110] (ws.tail)
          · have hq := HPX5.out
            rw [e5] at hq
            have HP5 := Lib.hid hq
            have E5 := Lib.hid e5
            clear hq e5
            go_wp2_with fail
            refine (is_lit p [105, 110] (ws.tail) _ HP5.out).mono ?_
            rintro e w6 ⟨rfl, hp6, hb6⟩
            have hbut6 := hbut5.trans hb6
            have HPX6 := Lib.hid hp6
            clear hp6
            cases e6 : isW [105, 110] (ws.tail)
            · have hq := HPX6.out
              rw [e6] at hq
              have HP6 := Lib.hid hq
              have E6 := Lib.hid e6
              clear hq e6
              have hr0 : r = none := by
                rw [← HR.out]
                simp [pManner, E1.out, E2.out, E3.out, E4.out, E5.out, E6.out]
              have HR0 := Lib.hid hr0
              clear hr0
              go_wp2
              refine ⟨rfl, ?_, hbut6⟩
              rw [HR0.out]
            · have hq := HPX6.out
              rw [e6] at hq
              have HP6 := Lib.hid hq
              have E6 := Lib.hid e6
              clear hq e6
              have hlst := plist_any p false (ws.tail.tail) w6 HP6.out HM2.out (HT.out.but hbut6) L2
              have HL := Lib.hid hlst
              clear hlst
              go_wp2_with fail
              refine HL.out.mono ?_
              rintro e w7 ⟨hq, hb7⟩
              have hbut7 := hbut6.trans hb7
              have hrr : r = (pList false (ws.tail.tail)).map fun q => ((q.1, true), q.2) := by
                rw [← HR.out]
                simp [pManner, E1.out, E2.out, E3.out, E4.out, E5.out, E6.out]
              have HRR := Lib.hid hrr
              clear hrr
              cases hn : pList false (ws.tail.tail) with
              | none =>
                rw [hn] at hq
                obtain rfl := hq
                have hr0 := HRR.out
                rw [hn] at hr0
                have HR0 := Lib.hid hr0
                clear hr0 hn
                go_wp2
                refine ⟨rfl, ?_, hbut7⟩
                rw [HR0.out]
                rfl
              | some q =>
                obtain ⟨T, t⟩ := q
                rw [hn] at hq
                obtain ⟨⟨v, rfl, ht⟩, hpp⟩ := hq
                have hr0 := HRR.out
                rw [hn] at hr0
                have HR0 := Lib.hid hr0
                have HTT := Lib.hid ht
                have HPP := Lib.hid hpp
                clear hr0 hn ht hpp
                go_wp2
                go_ret2
                refine ⟨?_, hbut7⟩
                rw [HR0.out]
                exact ⟨⟨v, rfl, HTT.out.keep (keep_refl (Nat.le_refl _)) hbut6.size (Nat.le_refl _)⟩, HPP.out⟩
          · have hq := HPX5.out
            rw [e5] at hq
            have HP5 := Lib.hid hq
            have E5 := Lib.hid e5
            clear hq e5
            have hlst := plist_any p true (ws.tail.tail) w5 HP5.out HM2.out (HT.out.but hbut5) L2
            have HL := Lib.hid hlst
            clear hlst
            go_wp2_with fail
            refine HL.out.mono ?_
            rintro e w6 ⟨hq, hb6⟩
            have hbut6 := hbut5.trans hb6
            have hrr : r = (pList true (ws.tail.tail)).map fun q => ((q.1, true), q.2) := by
              rw [← HR.out]
              simp [pManner, E1.out, E2.out, E3.out, E4.out, E5.out]
            have HRR := Lib.hid hrr
            clear hrr
            cases hn : pList true (ws.tail.tail) with
            | none =>
              rw [hn] at hq
              obtain rfl := hq
              have hr0 := HRR.out
              rw [hn] at hr0
              have HR0 := Lib.hid hr0
              clear hr0 hn
              go_wp2
              refine ⟨rfl, ?_, hbut6⟩
              rw [HR0.out]
              rfl
            | some q =>
              obtain ⟨T, t⟩ := q
              rw [hn] at hq
              obtain ⟨⟨v, rfl, ht⟩, hpp⟩ := hq
              have hr0 := HRR.out
              rw [hn] at hr0
              have HR0 := Lib.hid hr0
              have HTT := Lib.hid ht
              have HPP := Lib.hid hpp
              clear hr0 hn ht hpp
              go_wp2
              go_ret2
              refine ⟨?_, hbut6⟩
              rw [HR0.out]
              exact ⟨⟨v, rfl, HTT.out.keep (keep_refl (Nat.le_refl _)) hbut5.size (Nat.le_refl _)⟩, HPP.out⟩
      · have hq := HPX3.out
        rw [e3] at hq
        have HP3 := Lib.hid hq
        have E3 := Lib.hid e3
        clear hq e3
        go_wp2_with fail
        refine (is_lit p [110, 111, 116] (ws.tail) _ HP3.out).mono ?_
        rintro e w4 ⟨rfl, hp4, hb4⟩
        have hbut4 := hbut3.trans hb4
        have HPX4 := Lib.hid hp4
        clear hp4
        cases e4 : isW [110, 111, 116] (ws.tail)
        · have hq := HPX4.out
          rw [e4] at hq
          have HP4 := Lib.hid hq
          have E4 := Lib.hid e4
          clear hq e4
          have hlst := number_any p (ws.tail) w4 HP4.out HM1.out (HT.out.but hbut4)
          have HL := Lib.hid hlst
          clear hlst
          go_wp2_with fail
          refine HL.out.mono ?_
          rintro e w5 ⟨hq, hb5⟩
          have hbut5 := hbut4.trans hb5
          have hrr : r = (pNum (ws.tail)).map fun q => ((spanT q.1 q.1 false, false), q.2) := by
            rw [← HR.out]
            simp [pManner, E1.out, E2.out, E3.out, E4.out]
          have HRR := Lib.hid hrr
          clear hrr
          cases hn : pNum (ws.tail) with
          | none =>
            rw [hn] at hq
            obtain rfl := hq
            have hr0 := HRR.out
            rw [hn] at hr0
            have HR0 := Lib.hid hr0
            clear hr0 hn
            go_wp2
            refine ⟨rfl, ?_, hbut5⟩
            rw [HR0.out]
            rfl
          | some q =>
            obtain ⟨va, t⟩ := q
            rw [hn] at hq
            obtain ⟨rfl, hpp⟩ := hq
            have hva := (pNum_small hn).1
            have hr0 := HRR.out
            rw [hn] at hr0
            have HR0 := Lib.hid hr0
            have HPP := Lib.hid hpp
            have HSPAN := Lib.hid (span_any va va false w5 hva hva)
            clear hr0 hn hpp
            go_wp2_with fail
            refine HSPAN.out.mono ?_
            rintro e w6 ⟨⟨v, rfl, ht⟩, hb6⟩
            have HTT := Lib.hid ht
            clear ht
            go_wp2
            go_ret2
            refine ⟨?_, hbut5.below hb6⟩
            rw [HR0.out]
            exact ⟨⟨v, rfl, HTT.out.keep (keep_refl (Nat.le_refl _)) hbut5.size (Nat.le_refl _)⟩, HPP.out.below hb6⟩
        · have hq := HPX4.out
          rw [e4] at hq
          have HP4 := Lib.hid hq
          have E4 := Lib.hid e4
          clear hq e4
          have hlst := number_any p (ws.tail.tail) w4 HP4.out HM2.out (HT.out.but hbut4)
          have HL := Lib.hid hlst
          clear hlst
          go_wp2_with fail
          refine HL.out.mono ?_
          rintro e w5 ⟨hq, hb5⟩
          have hbut5 := hbut4.trans hb5
          have hrr : r = (pNum (ws.tail.tail)).map fun q => ((spanT q.1 q.1 false, true), q.2) := by
            rw [← HR.out]
            simp [pManner, E1.out, E2.out, E3.out, E4.out]
          have HRR := Lib.hid hrr
          clear hrr
          cases hn : pNum (ws.tail.tail) with
          | none =>
            rw [hn] at hq
            obtain rfl := hq
            have hr0 := HRR.out
            rw [hn] at hr0
            have HR0 := Lib.hid hr0
            clear hr0 hn
            go_wp2
            refine ⟨rfl, ?_, hbut5⟩
            rw [HR0.out]
            rfl
          | some q =>
            obtain ⟨va, t⟩ := q
            rw [hn] at hq
            obtain ⟨rfl, hpp⟩ := hq
            have hva := (pNum_small hn).1
            have hr0 := HRR.out
            rw [hn] at hr0
            have HR0 := Lib.hid hr0
            have HPP := Lib.hid hpp
            have HSPAN := Lib.hid (span_any va va false w5 hva hva)
            clear hr0 hn hpp
            go_wp2_with fail
            refine HSPAN.out.mono ?_
            rintro e w6 ⟨⟨v, rfl, ht⟩, hb6⟩
            have HTT := Lib.hid ht
            clear ht
            go_wp2
            go_ret2
            refine ⟨?_, hbut5.below hb6⟩
            rw [HR0.out]
            exact ⟨⟨v, rfl, HTT.out.keep (keep_refl (Nat.le_refl _)) hbut5.size (Nat.le_refl _)⟩, HPP.out.below hb6⟩
    · have hq := HPX2.out
      rw [e2] at hq
      have HP2 := Lib.hid hq
      have E2 := Lib.hid e2
      clear hq e2
      have hlst := plist_any p false (ws.tail) w2 HP2.out HM1.out (HT.out.but hbut2) L1
      have HL := Lib.hid hlst
      clear hlst
      go_wp2_with fail
      refine HL.out.mono ?_
      rintro e w3 ⟨hq, hb3⟩
      have hbut3 := hbut2.trans hb3
      have hrr : r = (pList false (ws.tail)).map fun q => ((q.1, true), q.2) := by
        rw [← HR.out]
        simp [pManner, E1.out, E2.out]
      have HRR := Lib.hid hrr
      clear hrr
      cases hn : pList false (ws.tail) with
      | none =>
        rw [hn] at hq
        obtain rfl := hq
        have hr0 := HRR.out
        rw [hn] at hr0
        have HR0 := Lib.hid hr0
        clear hr0 hn
        go_wp2
        refine ⟨rfl, ?_, hbut3⟩
        rw [HR0.out]
        rfl
      | some q =>
        obtain ⟨T, t⟩ := q
        rw [hn] at hq
        obtain ⟨⟨v, rfl, ht⟩, hpp⟩ := hq
        have hr0 := HRR.out
        rw [hn] at hr0
        have HR0 := Lib.hid hr0
        have HTT := Lib.hid ht
        have HPP := Lib.hid hpp
        clear hr0 hn ht hpp
        go_wp2
        go_ret2
        refine ⟨?_, hbut3⟩
        rw [HR0.out]
        exact ⟨⟨v, rfl, HTT.out.keep (keep_refl (Nat.le_refl _)) hbut2.size (Nat.le_refl _)⟩, HPP.out⟩
  · have hq := HPX1.out
    rw [e1] at hq
    have HP1 := Lib.hid hq
    have E1 := Lib.hid e1
    clear hq e1
    have hlst := plist_any p false (ws.tail) w1 HP1.out HM1.out (HT.out.but hbut1) L1
    have HL := Lib.hid hlst
    clear hlst
    go_wp2_with fail
    refine HL.out.mono ?_
    rintro e w2 ⟨hq, hb2⟩
    have hbut2 := hbut1.trans hb2
    have hrr : r = (pList false (ws.tail)).map fun q => ((q.1, false), q.2) := by
      rw [← HR.out]
      simp [pManner, E1.out]
    have HRR := Lib.hid hrr
    clear hrr
    cases hn : pList false (ws.tail) with
    | none =>
      rw [hn] at hq
      obtain rfl := hq
      have hr0 := HRR.out
      rw [hn] at hr0
      have HR0 := Lib.hid hr0
      clear hr0 hn
      go_wp2
      refine ⟨rfl, ?_, hbut2⟩
      rw [HR0.out]
      rfl
    | some q =>
      obtain ⟨T, t⟩ := q
      rw [hn] at hq
      obtain ⟨⟨v, rfl, ht⟩, hpp⟩ := hq
      have hr0 := HRR.out
      rw [hn] at hr0
      have HR0 := Lib.hid hr0
      have HTT := Lib.hid ht
      have HPP := Lib.hid hpp
      clear hr0 hn ht hpp
      go_wp2
      go_ret2
      refine ⟨?_, hbut2⟩
      rw [HR0.out]
      exact ⟨⟨v, rfl, HTT.out.keep (keep_refl (Nat.le_refl _)) hbut1.size (Nat.le_refl _)⟩, HPP.out⟩
end Go.Proofs.YtkhdbolnhcfgkaaGreatDoor
