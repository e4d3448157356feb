import Derived.Test.YtpepgmccbkkaaaaGreatDoorJ22
import Derived.Deep.LoopGhost
import Derived.WalkMore

/- plural's tokens: a rule's words, as the program finds them. -/
namespace Go.Proofs.YtpepgmccbkkaaaaGreatDoor
open Go Go.RowKit
set_option maxRecDepth 10000

theorem cutAt_any (s : ByteArray) (w : World) (hs : s.size ≤ 1000000) :
    Calls Tryz.prog 39 #[.string s, .string ⟨#[64]⟩] w fun e w' =>
      e = .returned (.tuple #[.string ⟨(s.data.toList.take (s.data.toList.idxOf 64)).toArray⟩, .string ⟨(s.data.toList.drop (s.data.toList.idxOf 64 + 1)).toArray⟩, .bool (decide (s.data.toList.idxOf 64 < s.size))]) ∧ ∃ n, w' = w.drewN n := by
  have hL := fun w => liteCut_any s 64 w hs
  have HL := Lib.hid hL
  clear hL
  go_enter Tryz.func39, Tryz.ntmps39
  go_wp2_with fail
  refine (HL.out _).mono ?_
  rintro e w' ⟨rfl, n, rfl⟩
  go_wp2
  go_ret3
  exact ⟨rfl, n, rfl⟩

/-- what is thrown where a rule is none -/
abbrev thrownT : Ending := .panicked [{ v := .iface 151 (.agg #[]), recovered := false }]

def TokQ (r : Option (List Wd)) (w : World) (e : Ending) (w' : World) : Prop :=
  (match r with | none => e = thrownT | some ws => ∃ v, e = .returned v ∧ w'.ownsRow w.heap.size 9 1 v ws.length (ws.map strv)) ∧ Below w.heap.size w w'

/-- the loop's relation -/
def TokRel (r : Option (List Wd)) (n0 : Nat) (w : World) (s sv : Value) (n : Nat) (wr : World) : Prop :=
  ∃ (acc : List Wd) (l : List UInt8), s = .string ⟨l.toArray⟩ ∧ wr.ownsRow w.heap.size 9 1 sv acc.length (acc.map strv) ∧ Below w.heap.size w wr ∧ l.length < n ∧ l.length + acc.length ≤ n0 ∧ tokGo n acc l = r

theorem prefix_no {l m : List UInt8} (h : Lib.hasPrefix l m = false) : Lib.trimPrefix l m = l := by
  unfold Lib.trimPrefix
  simp [h]

theorem sign_hit {c : UInt8} {t m : List UInt8} (hm : m = [33, 61] ∨ m = [46, 46] ∨ m = [61] ∨ m = [44] ∨ m = [37]) (h : Lib.hasPrefix (c :: t) m = true) : signL (c :: t) = some m ∧ Lib.trimPrefix (c :: t) m = (c :: t).drop m.length := by
  have ht : Lib.trimPrefix (c :: t) m = (c :: t).drop m.length := by unfold Lib.trimPrefix; rw [if_pos h]
  refine ⟨?_, ht⟩
  unfold Lib.hasPrefix at h
  rcases hm with rfl | rfl | rfl | rfl | rfl
  · cases t with
    | nil => simp [List.isPrefixOf] at h
    | cons d u =>
      simp [List.isPrefixOf] at h
      obtain ⟨rfl, rfl⟩ := h
      rfl
  · cases t with
    | nil => simp [List.isPrefixOf] at h
    | cons d u =>
      simp [List.isPrefixOf] at h
      obtain ⟨rfl, rfl⟩ := h
      rfl
  · simp [List.isPrefixOf] at h; subst h; rfl
  · simp [List.isPrefixOf] at h; subst h; rfl
  · simp [List.isPrefixOf] at h; subst h; rfl

theorem sign_miss {c : UInt8} {t : List UInt8} (h0 : Lib.hasPrefix (c :: t) [33, 61] = false) (h1 : Lib.hasPrefix (c :: t) [46, 46] = false) (h2 : Lib.hasPrefix (c :: t) [61] = false) (h3 : Lib.hasPrefix (c :: t) [44] = false) (h4 : Lib.hasPrefix (c :: t) [37] = false) : signL (c :: t) = none := by
  unfold signL
  split
  · rename_i u e; cases e; simp [Lib.hasPrefix, List.isPrefixOf] at h0
  · rename_i u e; cases e; simp [Lib.hasPrefix, List.isPrefixOf] at h1
  · rename_i u e; cases e; simp [Lib.hasPrefix, List.isPrefixOf] at h2
  · rename_i u e; cases e; simp [Lib.hasPrefix, List.isPrefixOf] at h3
  · rename_i u e; cases e; simp [Lib.hasPrefix, List.isPrefixOf] at h4
  · rfl

theorem run_of {p : UInt8 → Bool} : ∀ {t : List UInt8} {m : Nat}, m ≤ t.length → (t.take m).all p = true → (∀ h : m < t.length, p t[m] = false) → t.takeWhile p = t.take m ∧ t.dropWhile p = t.drop m
  | [], 0, _, _, _ => ⟨rfl, rfl⟩
  | [], m + 1, h, _, _ => absurd h (by simp)
  | c :: t, 0, _, _, h => by
    have := h (by simp)
    have hc : p c = false := by simpa using this
    rw [List.takeWhile_cons_of_neg (by simp [hc]), List.dropWhile_cons_of_neg (by simp [hc])]
    exact ⟨rfl, rfl⟩
  | c :: t, m + 1, hm, ha, h => by
    simp only [List.take_succ_cons, List.all_cons, Bool.and_eq_true] at ha
    have ih := run_of (t := t) (m := m) (by simpa using hm) ha.2 (fun hl => by have := h (by simp; omega); simpa using this)
    rw [List.takeWhile_cons_of_pos ha.1, List.dropWhile_cons_of_pos ha.1, ih.1, ih.2]
    exact ⟨rfl, rfl⟩

theorem class_le (c : UInt8) : classL c ≤ 3 := by
  unfold classL
  split
  · decide
  split
  · decide
  split <;> decide

set_option maxHeartbeats 40000000 in
theorem tokens_any (s : ByteArray) (w : World) (hs : s.size ≤ 1000) : Calls Tryz.prog 68 #[.string s] w (TokQ (tokL s.data.toList) w) := by
  obtain ⟨r, hr⟩ : ∃ r, tokL s.data.toList = r := ⟨_, rfl⟩
  rw [hr]
  have hl0 : (s.data.toList.take (s.data.toList.idxOf 64)).length ≤ s.size := by simp; omega
  unfold tokL at hr
  rw [size_toList] at hr
  obtain ⟨l0, hl⟩ : ∃ l0, s.data.toList.take (s.data.toList.idxOf 64) = l0 := ⟨_, rfl⟩
  have hC := cutAt_any s w (by omega)
  rw [hl] at hr hl0 hC
  have HR := Lib.hid hr
  have HC := Lib.hid hC
  have hcp : ∀ (s p : ByteArray) (W : World), Calls Tryz.prog 38 #[.string s, .string p] W fun e w' => e = .returned (.tuple #[.string ⟨(Lib.trimPrefix s.data.toList p.data.toList).toArray⟩, .bool (Lib.hasPrefix s.data.toList p.data.toList)]) ∧ W = w' := fun s p W => (Tryz.strings_CutPrefix s p W).mono fun _ _ h => ⟨h.1, h.2.symm⟩
  have HCP := Lib.hid hcp
  clear hr hl hC hcp
  have hix0 : ∀ W : World, (Instr.index 174 (.agg #[.string ⟨#[33, 61]⟩, .string ⟨#[46, 46]⟩, .string ⟨#[61]⟩, .string ⟨#[44]⟩, .string ⟨#[37]⟩]) (.int .i64 0)).run Tryz.prog W = .ok (.string ⟨#[33, 61]⟩) W := fun W => by kernel_rfl
  have hix1 : ∀ W : World, (Instr.index 174 (.agg #[.string ⟨#[33, 61]⟩, .string ⟨#[46, 46]⟩, .string ⟨#[61]⟩, .string ⟨#[44]⟩, .string ⟨#[37]⟩]) (.int .i64 1)).run Tryz.prog W = .ok (.string ⟨#[46, 46]⟩) W := fun W => by kernel_rfl
  have hix2 : ∀ W : World, (Instr.index 174 (.agg #[.string ⟨#[33, 61]⟩, .string ⟨#[46, 46]⟩, .string ⟨#[61]⟩, .string ⟨#[44]⟩, .string ⟨#[37]⟩]) (.int .i64 2)).run Tryz.prog W = .ok (.string ⟨#[61]⟩) W := fun W => by kernel_rfl
  have hix3 : ∀ W : World, (Instr.index 174 (.agg #[.string ⟨#[33, 61]⟩, .string ⟨#[46, 46]⟩, .string ⟨#[61]⟩, .string ⟨#[44]⟩, .string ⟨#[37]⟩]) (.int .i64 3)).run Tryz.prog W = .ok (.string ⟨#[44]⟩) W := fun W => by kernel_rfl
  have hix4 : ∀ W : World, (Instr.index 174 (.agg #[.string ⟨#[33, 61]⟩, .string ⟨#[46, 46]⟩, .string ⟨#[61]⟩, .string ⟨#[44]⟩, .string ⟨#[37]⟩]) (.int .i64 4)).run Tryz.prog W = .ok (.string ⟨#[37]⟩) W := fun W => by kernel_rfl
  go_enter Tryz.func68, Tryz.ntmps68
  go_wp2_with fail
  go_step3
  go_wp2_with fail
  refine HC.out.mono ?_
  rintro e w1 ⟨rfl, nd, rfl⟩
  go_wp2_with fail
  go_step3
  go_wp2_with fail
  go_loopg [0, 2] (s.size + 1) (fun n sl sv wr => TokRel r s.size w sl sv n wr)
  case atStart => exact ⟨[], l0, rfl, World.ownsRow_nil _ _ _ _, below_drewN (Below.refl _ _) nd, by omega, by simp; omega, HR.out⟩
  case round =>
    obtain ⟨acc, l, rfl, hown, hb, hln, hla, hgo⟩ := hrel
    obtain ⟨a, cap, rfl⟩ := own_slice hown
    have HO := Lib.hid hown
    have HG := Lib.hid hgo
    obtain ⟨n, rfl⟩ : ∃ n, gk = n + 1 := ⟨gk - 1, by omega⟩
    clear hown hgo
    cases l with
    | nil =>
      have hg : r = some acc := by rw [← HG.out, tokGo]
      have HGG := Lib.hid hg
      clear hg
      go_wp2
      try rw [Exit.noGoto_ret]
      go_ret
      rw [HGG.out]
      exact ⟨⟨_, rfl, HO.out⟩, hb⟩
    | cons c t =>
      have hsz := size_mk (c :: t)
      obtain ⟨u, hu⟩ : ∃ u : ByteArray, u = ⟨(c :: t).toArray⟩ := ⟨_, rfl⟩
      have hud : u.data.toList = c :: t := by rw [hu]
      rw [← hu] at hsz ⊢
      have HU := Lib.hid hu
      have HUD := Lib.hid hud
      have hpos : (0 : Int) < (u.size : Int) := by rw [hsz]; simp
      have HSZ := Lib.hid hsz
      clear hu hud
      have hlt : t.length + 1 ≤ s.size := by have h1 := hla; simp at h1; omega
      clear hsz
      have P0 := HCP.out u ⟨#[33, 61]⟩
      have P1 := HCP.out u ⟨#[46, 46]⟩
      have P2 := HCP.out u ⟨#[61]⟩
      have P3 := HCP.out u ⟨#[44]⟩
      have P4 := HCP.out u ⟨#[37]⟩
      rw [HUD.out] at P0
      rw [HUD.out] at P1
      rw [HUD.out] at P2
      rw [HUD.out] at P3
      rw [HUD.out] at P4
      cases q0 : Lib.hasPrefix (c :: t) (⟨#[33, 61]⟩ : ByteArray).data.toList
      · skip
        rw [q0, prefix_no q0] at P0
        have HP0 := Lib.hid P0
        have Q0 := Lib.hid q0
        clear P0 q0
        cases q1 : Lib.hasPrefix (c :: t) (⟨#[46, 46]⟩ : ByteArray).data.toList
        · skip
          rw [q1, prefix_no q1] at P1
          have HP1 := Lib.hid P1
          have Q1 := Lib.hid q1
          clear P1 q1
          cases q2 : Lib.hasPrefix (c :: t) (⟨#[61]⟩ : ByteArray).data.toList
          · skip
            rw [q2, prefix_no q2] at P2
            have HP2 := Lib.hid P2
            have Q2 := Lib.hid q2
            clear P2 q2
            cases q3 : Lib.hasPrefix (c :: t) (⟨#[44]⟩ : ByteArray).data.toList
            · skip
              rw [q3, prefix_no q3] at P3
              have HP3 := Lib.hid P3
              have Q3 := Lib.hid q3
              clear P3 q3
              cases q4 : Lib.hasPrefix (c :: t) (⟨#[37]⟩ : ByteArray).data.toList
              · skip
                rw [q4, prefix_no q4] at P4
                have HP4 := Lib.hid P4
                have Q4 := Lib.hid q4
                clear P4 q4
                have hsg := sign_miss Q0.out Q1.out Q2.out Q3.out Q4.out
                have hgo := HG.out
                rw [tokGo, hsg] at hgo
                have HGO := Lib.hid hgo
                clear hgo hsg
                go_wp2_with fail
                refine wp_loop_rounds 6 ?_
                rw [rounds_succ]
                go_wp2_with fail
                refine (HP0.out _).mono ?_
                rintro e wz0 ⟨rfl, rfl⟩
                go_wp2_with fail
                rw [rounds_succ]
                go_wp2_with fail
                refine (HP1.out _).mono ?_
                rintro e wz1 ⟨rfl, rfl⟩
                go_wp2_with fail
                rw [rounds_succ]
                go_wp2_with fail
                refine (HP2.out _).mono ?_
                rintro e wz2 ⟨rfl, rfl⟩
                go_wp2_with fail
                rw [rounds_succ]
                go_wp2_with fail
                refine (HP3.out _).mono ?_
                rintro e wz3 ⟨rfl, rfl⟩
                go_wp2_with fail
                rw [rounds_succ]
                go_wp2_with fail
                refine (HP4.out _).mono ?_
                rintro e wz4 ⟨rfl, rfl⟩
                go_wp2_with fail
                rw [rounds_succ]
                have hcl := fun W => class_any c W
                have hg0 : u[0]'(by omega) = c := by
                  have h1 := HU.out
                  subst h1
                  simp [ByteArray.getElem_eq_getElem_data]
                go_wp2_with fail
                have HCL := Lib.hid hcl
                have HG0 := Lib.hid hg0
                clear hcl hg0
                have hk3 := class_le c
                have hKc := (by omega : classL c = 0 ∨ classL c = 1 ∨ classL c = 2 ∨ classL c = 3)
                have hsz2 : u.size = t.length + 1 := HSZ.out
                have hux : ∀ m (h : m < t.length) (h2 : m + 1 < u.size), u[m + 1] = t[m] := fun m h h2 => by
                  have h1 := HU.out
                  subst h1
                  simp [ByteArray.getElem_eq_getElem_data]
                have HUX := Lib.hid hux
                have HCLW := HCL.out wr
                clear hix0 hix1 hix2 hix3 hix4 hux hk3 hsz2 hpos
                rcases hKc with hK | hK | hK | hK
                · skip
                  rw [hK] at HCLW
                  refine HCLW.mono ?_
                  rintro e w3 ⟨rfl, rfl⟩
                  have HK := Lib.hid hK
                  clear hK HCLW
                  go_wp2_with fail
                  go_loop [7] (fun v => ∃ m : Nat, m ≤ t.length ∧ v = .int .i64 ((m + 1 : Nat) : Int) ∧ (t.take m).all (fun d => classL d == classL c) = true) (fun v => t.length + 1 - (intOf v).toNat)
                  case atStart => exact ⟨0, Nat.zero_le _, rfl, rfl⟩
                  case round =>
                    obtain ⟨m, hm, rfl, hall⟩ := hrel
                    have HALL := Lib.hid hall
                    clear hall
                    by_cases hmt : m < t.length
                    · have b1 : m + 1 < u.size := by have hz0 : u.size = t.length + 1 := HSZ.out; omega
                      have hum := HUX.out m hmt b1
                      have b2 : (m : Int) + 1 < (u.size : Int) := by omega
                      have b3 : m + 1 ≤ u.size := by omega
                      have hcm := class_any t[m] wr
                      obtain ⟨K2, hK2⟩ : ∃ K2, classL t[m] = K2 := ⟨_, rfl⟩
                      rw [hK2] at hcm
                      have HCM := Lib.hid hcm
                      have HK2 := Lib.hid hK2
                      clear hcm hK2
                      go_wp2_with fail
                      refine HCM.out.mono ?_
                      rintro e w4 ⟨rfl, rfl⟩
                      by_cases hq : K2 = 0
                      · have hq' : ((K2 : Int) == 0) = true := by rw [hq]; rfl
                        have hal2 : (t.take (m + 1)).all (fun d => classL d == classL c) = true := by
                          rw [List.take_succ_eq_append_getElem hmt, List.all_append, HALL.out]
                          simp [HK2.out, HK.out, hq]
                        have HAL2 := Lib.hid hal2
                        clear hq hal2
                        go_wp2
                        exact ⟨⟨m + 1, by omega, by go_num, HAL2.out⟩, by simp [intOf]; omega⟩
                      · have hq' : ((K2 : Int) == 0) = false := by simp; omega
                        have hrun := run_of (p := fun d => classL d == classL c) hm HALL.out (fun h => by simp [HK2.out, HK.out, hq])
                        have HRUN := Lib.hid hrun
                        clear hrun hq
                        have hr0 : r = none := by rw [← HGO.out, if_pos HK.out]
                        have HR0 := Lib.hid hr0
                        clear hr0
                        go_wp2
                        refine ⟨rfl, ?_, hb⟩
                        rw [HR0.out]
                    · have hrun := run_of (p := fun d => classL d == classL c) hm HALL.out (fun h => absurd h hmt)
                      have HRUN := Lib.hid hrun
                      have b2 : ¬ ((m : Int) + 1 < (u.size : Int)) := by have hz0 : u.size = t.length + 1 := HSZ.out; omega
                      have b1 : ¬ (m + 1 < u.size) := by omega
                      have b3 : m + 1 ≤ u.size := by have hz0 : u.size = t.length + 1 := HSZ.out; omega
                      clear hrun hmt
                      have hr0 : r = none := by rw [← HGO.out, if_pos HK.out]
                      have HR0 := Lib.hid hr0
                      clear hr0
                      go_wp2
                      refine ⟨rfl, ?_, hb⟩
                      rw [HR0.out]
                · skip
                  rw [hK] at HCLW
                  refine HCLW.mono ?_
                  rintro e w3 ⟨rfl, rfl⟩
                  have HK := Lib.hid hK
                  clear hK HCLW
                  go_wp2_with fail
                  go_loop [7] (fun v => ∃ m : Nat, m ≤ t.length ∧ v = .int .i64 ((m + 1 : Nat) : Int) ∧ (t.take m).all (fun d => classL d == classL c) = true) (fun v => t.length + 1 - (intOf v).toNat)
                  case atStart => exact ⟨0, Nat.zero_le _, rfl, rfl⟩
                  case round =>
                    obtain ⟨m, hm, rfl, hall⟩ := hrel
                    have HALL := Lib.hid hall
                    clear hall
                    by_cases hmt : m < t.length
                    · have b1 : m + 1 < u.size := by have hz0 : u.size = t.length + 1 := HSZ.out; omega
                      have hum := HUX.out m hmt b1
                      have b2 : (m : Int) + 1 < (u.size : Int) := by omega
                      have b3 : m + 1 ≤ u.size := by omega
                      have hcm := class_any t[m] wr
                      obtain ⟨K2, hK2⟩ : ∃ K2, classL t[m] = K2 := ⟨_, rfl⟩
                      rw [hK2] at hcm
                      have HCM := Lib.hid hcm
                      have HK2 := Lib.hid hK2
                      clear hcm hK2
                      go_wp2_with fail
                      refine HCM.out.mono ?_
                      rintro e w4 ⟨rfl, rfl⟩
                      by_cases hq : K2 = 1
                      · have hq' : ((K2 : Int) == 1) = true := by rw [hq]; rfl
                        have hal2 : (t.take (m + 1)).all (fun d => classL d == classL c) = true := by
                          rw [List.take_succ_eq_append_getElem hmt, List.all_append, HALL.out]
                          simp [HK2.out, HK.out, hq]
                        have HAL2 := Lib.hid hal2
                        clear hq hal2
                        go_wp2
                        exact ⟨⟨m + 1, by omega, by go_num, HAL2.out⟩, by simp [intOf]; omega⟩
                      · have hq' : ((K2 : Int) == 1) = false := by simp; omega
                        have hrun := run_of (p := fun d => classL d == classL c) hm HALL.out (fun h => by simp [HK2.out, HK.out, hq])
                        have HRUN := Lib.hid hrun
                        clear hrun hq
                        have hgo2 : tokGo n acc (t.drop m) = r := by
                          have h1 := HGO.out
                          rw [if_neg (by rw [HK.out]; decide), HRUN.out.1, HRUN.out.2] at h1
                          rw [if_pos HK.out] at h1; exact h1
                        have HGO2 := Lib.hid hgo2
                        have hx2 : u.extract (m + 1) u.size = ⟨(t.drop m).toArray⟩ := by rw [extract_drop, HUD.out]; rfl
                        have hx1 : u.extract 0 (m + 1) = ⟨(c :: t.take m).toArray⟩ := by rw [extract_take, HUD.out]; rfl
                        have HX1 := Lib.hid hx1
                        have HX2 := Lib.hid hx2
                        clear hgo2 hx1 hx2
                        go_wp2
                        rw [HX2.out]
                        go_roundg n
                        case measure => omega
                        case rel => exact ⟨acc, t.drop m, rfl, HO.out, hb, by simp at hln ⊢; omega, by simp at hla ⊢; omega, HGO2.out⟩
                    · have hrun := run_of (p := fun d => classL d == classL c) hm HALL.out (fun h => absurd h hmt)
                      have HRUN := Lib.hid hrun
                      have b2 : ¬ ((m : Int) + 1 < (u.size : Int)) := by have hz0 : u.size = t.length + 1 := HSZ.out; omega
                      have b1 : ¬ (m + 1 < u.size) := by omega
                      have b3 : m + 1 ≤ u.size := by have hz0 : u.size = t.length + 1 := HSZ.out; omega
                      clear hrun hmt
                      have hgo2 : tokGo n acc (t.drop m) = r := by
                        have h1 := HGO.out
                        rw [if_neg (by rw [HK.out]; decide), HRUN.out.1, HRUN.out.2] at h1
                        rw [if_pos HK.out] at h1; exact h1
                      have HGO2 := Lib.hid hgo2
                      have hx2 : u.extract (m + 1) u.size = ⟨(t.drop m).toArray⟩ := by rw [extract_drop, HUD.out]; rfl
                      have hx1 : u.extract 0 (m + 1) = ⟨(c :: t.take m).toArray⟩ := by rw [extract_take, HUD.out]; rfl
                      have HX1 := Lib.hid hx1
                      have HX2 := Lib.hid hx2
                      clear hgo2 hx1 hx2
                      go_wp2
                      rw [HX2.out]
                      go_roundg n
                      case measure => omega
                      case rel => exact ⟨acc, t.drop m, rfl, HO.out, hb, by simp at hln ⊢; omega, by simp at hla ⊢; omega, HGO2.out⟩
                · skip
                  rw [hK] at HCLW
                  refine HCLW.mono ?_
                  rintro e w3 ⟨rfl, rfl⟩
                  have HK := Lib.hid hK
                  clear hK HCLW
                  go_wp2_with fail
                  go_loop [7] (fun v => ∃ m : Nat, m ≤ t.length ∧ v = .int .i64 ((m + 1 : Nat) : Int) ∧ (t.take m).all (fun d => classL d == classL c) = true) (fun v => t.length + 1 - (intOf v).toNat)
                  case atStart => exact ⟨0, Nat.zero_le _, rfl, rfl⟩
                  case round =>
                    obtain ⟨m, hm, rfl, hall⟩ := hrel
                    have HALL := Lib.hid hall
                    clear hall
                    by_cases hmt : m < t.length
                    · have b1 : m + 1 < u.size := by have hz0 : u.size = t.length + 1 := HSZ.out; omega
                      have hum := HUX.out m hmt b1
                      have b2 : (m : Int) + 1 < (u.size : Int) := by omega
                      have b3 : m + 1 ≤ u.size := by omega
                      have hcm := class_any t[m] wr
                      obtain ⟨K2, hK2⟩ : ∃ K2, classL t[m] = K2 := ⟨_, rfl⟩
                      rw [hK2] at hcm
                      have HCM := Lib.hid hcm
                      have HK2 := Lib.hid hK2
                      clear hcm hK2
                      go_wp2_with fail
                      refine HCM.out.mono ?_
                      rintro e w4 ⟨rfl, rfl⟩
                      by_cases hq : K2 = 2
                      · have hq' : ((K2 : Int) == 2) = true := by rw [hq]; rfl
                        have hal2 : (t.take (m + 1)).all (fun d => classL d == classL c) = true := by
                          rw [List.take_succ_eq_append_getElem hmt, List.all_append, HALL.out]
                          simp [HK2.out, HK.out, hq]
                        have HAL2 := Lib.hid hal2
                        clear hq hal2
                        go_wp2
                        exact ⟨⟨m + 1, by omega, by go_num, HAL2.out⟩, by simp [intOf]; omega⟩
                      · have hq' : ((K2 : Int) == 2) = false := by simp; omega
                        have hrun := run_of (p := fun d => classL d == classL c) hm HALL.out (fun h => by simp [HK2.out, HK.out, hq])
                        have HRUN := Lib.hid hrun
                        clear hrun hq
                        have hgo2 : tokGo n (acc ++ [c :: t.take m]) (t.drop m) = r := by
                          have h1 := HGO.out
                          rw [if_neg (by rw [HK.out]; decide), HRUN.out.1, HRUN.out.2] at h1
                          rw [if_neg (by rw [HK.out]; decide)] at h1; exact h1
                        have HGO2 := Lib.hid hgo2
                        have hx2 : u.extract (m + 1) u.size = ⟨(t.drop m).toArray⟩ := by rw [extract_drop, HUD.out]; rfl
                        have hx1 : u.extract 0 (m + 1) = ⟨(c :: t.take m).toArray⟩ := by rw [extract_take, HUD.out]; rfl
                        have HX1 := Lib.hid hx1
                        have HX2 := Lib.hid hx2
                        clear hgo2 hx1 hx2
                        go_wp2_with (at_builtin; refine app_own elem_strs rfl _ _ rfl w.heap.size _ _ _ rfl (HO.out.alloc _) ⟨wr.heap.size, 0, none⟩ 1 1 [.string (u.extract 0 (m + 1))] rfl rfl ?c1x2 ?c2x2 ?c3x2 ?c4x2 ?_)
                        try (case c1x2 => exact cells_one (cell_made _ _ _ _ _))
                        try (case c2x2 => first | rfl | (intro x hx; simp at hx; subst hx; rfl))
                        try (case c3x2 => omega)
                        try (case c4x2 => have := hb.size; simp; omega)
                        intro sv' w5 ho5 hg5
                        have hb5 : Below w.heap.size w w5 := (hb.alloc hb.size _).grown hg5 (by have := hb.size; simp; omega) (fun q hq => (HO.out.lt q hq).1)
                        obtain ⟨a5, c5, rfl⟩ := own_slice ho5
                        rw [HX1.out] at ho5
                        have HO5 := Lib.hid ho5
                        clear ho5 hg5
                        go_wp2
                        rw [HX2.out]
                        go_roundg n
                        case measure => omega
                        case rel => exact ⟨acc ++ [c :: t.take m], t.drop m, rfl, by simpa using HO5.out, hb5, by simp at hln ⊢; omega, by simp at hla; simp only [List.length_append, List.length_cons, List.length_nil, List.length_drop]; omega, HGO2.out⟩
                    · have hrun := run_of (p := fun d => classL d == classL c) hm HALL.out (fun h => absurd h hmt)
                      have HRUN := Lib.hid hrun
                      have b2 : ¬ ((m : Int) + 1 < (u.size : Int)) := by have hz0 : u.size = t.length + 1 := HSZ.out; omega
                      have b1 : ¬ (m + 1 < u.size) := by omega
                      have b3 : m + 1 ≤ u.size := by have hz0 : u.size = t.length + 1 := HSZ.out; omega
                      clear hrun hmt
                      have hgo2 : tokGo n (acc ++ [c :: t.take m]) (t.drop m) = r := by
                        have h1 := HGO.out
                        rw [if_neg (by rw [HK.out]; decide), HRUN.out.1, HRUN.out.2] at h1
                        rw [if_neg (by rw [HK.out]; decide)] at h1; exact h1
                      have HGO2 := Lib.hid hgo2
                      have hx2 : u.extract (m + 1) u.size = ⟨(t.drop m).toArray⟩ := by rw [extract_drop, HUD.out]; rfl
                      have hx1 : u.extract 0 (m + 1) = ⟨(c :: t.take m).toArray⟩ := by rw [extract_take, HUD.out]; rfl
                      have HX1 := Lib.hid hx1
                      have HX2 := Lib.hid hx2
                      clear hgo2 hx1 hx2
                      go_wp2_with (at_builtin; refine app_own elem_strs rfl _ _ rfl w.heap.size _ _ _ rfl (HO.out.alloc _) ⟨wr.heap.size, 0, none⟩ 1 1 [.string (u.extract 0 (m + 1))] rfl rfl ?c1x3 ?c2x3 ?c3x3 ?c4x3 ?_)
                      try (case c1x3 => exact cells_one (cell_made _ _ _ _ _))
                      try (case c2x3 => first | rfl | (intro x hx; simp at hx; subst hx; rfl))
                      try (case c3x3 => omega)
                      try (case c4x3 => have := hb.size; simp; omega)
                      intro sv' w5 ho5 hg5
                      have hb5 : Below w.heap.size w w5 := (hb.alloc hb.size _).grown hg5 (by have := hb.size; simp; omega) (fun q hq => (HO.out.lt q hq).1)
                      obtain ⟨a5, c5, rfl⟩ := own_slice ho5
                      rw [HX1.out] at ho5
                      have HO5 := Lib.hid ho5
                      clear ho5 hg5
                      go_wp2
                      rw [HX2.out]
                      go_roundg n
                      case measure => omega
                      case rel => exact ⟨acc ++ [c :: t.take m], t.drop m, rfl, by simpa using HO5.out, hb5, by simp at hln ⊢; omega, by simp at hla; simp only [List.length_append, List.length_cons, List.length_nil, List.length_drop]; omega, HGO2.out⟩
                · skip
                  rw [hK] at HCLW
                  refine HCLW.mono ?_
                  rintro e w3 ⟨rfl, rfl⟩
                  have HK := Lib.hid hK
                  clear hK HCLW
                  go_wp2_with fail
                  go_loop [7] (fun v => ∃ m : Nat, m ≤ t.length ∧ v = .int .i64 ((m + 1 : Nat) : Int) ∧ (t.take m).all (fun d => classL d == classL c) = true) (fun v => t.length + 1 - (intOf v).toNat)
                  case atStart => exact ⟨0, Nat.zero_le _, rfl, rfl⟩
                  case round =>
                    obtain ⟨m, hm, rfl, hall⟩ := hrel
                    have HALL := Lib.hid hall
                    clear hall
                    by_cases hmt : m < t.length
                    · have b1 : m + 1 < u.size := by have hz0 : u.size = t.length + 1 := HSZ.out; omega
                      have hum := HUX.out m hmt b1
                      have b2 : (m : Int) + 1 < (u.size : Int) := by omega
                      have b3 : m + 1 ≤ u.size := by omega
                      have hcm := class_any t[m] wr
                      obtain ⟨K2, hK2⟩ : ∃ K2, classL t[m] = K2 := ⟨_, rfl⟩
                      rw [hK2] at hcm
                      have HCM := Lib.hid hcm
                      have HK2 := Lib.hid hK2
                      clear hcm hK2
                      go_wp2_with fail
                      refine HCM.out.mono ?_
                      rintro e w4 ⟨rfl, rfl⟩
                      by_cases hq : K2 = 3
                      · have hq' : ((K2 : Int) == 3) = true := by rw [hq]; rfl
                        have hal2 : (t.take (m + 1)).all (fun d => classL d == classL c) = true := by
                          rw [List.take_succ_eq_append_getElem hmt, List.all_append, HALL.out]
                          simp [HK2.out, HK.out, hq]
                        have HAL2 := Lib.hid hal2
                        clear hq hal2
                        go_wp2
                        exact ⟨⟨m + 1, by omega, by go_num, HAL2.out⟩, by simp [intOf]; omega⟩
                      · have hq' : ((K2 : Int) == 3) = false := by simp; omega
                        have hrun := run_of (p := fun d => classL d == classL c) hm HALL.out (fun h => by simp [HK2.out, HK.out, hq])
                        have HRUN := Lib.hid hrun
                        clear hrun hq
                        have hgo2 : tokGo n (acc ++ [c :: t.take m]) (t.drop m) = r := by
                          have h1 := HGO.out
                          rw [if_neg (by rw [HK.out]; decide), HRUN.out.1, HRUN.out.2] at h1
                          rw [if_neg (by rw [HK.out]; decide)] at h1; exact h1
                        have HGO2 := Lib.hid hgo2
                        have hx2 : u.extract (m + 1) u.size = ⟨(t.drop m).toArray⟩ := by rw [extract_drop, HUD.out]; rfl
                        have hx1 : u.extract 0 (m + 1) = ⟨(c :: t.take m).toArray⟩ := by rw [extract_take, HUD.out]; rfl
                        have HX1 := Lib.hid hx1
                        have HX2 := Lib.hid hx2
                        clear hgo2 hx1 hx2
                        go_wp2_with (at_builtin; refine app_own elem_strs rfl _ _ rfl w.heap.size _ _ _ rfl (HO.out.alloc _) ⟨wr.heap.size, 0, none⟩ 1 1 [.string (u.extract 0 (m + 1))] rfl rfl ?c1x4 ?c2x4 ?c3x4 ?c4x4 ?_)
                        try (case c1x4 => exact cells_one (cell_made _ _ _ _ _))
                        try (case c2x4 => first | rfl | (intro x hx; simp at hx; subst hx; rfl))
                        try (case c3x4 => omega)
                        try (case c4x4 => have := hb.size; simp; omega)
                        intro sv' w5 ho5 hg5
                        have hb5 : Below w.heap.size w w5 := (hb.alloc hb.size _).grown hg5 (by have := hb.size; simp; omega) (fun q hq => (HO.out.lt q hq).1)
                        obtain ⟨a5, c5, rfl⟩ := own_slice ho5
                        rw [HX1.out] at ho5
                        have HO5 := Lib.hid ho5
                        clear ho5 hg5
                        go_wp2
                        rw [HX2.out]
                        go_roundg n
                        case measure => omega
                        case rel => exact ⟨acc ++ [c :: t.take m], t.drop m, rfl, by simpa using HO5.out, hb5, by simp at hln ⊢; omega, by simp at hla; simp only [List.length_append, List.length_cons, List.length_nil, List.length_drop]; omega, HGO2.out⟩
                    · have hrun := run_of (p := fun d => classL d == classL c) hm HALL.out (fun h => absurd h hmt)
                      have HRUN := Lib.hid hrun
                      have b2 : ¬ ((m : Int) + 1 < (u.size : Int)) := by have hz0 : u.size = t.length + 1 := HSZ.out; omega
                      have b1 : ¬ (m + 1 < u.size) := by omega
                      have b3 : m + 1 ≤ u.size := by have hz0 : u.size = t.length + 1 := HSZ.out; omega
                      clear hrun hmt
                      have hgo2 : tokGo n (acc ++ [c :: t.take m]) (t.drop m) = r := by
                        have h1 := HGO.out
                        rw [if_neg (by rw [HK.out]; decide), HRUN.out.1, HRUN.out.2] at h1
                        rw [if_neg (by rw [HK.out]; decide)] at h1; exact h1
                      have HGO2 := Lib.hid hgo2
                      have hx2 : u.extract (m + 1) u.size = ⟨(t.drop m).toArray⟩ := by rw [extract_drop, HUD.out]; rfl
                      have hx1 : u.extract 0 (m + 1) = ⟨(c :: t.take m).toArray⟩ := by rw [extract_take, HUD.out]; rfl
                      have HX1 := Lib.hid hx1
                      have HX2 := Lib.hid hx2
                      clear hgo2 hx1 hx2
                      go_wp2_with (at_builtin; refine app_own elem_strs rfl _ _ rfl w.heap.size _ _ _ rfl (HO.out.alloc _) ⟨wr.heap.size, 0, none⟩ 1 1 [.string (u.extract 0 (m + 1))] rfl rfl ?c1x5 ?c2x5 ?c3x5 ?c4x5 ?_)
                      try (case c1x5 => exact cells_one (cell_made _ _ _ _ _))
                      try (case c2x5 => first | rfl | (intro x hx; simp at hx; subst hx; rfl))
                      try (case c3x5 => omega)
                      try (case c4x5 => have := hb.size; simp; omega)
                      intro sv' w5 ho5 hg5
                      have hb5 : Below w.heap.size w w5 := (hb.alloc hb.size _).grown hg5 (by have := hb.size; simp; omega) (fun q hq => (HO.out.lt q hq).1)
                      obtain ⟨a5, c5, rfl⟩ := own_slice ho5
                      rw [HX1.out] at ho5
                      have HO5 := Lib.hid ho5
                      clear ho5 hg5
                      go_wp2
                      rw [HX2.out]
                      go_roundg n
                      case measure => omega
                      case rel => exact ⟨acc ++ [c :: t.take m], t.drop m, rfl, by simpa using HO5.out, hb5, by simp at hln ⊢; omega, by simp at hla; simp only [List.length_append, List.length_cons, List.length_nil, List.length_drop]; omega, HGO2.out⟩
              · skip
                obtain ⟨hsg, htr⟩ := sign_hit (by simp) q4
                rw [q4, htr] at P4
                have HP4 := Lib.hid P4
                have hgo := HG.out
                rw [tokGo, hsg] at hgo
                have HGO := Lib.hid hgo
                have hdl : ((c :: t).drop ([37] : List UInt8).length).length ≤ t.length := by simp
                have HDL := Lib.hid hdl
                clear q4 hsg htr hgo hdl P4 
                go_wp2_with fail
                refine wp_loop_rounds 6 ?_
                rw [rounds_succ]
                go_wp2_with fail
                refine (HP0.out _).mono ?_
                rintro e wz0 ⟨rfl, rfl⟩
                go_wp2_with fail
                rw [rounds_succ]
                go_wp2_with fail
                refine (HP1.out _).mono ?_
                rintro e wz1 ⟨rfl, rfl⟩
                go_wp2_with fail
                rw [rounds_succ]
                go_wp2_with fail
                refine (HP2.out _).mono ?_
                rintro e wz2 ⟨rfl, rfl⟩
                go_wp2_with fail
                rw [rounds_succ]
                go_wp2_with fail
                refine (HP3.out _).mono ?_
                rintro e wz3 ⟨rfl, rfl⟩
                go_wp2_with fail
                rw [rounds_succ]
                go_wp2_with fail
                refine (HP4.out _).mono ?_
                rintro e wz4 ⟨rfl, rfl⟩
                go_wp2_with (at_builtin; refine app_own elem_strs rfl _ _ rfl w.heap.size _ _ _ rfl (HO.out.alloc _) ⟨wr.heap.size, 0, none⟩ 1 1 [strv [37]] rfl rfl ?c1x6 ?c2x6 ?c3x6 ?c4x6 ?_)
                try (case c1x6 => exact cells_one (cell_made _ _ _ _ _))
                try (case c2x6 => first | rfl | (intro u hu; simp at hu; subst hu; rfl))
                try (case c3x6 => omega)
                try (case c4x6 => have := hb.size; simp; omega)
                intro sv' w5 ho5 hg5
                have hb5 : Below w.heap.size w w5 := (hb.alloc hb.size _).grown hg5 (by have := hb.size; simp; omega) (fun q hq => (HO.out.lt q hq).1)
                obtain ⟨a5, c5, rfl⟩ := own_slice ho5
                have HO5 := Lib.hid ho5
                clear ho5 hg5
                go_wp2
                go_roundg n
                case measure => omega
                case rel => exact ⟨acc ++ [[37]], _, rfl, by simpa using HO5.out, hb5, by first | (have := HDL.out; simp at hln; omega) | (simp at hln ⊢; omega) | (simp at hln ⊢; exact hln), by first | (have := HDL.out; simp at hla; simp only [List.length_append, List.length_cons, List.length_nil]; omega) | (simp at hla ⊢; omega), by first | exact HGO.out | simpa using HGO.out⟩
            · skip
              obtain ⟨hsg, htr⟩ := sign_hit (by simp) q3
              rw [q3, htr] at P3
              have HP3 := Lib.hid P3
              have hgo := HG.out
              rw [tokGo, hsg] at hgo
              have HGO := Lib.hid hgo
              have hdl : ((c :: t).drop ([44] : List UInt8).length).length ≤ t.length := by simp
              have HDL := Lib.hid hdl
              clear q3 hsg htr hgo hdl P3 P4
              go_wp2_with fail
              refine wp_loop_rounds 6 ?_
              rw [rounds_succ]
              go_wp2_with fail
              refine (HP0.out _).mono ?_
              rintro e wz0 ⟨rfl, rfl⟩
              go_wp2_with fail
              rw [rounds_succ]
              go_wp2_with fail
              refine (HP1.out _).mono ?_
              rintro e wz1 ⟨rfl, rfl⟩
              go_wp2_with fail
              rw [rounds_succ]
              go_wp2_with fail
              refine (HP2.out _).mono ?_
              rintro e wz2 ⟨rfl, rfl⟩
              go_wp2_with fail
              rw [rounds_succ]
              go_wp2_with fail
              refine (HP3.out _).mono ?_
              rintro e wz3 ⟨rfl, rfl⟩
              go_wp2_with (at_builtin; refine app_own elem_strs rfl _ _ rfl w.heap.size _ _ _ rfl (HO.out.alloc _) ⟨wr.heap.size, 0, none⟩ 1 1 [strv [44]] rfl rfl ?c1x7 ?c2x7 ?c3x7 ?c4x7 ?_)
              try (case c1x7 => exact cells_one (cell_made _ _ _ _ _))
              try (case c2x7 => first | rfl | (intro u hu; simp at hu; subst hu; rfl))
              try (case c3x7 => omega)
              try (case c4x7 => have := hb.size; simp; omega)
              intro sv' w5 ho5 hg5
              have hb5 : Below w.heap.size w w5 := (hb.alloc hb.size _).grown hg5 (by have := hb.size; simp; omega) (fun q hq => (HO.out.lt q hq).1)
              obtain ⟨a5, c5, rfl⟩ := own_slice ho5
              have HO5 := Lib.hid ho5
              clear ho5 hg5
              go_wp2
              go_roundg n
              case measure => omega
              case rel => exact ⟨acc ++ [[44]], _, rfl, by simpa using HO5.out, hb5, by first | (have := HDL.out; simp at hln; omega) | (simp at hln ⊢; omega) | (simp at hln ⊢; exact hln), by first | (have := HDL.out; simp at hla; simp only [List.length_append, List.length_cons, List.length_nil]; omega) | (simp at hla ⊢; omega), by first | exact HGO.out | simpa using HGO.out⟩
          · skip
            obtain ⟨hsg, htr⟩ := sign_hit (by simp) q2
            rw [q2, htr] at P2
            have HP2 := Lib.hid P2
            have hgo := HG.out
            rw [tokGo, hsg] at hgo
            have HGO := Lib.hid hgo
            have hdl : ((c :: t).drop ([61] : List UInt8).length).length ≤ t.length := by simp
            have HDL := Lib.hid hdl
            clear q2 hsg htr hgo hdl P2 P3 P4
            go_wp2_with fail
            refine wp_loop_rounds 6 ?_
            rw [rounds_succ]
            go_wp2_with fail
            refine (HP0.out _).mono ?_
            rintro e wz0 ⟨rfl, rfl⟩
            go_wp2_with fail
            rw [rounds_succ]
            go_wp2_with fail
            refine (HP1.out _).mono ?_
            rintro e wz1 ⟨rfl, rfl⟩
            go_wp2_with fail
            rw [rounds_succ]
            go_wp2_with fail
            refine (HP2.out _).mono ?_
            rintro e wz2 ⟨rfl, rfl⟩
            go_wp2_with (at_builtin; refine app_own elem_strs rfl _ _ rfl w.heap.size _ _ _ rfl (HO.out.alloc _) ⟨wr.heap.size, 0, none⟩ 1 1 [strv [61]] rfl rfl ?c1x8 ?c2x8 ?c3x8 ?c4x8 ?_)
            try (case c1x8 => exact cells_one (cell_made _ _ _ _ _))
            try (case c2x8 => first | rfl | (intro u hu; simp at hu; subst hu; rfl))
            try (case c3x8 => omega)
            try (case c4x8 => have := hb.size; simp; omega)
            intro sv' w5 ho5 hg5
            have hb5 : Below w.heap.size w w5 := (hb.alloc hb.size _).grown hg5 (by have := hb.size; simp; omega) (fun q hq => (HO.out.lt q hq).1)
            obtain ⟨a5, c5, rfl⟩ := own_slice ho5
            have HO5 := Lib.hid ho5
            clear ho5 hg5
            go_wp2
            go_roundg n
            case measure => omega
            case rel => exact ⟨acc ++ [[61]], _, rfl, by simpa using HO5.out, hb5, by first | (have := HDL.out; simp at hln; omega) | (simp at hln ⊢; omega) | (simp at hln ⊢; exact hln), by first | (have := HDL.out; simp at hla; simp only [List.length_append, List.length_cons, List.length_nil]; omega) | (simp at hla ⊢; omega), by first | exact HGO.out | simpa using HGO.out⟩
        · skip
          obtain ⟨hsg, htr⟩ := sign_hit (by simp) q1
          rw [q1, htr] at P1
          have HP1 := Lib.hid P1
          have hgo := HG.out
          rw [tokGo, hsg] at hgo
          have HGO := Lib.hid hgo
          have hdl : ((c :: t).drop ([46, 46] : List UInt8).length).length ≤ t.length := by simp
          have HDL := Lib.hid hdl
          clear q1 hsg htr hgo hdl P1 P2 P3 P4
          go_wp2_with fail
          refine wp_loop_rounds 6 ?_
          rw [rounds_succ]
          go_wp2_with fail
          refine (HP0.out _).mono ?_
          rintro e wz0 ⟨rfl, rfl⟩
          go_wp2_with fail
          rw [rounds_succ]
          go_wp2_with fail
          refine (HP1.out _).mono ?_
          rintro e wz1 ⟨rfl, rfl⟩
          go_wp2_with (at_builtin; refine app_own elem_strs rfl _ _ rfl w.heap.size _ _ _ rfl (HO.out.alloc _) ⟨wr.heap.size, 0, none⟩ 1 1 [strv [46, 46]] rfl rfl ?c1x9 ?c2x9 ?c3x9 ?c4x9 ?_)
          try (case c1x9 => exact cells_one (cell_made _ _ _ _ _))
          try (case c2x9 => first | rfl | (intro u hu; simp at hu; subst hu; rfl))
          try (case c3x9 => omega)
          try (case c4x9 => have := hb.size; simp; omega)
          intro sv' w5 ho5 hg5
          have hb5 : Below w.heap.size w w5 := (hb.alloc hb.size _).grown hg5 (by have := hb.size; simp; omega) (fun q hq => (HO.out.lt q hq).1)
          obtain ⟨a5, c5, rfl⟩ := own_slice ho5
          have HO5 := Lib.hid ho5
          clear ho5 hg5
          go_wp2
          go_roundg n
          case measure => omega
          case rel => exact ⟨acc ++ [[46, 46]], _, rfl, by simpa using HO5.out, hb5, by first | (have := HDL.out; simp at hln; omega) | (simp at hln ⊢; omega) | (simp at hln ⊢; exact hln), by first | (have := HDL.out; simp at hla; simp only [List.length_append, List.length_cons, List.length_nil]; omega) | (simp at hla ⊢; omega), by first | exact HGO.out | simpa using HGO.out⟩
      · skip
        obtain ⟨hsg, htr⟩ := sign_hit (by simp) q0
        rw [q0, htr] at P0
        have HP0 := Lib.hid P0
        have hgo := HG.out
        rw [tokGo, hsg] at hgo
        have HGO := Lib.hid hgo
        have hdl : ((c :: t).drop ([33, 61] : List UInt8).length).length ≤ t.length := by simp
        have HDL := Lib.hid hdl
        clear q0 hsg htr hgo hdl P0 P1 P2 P3 P4
        go_wp2_with fail
        refine wp_loop_rounds 6 ?_
        rw [rounds_succ]
        go_wp2_with fail
        refine (HP0.out _).mono ?_
        rintro e wz0 ⟨rfl, rfl⟩
        go_wp2_with (at_builtin; refine app_own elem_strs rfl _ _ rfl w.heap.size _ _ _ rfl (HO.out.alloc _) ⟨wr.heap.size, 0, none⟩ 1 1 [strv [33, 61]] rfl rfl ?c1x10 ?c2x10 ?c3x10 ?c4x10 ?_)
        try (case c1x10 => exact cells_one (cell_made _ _ _ _ _))
        try (case c2x10 => first | rfl | (intro u hu; simp at hu; subst hu; rfl))
        try (case c3x10 => omega)
        try (case c4x10 => have := hb.size; simp; omega)
        intro sv' w5 ho5 hg5
        have hb5 : Below w.heap.size w w5 := (hb.alloc hb.size _).grown hg5 (by have := hb.size; simp; omega) (fun q hq => (HO.out.lt q hq).1)
        obtain ⟨a5, c5, rfl⟩ := own_slice ho5
        have HO5 := Lib.hid ho5
        clear ho5 hg5
        go_wp2
        go_roundg n
        case measure => omega
        case rel => exact ⟨acc ++ [[33, 61]], _, rfl, by simpa using HO5.out, hb5, by first | (have := HDL.out; simp at hln; omega) | (simp at hln ⊢; omega) | (simp at hln ⊢; exact hln), by first | (have := HDL.out; simp at hla; simp only [List.length_append, List.length_cons, List.length_nil]; omega) | (simp at hla ⊢; omega), by first | exact HGO.out | simpa using HGO.out⟩
end Go.Proofs.YtpepgmccbkkaaaaGreatDoor
