import Derived.Test.YtpepgmccbkkaaaaGreatDoorJ25

/- The law Grouped: it returns true. -/
namespace Go.Proofs.YtpepgmccbkkaaaaGreatDoor
open Go Go.RowKit
set_option maxRecDepth 10000

/-- all that numbers in locales with rules want of a world -/
structure EngW (w : World) : Prop where
  tabs : Tabs w
  rt : RT0 w
  names : NamesAt w
theorem EngW.below {w w' : World} (h : EngW w) (hb : Below w.heap.size w w') : EngW w' := ⟨h.tabs.below hb, h.rt.below hb, h.names.below hb⟩

def factS : ByteArray := ⟨#[45, 49, 50, 51, 52, 53, 54, 55, 46, 53, 48]⟩

theorem known_eng : knownL true true 45 46 44 3 0 [] = true := by kernel_rfl
theorem known_bare : knownL true true 45 46 0 0 0 [] = true := by kernel_rfl
theorem known_group (a b : Nat) (ha : a < 10) (hb : b < 10) : knownL true true 45 46 44 a b [] = true := by
  have h1 : decide ((a : Int) ≤ 9) = true := by simp; omega
  have h2 : decide ((b : Int) ≤ 9) = true := by simp; omega
  unfold knownL
  rw [h1, h2, ptsL_nil]
  decide

theorem fact_num : isNumL factS.data.toList = true := by kernel_rfl
theorem fact_text : textL (knownL true true 45 46 44 3 0 []) factS.data.toList 45 46 44 3 0 [] = [45, 49, 44, 50, 51, 52, 44, 53, 54, 55, 46, 53, 48] := by
  unfold textL
  rw [known_eng, fact_num]
  kernel_rfl

theorem len_split (l : List UInt8) : l.length = (l.filter (· != 44)).length + l.count 44 := by
  induction l with
  | nil => rfl
  | cons c t ih =>
    by_cases h : c = 44
    · subst h
      simp at ih ⊢
      omega
    · simp [h] at ih ⊢
      omega

theorem group_len {s : List UInt8} (h : isNumL s = true) (hs : s.length ≤ 60) (a b : Nat) : (writtenL (negL s) (wholeL s) (fracL s) [] 45 46 44 a b).length ≤ 1000 := by
  obtain ⟨h1, h2⟩ := group_text h a b
  obtain ⟨_, _, _, h30⟩ := num_parts h
  have hl := len_split (writtenL (negL s) (wholeL s) (fracL s) [] 45 46 44 a b)
  rw [h1, h2] at hl
  have hm : manyN a (if b = 0 then a else b) (wholeL s).length ≤ 31 := by
    unfold manyN
    split
    · have := Nat.div_le_self ((wholeL s).length - a - 1) (if b = 0 then a else b)
      omega
    · omega
  omega

theorem byte_num (c d : UInt8) : ((c.toNat : Int) == (d.toNat : Int)) = (c == d) := by
  rw [toNat_beq]
  by_cases h : c = d <;> simp [h]

set_option maxHeartbeats 16000000 in
theorem grouped_law (s : ByteArray) (fi ne : Int) (w : World) (hs : s.size ≤ 9223372036854775807) (hf : -9223372036854775808 ≤ fi ∧ fi ≤ 9223372036854775807) (hn : -9223372036854775808 ≤ ne ∧ ne ≤ 9223372036854775807) (hE : EngW w) :
    Calls Tryz.prog 4 #[.string s, .int .i64 fi, .int .i64 ne] w fun e w' => e = .returned (.bool true) ∧ Below w.heap.size w w' := by
  have HE := Lib.hid hE
  clear hE
  by_cases h1 : 60 < s.size
  · have g1 : decide (60 < s.size) = true := decide_eq_true h1
    go_enter Tryz.func4, Tryz.ntmps4
    go_wp2
    go_ret
    exact ⟨rfl, Below.refl _ _⟩
  · have g1 : decide (60 < s.size) = false := decide_eq_false h1
    have hfact := fun W c o (h : EngW W) (h1 : RulesAt W c engC) (h2 : RulesAt W o engO) => pnumber_any factS c o true true 45 46 44 3 0 ⟨#[]⟩ _ _ W (by decide) (by decide) (by decide) (by decide)
      (eng_ruled.1 ▸ pread_rules engC c W h1 (by decide) (by decide) h.rt h.names) (eng_ruled.2 ▸ pread_rules engO o W h2 (by decide) (by decide) h.rt h.names) ⟨by obtain ⟨a, k, e, _⟩ := h1; exact ⟨_, _, _, e⟩, by obtain ⟨a, k, e, _⟩ := h2; exact ⟨_, _, _, e⟩⟩ h.tabs
    have hcode : codeL (knownL true true 45 46 44 3 0 []) factS.data.toList = 0 := by unfold codeL; rw [known_eng, fact_num]; rfl
    rw [show (⟨#[]⟩ : ByteArray).data.toList = [] from rfl, show (((3 : Nat) : Int)) = 3 from rfl, show (((0 : Nat) : Int)) = 0 from rfl, fact_text, hcode, show factS = ⟨#[45, 49, 50, 51, 52, 53, 54, 55, 46, 53, 48]⟩ from rfl] at hfact
    have HFACT := Lib.hid hfact
    have hbare := fun W (h : EngW W) => pnumber_any s (.slice none 0 0) (.slice none 0 0) true true 45 46 0 0 0 ⟨#[]⟩ _ _ W (by omega) (by decide) (by decide) (by decide) (pread_nil W) (pread_nil W) ⟨⟨_, _, _, rfl⟩, _, _, _, rfl⟩ h.tabs
    have hgrp := fun W a b (ha : a < 10) (hb : b < 10) (h : EngW W) => pnumber_any s (.slice none 0 0) (.slice none 0 0) true true 45 46 44 a b ⟨#[]⟩ _ _ W (by omega) (by decide) (by omega) (by omega) (pread_nil W) (pread_nil W) ⟨⟨_, _, _, rfl⟩, _, _, _, rfl⟩ h.tabs
    have HBARE := Lib.hid hbare
    have HGRP := Lib.hid hgrp
    have hp1 := fun W => pick_any fi 10 W (by decide) (by decide) hf
    have hp2 := fun W => pick_any ne 10 W (by decide) (by decide) hn
    have HP1 := Lib.hid hp1
    have HP2 := Lib.hid hp2
    clear hfact hcode hbare hgrp hp1 hp2 hf hn
    go_enter Tryz.func4, Tryz.ntmps4
    go_wp2_with fail
    refine (english_any w).mono ?_
    rintro e w1 ⟨⟨c, o, rfl, hc, ho⟩, hb1⟩
    obtain ⟨ca, cn, ck, rfl⟩ : ∃ a n k, c = .slice a n k := by obtain ⟨a, k, e, _⟩ := hc; exact ⟨_, _, _, e⟩
    obtain ⟨oa, on, ok, rfl⟩ : ∃ a n k, o = .slice a n k := by obtain ⟨a, k, e, _⟩ := ho; exact ⟨_, _, _, e⟩
    have HC := Lib.hid hc
    have HO := Lib.hid ho
    clear hc ho
    go_wp2_with fail
    refine calls_gen ?_
    intro W hW
    have hbW : Below w1.heap.size w1 W := by rw [hW]; exact (Below.refl _ _).alloc (Nat.le_refl _) _
    clear hW
    have hb0W := hb1.trans (hbW.mono hb1.size)
    refine (HFACT.out W _ _ (HE.out.below hb0W) (HC.out.below hbW) (HO.out.below hbW)).mono ?_
    rintro e w2 ⟨rfl, hb2⟩
    have hb02 := hb0W.trans (hb2.mono hb0W.size)
    clear hb1 hbW hb0W hb2 HFACT HC HO
    go_wp2_with fail
    refine (HP1.out w2).mono ?_
    rintro e w' ⟨⟨a, ha, rfl⟩, rfl⟩
    go_wp2_with fail
    refine (HP2.out w2).mono ?_
    rintro e w' ⟨⟨b, hb, rfl⟩, rfl⟩
    clear HP1 HP2
    go_wp2_with fail
    refine (bare_any w2).mono ?_
    rintro e w3 ⟨rfl, hb3⟩
    have hb03 := hb02.trans (hb3.mono hb02.size)
    clear hb3 hb02
    go_wp2_with fail
    refine calls_gen ?_
    intro W hW
    have hbW : Below w.heap.size w W := by rw [hW]; exact hb03.alloc hb03.size _
    have hL : LocAt W w3.heap.size (.slice none 0 0) (.slice none 0 0) 45 46 0 0 0 ⟨#[]⟩ := by
      rw [hW]
      refine ⟨?_, ?_, ?_, ?_, ?_, ?_, ?_, ?_⟩ <;> exact cell_made _ _ _ _ _
    have hZ : ∀ j, W.frozen? ⟨w3.heap.size, j, none⟩ = false := by rw [hW]; intro j; go_simp
    have hz : w3.heap.size < W.heap.size := by rw [hW]; simp
    have hw3 : w.heap.size ≤ w3.heap.size := hb03.size
    clear hW hb03
    have hbare := HBARE.out W (HE.out.below hbW)
    try rw [show (⟨#[]⟩ : ByteArray).data.toList = [] from rfl] at hbare
    try rw [show (((0 : Nat) : Int)) = 0 from rfl] at hbare
    rw [known_bare] at hbare
    have hgrp := fun W => HGRP.out W a b ha hb
    try rw [show (⟨#[]⟩ : ByteArray).data.toList = [] from rfl] at hgrp
    rw [known_group a b ha hb] at hgrp
    obtain ⟨tb, htb⟩ : ∃ q, textL true s.data.toList 45 46 0 0 0 [] = q := ⟨_, rfl⟩
    obtain ⟨tg, htg⟩ : ∃ q, textL true s.data.toList 45 46 44 a b [] = q := ⟨_, rfl⟩
    obtain ⟨cd, hcd⟩ : ∃ q, codeL true s.data.toList = q := ⟨_, rfl⟩
    rw [htb, hcd] at hbare
    rw [htg, hcd] at hgrp
    have HTB := Lib.hid htb
    have HTG := Lib.hid htg
    have HCD := Lib.hid hcd
    have HG2 := Lib.hid hgrp
    refine hbare.mono ?_
    rintro e w4 ⟨rfl, hb4⟩
    have hb04 := hbW.trans (hb4.mono hbW.size)
    have hL4 := hL.below hb4 hz
    have hZ4 : ∀ j, w4.frozen? ⟨w3.heap.size, j, none⟩ = false := fun j => by rw [hb4.frozen (by exact hz)]; exact hZ j
    have hz4 : w3.heap.size < w4.heap.size := Nat.lt_of_lt_of_le hz hb4.size
    obtain ⟨B, hB⟩ : ∃ B, B = w3.heap.size := ⟨_, rfl⟩
    rw [← hB] at hL4 hZ4 hz4 hw3 ⊢
    clear hb4 hL hZ hz hbW hbare hgrp htb htg hcd HBARE HGRP hB
    obtain ⟨c0, c1, c2, c3, c4, c5, c6, c7⟩ := hL4
    have z4 := hZ4 4
    have z5 := hZ4 5
    have z6 := hZ4 6
    have ea : IntKind.u8.wrap (a : Int) = (a : Int) := by simp [IntKind.wrap, IntKind.signed, IntKind.bits]; omega
    have eb : IntKind.u8.wrap (b : Int) = (b : Int) := by simp [IntKind.wrap, IntKind.signed, IntKind.bits]; omega
    go_wp2_with fail
    refine calls_gen ?_
    intro W hW
    have hbW : Below w.heap.size w W := by rw [hW]; exact ((hb04.setCell (by exact hw3) _).setCell (by exact hw3) _).setCell (by exact hw3) _
    clear hW
    refine (HG2.out W (HE.out.below hbW)).mono ?_
    rintro e w5 ⟨rfl, hb5⟩
    have hb05 := hbW.trans (hb5.mono hbW.size)
    clear hb5 hbW hb04 HG2 c0 c1 c2 c3 c4 c5 c6 c7 z4 z5 z6 hZ4 hz4 hw3 ea eb
    cases hnum : isNumL s.data.toList
    · have e1 : tb = [] := by rw [← HTB.out]; unfold textL; rw [hnum]; rfl
      have e2 : tg = [] := by rw [← HTG.out]; unfold textL; rw [hnum]; rfl
      have e3 : cd = 10 := by rw [← HCD.out]; unfold codeL; rw [hnum]; rfl
      subst e1 e2 e3
      clear HTB HTG HCD hnum
      go_wp2
      go_ret
      exact ⟨rfl, hb05⟩
    · have e1 : tb = s.data.toList := by rw [← HTB.out]; unfold textL; rw [hnum, ptsL_nil]; exact bare_text hnum
      have e3 : cd = 0 := by rw [← HCD.out]; unfold codeL; rw [hnum]; rfl
      have e2 : tg = writtenL (negL s.data.toList) (wholeL s.data.toList) (fracL s.data.toList) [] 45 46 44 a b := by rw [← HTG.out]; unfold textL; rw [hnum, ptsL_nil]; rfl
      have hgt := group_text hnum a b
      have hgl := group_len hnum (by rw [size_toList]; omega) a b
      rw [← e2] at hgt hgl
      have hpt := num_point hnum
      obtain ⟨d1, d2, hwl, h30⟩ := num_parts hnum
      have hs0 : 0 < s.size := by
        rw [← size_toList, num_text hnum]
        simp
        omega
      have hneg : (s[0] == 45) = negL s.data.toList := by
        unfold negL
        rw [List.head?_eq_getElem?, List.getElem?_eq_getElem (by rw [size_toList]; exact hs0), getElem_toList s 0 hs0]
        simp
      subst e3
      have hst : strv tb = .string s := by first | (rw [e1]; done) | (rw [e1]; simp [strv])
      rw [hst]
      obtain ⟨n, hnn⟩ : ∃ n, (wholeL s.data.toList).length = n := ⟨_, rfl⟩
      rw [hnn] at hgt hpt hwl h30
      have HGT := Lib.hid hgt
      have HPT := Lib.hid hpt
      have HNEG := Lib.hid hneg
      have HSZ := Lib.hid (show tg.toArray.size = tg.length by simp)
      clear HTB HTG HCD hnum e1 e2 hgt hpt d1 d2 hnn hneg hst
      by_cases hb0 : b = 0
      · have hb0' : ((b : Int) == 0) = true := by simp; omega
        go_wp2
        go_loop [17] (fun i => ∃ k : Nat, k ≤ s.size ∧ i = .int .i64 k ∧ (46 : UInt8) ∉ s.data.toList.take k) (fun i => s.size - (intOf i).toNat)
        case atStart => exact ⟨0, Nat.zero_le _, rfl, by simp⟩
        case round =>
          obtain ⟨k, hk, rfl, hno⟩ := hrel
          have HNO := Lib.hid hno
          clear hno
          by_cases hgo : ∃ h : k < s.size, s[k] ≠ 46
          · obtain ⟨hlt, hq⟩ := hgo
            have hq' : ∀ h, (((s[k]'h).toNat : Int) != 46) = true := fun h => by
              have h2 := byte_num (s[k]'h) 46
              rw [show ((46 : UInt8).toNat : Int) = 46 from rfl] at h2
              rw [bne, h2]
              simpa using hq
            have HF := Lib.hid (show (46 : UInt8) ∉ s.data.toList.take (k + 1) by
              rw [take_snoc s k hlt, List.mem_append]
              rintro (q | q)
              · exact HNO.out q
              · exact hq (List.mem_singleton.1 q).symm)
            clear hq
            go_wp2
            go_round
            case rel => exact ⟨k + 1, by omega, by go_num, HF.out⟩
            case measure => simp [intOf]; omega
          · have hix : s.data.toList.idxOf 46 = k := by
              by_cases hlt : k < s.size
              · have hq : s[k] = 46 := by
                  apply Classical.byContradiction
                  intro q
                  exact hgo ⟨hlt, q⟩
                have hsp : s.data.toList = s.data.toList.take k ++ 46 :: s.data.toList.drop (k + 1) := by
                  rw [← hq, ← drop_cons s k hlt, List.take_append_drop]
                rw [hsp, List.idxOf_append, if_neg HNO.out]
                simp
                omega
              · have h2 := HNO.out
                rw [List.take_of_length_le (by rw [size_toList]; omega)] at h2
                have h3 := List.idxOf_eq_length h2
                rw [h3, size_toList]
                omega
            have hstop : k < s.size → ∀ h, (((s[k]'h).toNat : Int) != 46) = false := fun hlt h => by
              have hq : s[k] = 46 := by
                apply Classical.byContradiction
                intro q
                exact hgo ⟨hlt, q⟩
              rw [hq]
              rfl
            have hkn : k = (if negL s.data.toList then 1 else 0) + n := by rw [← hix, HPT.out]
            clear hgo hix
            by_cases hkl : k < s.size
            · have hst2 := hstop hkl
              clear hstop
              cases hng : negL s.data.toList
              · rw [hng] at hkn
                have hkk : n = k := by have h := hkn; simp at h; exact h.symm
                subst hkk
                have hn0 : ∀ h, (((s[0]'h).toNat : Int) == 45) = false := fun h => by
                  have h2 := byte_num (s[0]'h) 45
                  rw [show ((45 : UInt8).toNat : Int) = 45 from rfl] at h2
                  rw [h2, HNEG.out]
                  exact hng
                clear hkn hng
                by_cases hm1 : 0 < a
                · by_cases hm2 : a < n
                  · have g2 : decide ((0 : Int) < (a : Int)) = true := by simp; omega
                    have g3 : decide ((a : Int) < (n : Int)) = true := by simp; omega
                    have g4 : IntKind.i64.wrap ((n : Int) - (a : Int)) = ((n - a : Nat) : Int) := by simp [IntKind.wrap, IntKind.signed, IntKind.bits]; omega
                    have g5 : IntKind.i64.wrap (((n - a : Nat) : Int) - 1) = ((n - a - 1 : Nat) : Int) := by simp [IntKind.wrap, IntKind.signed, IntKind.bits]; omega
                    have g6 : ((a : Int) == 0) = false := by simp; omega
                    obtain ⟨dv, hdv⟩ : ∃ d, (n - a - 1) / a = d := ⟨_, rfl⟩
                    have g8 : dv ≤ 30 := by have := Nat.div_le_self (n - a - 1) a; omega
                    have g7 : (((n - a - 1 : Nat) : Int)) / (a : Int) = (dv : Int) := by rw [← hdv]; simp
                    have g10 : IntKind.i64.wrap (dv : Int) = (dv : Int) := by simp [IntKind.wrap, IntKind.signed, IntKind.bits]; omega
                    have g9 : IntKind.i64.wrap (1 + (dv : Int)) = ((1 + dv : Nat) : Int) := by simp [IntKind.wrap, IntKind.signed, IntKind.bits]; omega
                    have HDV := Lib.hid hdv
                    clear hdv
                    have HM := Lib.hid (show manyN a (if b = 0 then a else b) n = 1 + dv by unfold manyN; rw [if_pos ⟨hm1, hm2⟩, if_pos hb0, HDV.out])
                    go_wp2
                    go_loop [19, 20, 21] (fun t m i => ∃ k : Nat, k ≤ tg.length ∧ i = .int .i64 k ∧ t = strv ((tg.take k).filter (· != 44)) ∧ m = .int .i64 ((tg.take k).count 44 : Nat)) (fun _ _ i => tg.length - (intOf i).toNat)
                    case atStart => exact ⟨0, Nat.zero_le _, rfl, rfl, rfl⟩
                    case round =>
                      obtain ⟨k, hk, rfl, ht, hm⟩ := hrel
                      obtain ⟨tx, htx⟩ : ∃ q, (tg.take k).filter (· != 44) = q := ⟨_, rfl⟩
                      obtain ⟨mx, hmx⟩ : ∃ q, (tg.take k).count 44 = q := ⟨_, rfl⟩
                      rw [htx] at ht
                      rw [hmx] at hm
                      subst ht hm
                      have HTX := Lib.hid htx
                      have HMX := Lib.hid hmx
                      have hmxl : mx ≤ 1000 := by rw [← hmx]; have h1 := List.count_le_length (a := (44 : UInt8)) (l := tg.take k); have h2 := List.length_take_le k tg; omega
                      have htxl : tx.length ≤ 1000 := by rw [← htx]; have h1 := List.length_filter_le (fun c : UInt8 => c != 44) (tg.take k); have h2 := List.length_take_le k tg; omega
                      clear htx hmx
                      by_cases hlt : k < tg.length
                      · have hsn : tg.take (k + 1) = tg.take k ++ [tg[k]] := List.take_succ_eq_append_getElem hlt
                        have hgetb : ∀ h, (⟨tg.toArray⟩ : ByteArray)[k]'h = tg[k] := fun h => by simp [ByteArray.getElem_eq_getElem_data]
                        have hext : (⟨tg.toArray⟩ : ByteArray).extract k (k + 1) = ⟨[tg[k]].toArray⟩ := by
                          rw [extract_eq, Nat.add_sub_cancel_left, toList_mk, List.drop_eq_getElem_cons hlt]
                          rfl
                        obtain ⟨c, hc⟩ : ∃ c, tg[k] = c := ⟨_, rfl⟩
                        rw [hc] at hsn hext
                        have hsz2 : (⟨tg.toArray⟩ : ByteArray).size = tg.length := size_mk tg
                        have hidx : ∀ h, (⟨tg.toArray⟩ : ByteArray)[k]'h = c := fun h => (hgetb h).trans hc
                        have happ : (⟨tx.toArray⟩ : ByteArray) ++ (⟨tg.toArray⟩ : ByteArray).extract k (k + 1) = ⟨(tx ++ [c]).toArray⟩ := by rw [hext, append_mk]
                        have HSN := Lib.hid hsn
                        clear hgetb hext hsn hc
                        by_cases hq : c = 44
                        · have hq' : ((c.toNat : Int) == 44) = true := by subst hq; rfl
                          have HF := Lib.hid (show (tg.take (k + 1)).filter (· != 44) = tx by rw [HSN.out, List.filter_append, HTX.out, hq]; simp)
                          have HG := Lib.hid (show (tg.take (k + 1)).count 44 = mx + 1 by rw [HSN.out, List.count_append, HMX.out, hq]; simp)
                          clear hq
                          go_wp2
                          go_round
                          case rel => exact ⟨k + 1, by omega, by go_num, by rw [HF.out], by rw [HG.out] <;> simp⟩
                          case measure => simp [intOf]; omega
                        · have hq' : ((c.toNat : Int) == 44) = false := by
                            have h := byte_num c 44
                            rw [show ((44 : UInt8).toNat : Int) = 44 from rfl] at h
                            rw [h]
                            simpa using hq
                          have HF := Lib.hid (show (tg.take (k + 1)).filter (· != 44) = tx ++ [c] by rw [HSN.out, List.filter_append, HTX.out]; simp [hq])
                          have HG := Lib.hid (show (tg.take (k + 1)).count 44 = mx by rw [HSN.out, List.count_append, HMX.out]; simp [hq])
                          clear hq
                          go_wp2
                          go_round
                          case rel => exact ⟨k + 1, by omega, by go_num, by rw [HF.out], by rw [HG.out]⟩
                          case measure => simp [intOf]; omega
                      · obtain rfl : k = tg.length := by omega
                        have e4 : tx = s.data.toList := by rw [← HTX.out, List.take_length]; exact HGT.out.1
                        have e5 : mx = 1 + dv := by rw [← HMX.out, List.take_length, HGT.out.2]; exact HM.out
                        have e6 : strv tx = .string s := by first | (rw [e4]; done) | (rw [e4]; simp [strv])
                        have hsz2 : (⟨tg.toArray⟩ : ByteArray).size = tg.length := size_mk tg
                        rw [e6]
                        subst e5
                        clear HTX HMX e4 e6
                        go_wp2
                        go_ret
                        exact ⟨by first | rfl | (simp [go_sem]; done), hb05⟩
                  · have g2 : decide ((0 : Int) < (a : Int)) = true := by simp; omega
                    have g3 : decide ((a : Int) < (n : Int)) = false := by simp; omega
                    have HM := Lib.hid (show manyN a (if b = 0 then a else b) n = 0 by unfold manyN; rw [if_neg (by omega)])
                    go_wp2
                    go_loop [19, 20, 21] (fun t m i => ∃ k : Nat, k ≤ tg.length ∧ i = .int .i64 k ∧ t = strv ((tg.take k).filter (· != 44)) ∧ m = .int .i64 ((tg.take k).count 44 : Nat)) (fun _ _ i => tg.length - (intOf i).toNat)
                    case atStart => exact ⟨0, Nat.zero_le _, rfl, rfl, rfl⟩
                    case round =>
                      obtain ⟨k, hk, rfl, ht, hm⟩ := hrel
                      obtain ⟨tx, htx⟩ : ∃ q, (tg.take k).filter (· != 44) = q := ⟨_, rfl⟩
                      obtain ⟨mx, hmx⟩ : ∃ q, (tg.take k).count 44 = q := ⟨_, rfl⟩
                      rw [htx] at ht
                      rw [hmx] at hm
                      subst ht hm
                      have HTX := Lib.hid htx
                      have HMX := Lib.hid hmx
                      have hmxl : mx ≤ 1000 := by rw [← hmx]; have h1 := List.count_le_length (a := (44 : UInt8)) (l := tg.take k); have h2 := List.length_take_le k tg; omega
                      have htxl : tx.length ≤ 1000 := by rw [← htx]; have h1 := List.length_filter_le (fun c : UInt8 => c != 44) (tg.take k); have h2 := List.length_take_le k tg; omega
                      clear htx hmx
                      by_cases hlt : k < tg.length
                      · have hsn : tg.take (k + 1) = tg.take k ++ [tg[k]] := List.take_succ_eq_append_getElem hlt
                        have hgetb : ∀ h, (⟨tg.toArray⟩ : ByteArray)[k]'h = tg[k] := fun h => by simp [ByteArray.getElem_eq_getElem_data]
                        have hext : (⟨tg.toArray⟩ : ByteArray).extract k (k + 1) = ⟨[tg[k]].toArray⟩ := by
                          rw [extract_eq, Nat.add_sub_cancel_left, toList_mk, List.drop_eq_getElem_cons hlt]
                          rfl
                        obtain ⟨c, hc⟩ : ∃ c, tg[k] = c := ⟨_, rfl⟩
                        rw [hc] at hsn hext
                        have hsz2 : (⟨tg.toArray⟩ : ByteArray).size = tg.length := size_mk tg
                        have hidx : ∀ h, (⟨tg.toArray⟩ : ByteArray)[k]'h = c := fun h => (hgetb h).trans hc
                        have happ : (⟨tx.toArray⟩ : ByteArray) ++ (⟨tg.toArray⟩ : ByteArray).extract k (k + 1) = ⟨(tx ++ [c]).toArray⟩ := by rw [hext, append_mk]
                        have HSN := Lib.hid hsn
                        clear hgetb hext hsn hc
                        by_cases hq : c = 44
                        · have hq' : ((c.toNat : Int) == 44) = true := by subst hq; rfl
                          have HF := Lib.hid (show (tg.take (k + 1)).filter (· != 44) = tx by rw [HSN.out, List.filter_append, HTX.out, hq]; simp)
                          have HG := Lib.hid (show (tg.take (k + 1)).count 44 = mx + 1 by rw [HSN.out, List.count_append, HMX.out, hq]; simp)
                          clear hq
                          go_wp2
                          go_round
                          case rel => exact ⟨k + 1, by omega, by go_num, by rw [HF.out], by rw [HG.out] <;> simp⟩
                          case measure => simp [intOf]; omega
                        · have hq' : ((c.toNat : Int) == 44) = false := by
                            have h := byte_num c 44
                            rw [show ((44 : UInt8).toNat : Int) = 44 from rfl] at h
                            rw [h]
                            simpa using hq
                          have HF := Lib.hid (show (tg.take (k + 1)).filter (· != 44) = tx ++ [c] by rw [HSN.out, List.filter_append, HTX.out]; simp [hq])
                          have HG := Lib.hid (show (tg.take (k + 1)).count 44 = mx by rw [HSN.out, List.count_append, HMX.out]; simp [hq])
                          clear hq
                          go_wp2
                          go_round
                          case rel => exact ⟨k + 1, by omega, by go_num, by rw [HF.out], by rw [HG.out]⟩
                          case measure => simp [intOf]; omega
                      · obtain rfl : k = tg.length := by omega
                        have e4 : tx = s.data.toList := by rw [← HTX.out, List.take_length]; exact HGT.out.1
                        have e5 : mx = 0 := by rw [← HMX.out, List.take_length, HGT.out.2]; exact HM.out
                        have e6 : strv tx = .string s := by first | (rw [e4]; done) | (rw [e4]; simp [strv])
                        have hsz2 : (⟨tg.toArray⟩ : ByteArray).size = tg.length := size_mk tg
                        rw [e6]
                        subst e5
                        clear HTX HMX e4 e6
                        go_wp2
                        go_ret
                        exact ⟨by first | rfl | (simp [go_sem]; done), hb05⟩
                · have g2 : decide ((0 : Int) < (a : Int)) = false := by simp; omega
                  have HM := Lib.hid (show manyN a (if b = 0 then a else b) n = 0 by unfold manyN; rw [if_neg (by omega)])
                  go_wp2
                  go_loop [19, 20, 21] (fun t m i => ∃ k : Nat, k ≤ tg.length ∧ i = .int .i64 k ∧ t = strv ((tg.take k).filter (· != 44)) ∧ m = .int .i64 ((tg.take k).count 44 : Nat)) (fun _ _ i => tg.length - (intOf i).toNat)
                  case atStart => exact ⟨0, Nat.zero_le _, rfl, rfl, rfl⟩
                  case round =>
                    obtain ⟨k, hk, rfl, ht, hm⟩ := hrel
                    obtain ⟨tx, htx⟩ : ∃ q, (tg.take k).filter (· != 44) = q := ⟨_, rfl⟩
                    obtain ⟨mx, hmx⟩ : ∃ q, (tg.take k).count 44 = q := ⟨_, rfl⟩
                    rw [htx] at ht
                    rw [hmx] at hm
                    subst ht hm
                    have HTX := Lib.hid htx
                    have HMX := Lib.hid hmx
                    have hmxl : mx ≤ 1000 := by rw [← hmx]; have h1 := List.count_le_length (a := (44 : UInt8)) (l := tg.take k); have h2 := List.length_take_le k tg; omega
                    have htxl : tx.length ≤ 1000 := by rw [← htx]; have h1 := List.length_filter_le (fun c : UInt8 => c != 44) (tg.take k); have h2 := List.length_take_le k tg; omega
                    clear htx hmx
                    by_cases hlt : k < tg.length
                    · have hsn : tg.take (k + 1) = tg.take k ++ [tg[k]] := List.take_succ_eq_append_getElem hlt
                      have hgetb : ∀ h, (⟨tg.toArray⟩ : ByteArray)[k]'h = tg[k] := fun h => by simp [ByteArray.getElem_eq_getElem_data]
                      have hext : (⟨tg.toArray⟩ : ByteArray).extract k (k + 1) = ⟨[tg[k]].toArray⟩ := by
                        rw [extract_eq, Nat.add_sub_cancel_left, toList_mk, List.drop_eq_getElem_cons hlt]
                        rfl
                      obtain ⟨c, hc⟩ : ∃ c, tg[k] = c := ⟨_, rfl⟩
                      rw [hc] at hsn hext
                      have hsz2 : (⟨tg.toArray⟩ : ByteArray).size = tg.length := size_mk tg
                      have hidx : ∀ h, (⟨tg.toArray⟩ : ByteArray)[k]'h = c := fun h => (hgetb h).trans hc
                      have happ : (⟨tx.toArray⟩ : ByteArray) ++ (⟨tg.toArray⟩ : ByteArray).extract k (k + 1) = ⟨(tx ++ [c]).toArray⟩ := by rw [hext, append_mk]
                      have HSN := Lib.hid hsn
                      clear hgetb hext hsn hc
                      by_cases hq : c = 44
                      · have hq' : ((c.toNat : Int) == 44) = true := by subst hq; rfl
                        have HF := Lib.hid (show (tg.take (k + 1)).filter (· != 44) = tx by rw [HSN.out, List.filter_append, HTX.out, hq]; simp)
                        have HG := Lib.hid (show (tg.take (k + 1)).count 44 = mx + 1 by rw [HSN.out, List.count_append, HMX.out, hq]; simp)
                        clear hq
                        go_wp2
                        go_round
                        case rel => exact ⟨k + 1, by omega, by go_num, by rw [HF.out], by rw [HG.out] <;> simp⟩
                        case measure => simp [intOf]; omega
                      · have hq' : ((c.toNat : Int) == 44) = false := by
                          have h := byte_num c 44
                          rw [show ((44 : UInt8).toNat : Int) = 44 from rfl] at h
                          rw [h]
                          simpa using hq
                        have HF := Lib.hid (show (tg.take (k + 1)).filter (· != 44) = tx ++ [c] by rw [HSN.out, List.filter_append, HTX.out]; simp [hq])
                        have HG := Lib.hid (show (tg.take (k + 1)).count 44 = mx by rw [HSN.out, List.count_append, HMX.out]; simp [hq])
                        clear hq
                        go_wp2
                        go_round
                        case rel => exact ⟨k + 1, by omega, by go_num, by rw [HF.out], by rw [HG.out]⟩
                        case measure => simp [intOf]; omega
                    · obtain rfl : k = tg.length := by omega
                      have e4 : tx = s.data.toList := by rw [← HTX.out, List.take_length]; exact HGT.out.1
                      have e5 : mx = 0 := by rw [← HMX.out, List.take_length, HGT.out.2]; exact HM.out
                      have e6 : strv tx = .string s := by first | (rw [e4]; done) | (rw [e4]; simp [strv])
                      have hsz2 : (⟨tg.toArray⟩ : ByteArray).size = tg.length := size_mk tg
                      rw [e6]
                      subst e5
                      clear HTX HMX e4 e6
                      go_wp2
                      go_ret
                      exact ⟨by first | rfl | (simp [go_sem]; done), hb05⟩
              · rw [hng] at hkn
                have hkk : 1 + n = k := by have h := hkn; simp at h; exact h.symm
                have hk1 : (k : Int) - 1 = (n : Int) := by omega
                have HKK := Lib.hid hkk
                clear hkk
                have hn0 : ∀ h, (((s[0]'h).toNat : Int) == 45) = true := fun h => by
                  have h2 := byte_num (s[0]'h) 45
                  rw [show ((45 : UInt8).toNat : Int) = 45 from rfl] at h2
                  rw [h2, HNEG.out]
                  exact hng
                clear hkn hng
                by_cases hm1 : 0 < a
                · by_cases hm2 : a < n
                  · have g2 : decide ((0 : Int) < (a : Int)) = true := by simp; omega
                    have g3 : decide ((a : Int) < (n : Int)) = true := by simp; omega
                    have g4 : IntKind.i64.wrap ((n : Int) - (a : Int)) = ((n - a : Nat) : Int) := by simp [IntKind.wrap, IntKind.signed, IntKind.bits]; omega
                    have g5 : IntKind.i64.wrap (((n - a : Nat) : Int) - 1) = ((n - a - 1 : Nat) : Int) := by simp [IntKind.wrap, IntKind.signed, IntKind.bits]; omega
                    have g6 : ((a : Int) == 0) = false := by simp; omega
                    obtain ⟨dv, hdv⟩ : ∃ d, (n - a - 1) / a = d := ⟨_, rfl⟩
                    have g8 : dv ≤ 30 := by have := Nat.div_le_self (n - a - 1) a; omega
                    have g7 : (((n - a - 1 : Nat) : Int)) / (a : Int) = (dv : Int) := by rw [← hdv]; simp
                    have g10 : IntKind.i64.wrap (dv : Int) = (dv : Int) := by simp [IntKind.wrap, IntKind.signed, IntKind.bits]; omega
                    have g9 : IntKind.i64.wrap (1 + (dv : Int)) = ((1 + dv : Nat) : Int) := by simp [IntKind.wrap, IntKind.signed, IntKind.bits]; omega
                    have HDV := Lib.hid hdv
                    clear hdv
                    have HM := Lib.hid (show manyN a (if b = 0 then a else b) n = 1 + dv by unfold manyN; rw [if_pos ⟨hm1, hm2⟩, if_pos hb0, HDV.out])
                    go_wp2
                    go_loop [19, 20, 21] (fun t m i => ∃ k : Nat, k ≤ tg.length ∧ i = .int .i64 k ∧ t = strv ((tg.take k).filter (· != 44)) ∧ m = .int .i64 ((tg.take k).count 44 : Nat)) (fun _ _ i => tg.length - (intOf i).toNat)
                    case atStart => exact ⟨0, Nat.zero_le _, rfl, rfl, rfl⟩
                    case round =>
                      obtain ⟨k, hk, rfl, ht, hm⟩ := hrel
                      obtain ⟨tx, htx⟩ : ∃ q, (tg.take k).filter (· != 44) = q := ⟨_, rfl⟩
                      obtain ⟨mx, hmx⟩ : ∃ q, (tg.take k).count 44 = q := ⟨_, rfl⟩
                      rw [htx] at ht
                      rw [hmx] at hm
                      subst ht hm
                      have HTX := Lib.hid htx
                      have HMX := Lib.hid hmx
                      have hmxl : mx ≤ 1000 := by rw [← hmx]; have h1 := List.count_le_length (a := (44 : UInt8)) (l := tg.take k); have h2 := List.length_take_le k tg; omega
                      have htxl : tx.length ≤ 1000 := by rw [← htx]; have h1 := List.length_filter_le (fun c : UInt8 => c != 44) (tg.take k); have h2 := List.length_take_le k tg; omega
                      clear htx hmx
                      by_cases hlt : k < tg.length
                      · have hsn : tg.take (k + 1) = tg.take k ++ [tg[k]] := List.take_succ_eq_append_getElem hlt
                        have hgetb : ∀ h, (⟨tg.toArray⟩ : ByteArray)[k]'h = tg[k] := fun h => by simp [ByteArray.getElem_eq_getElem_data]
                        have hext : (⟨tg.toArray⟩ : ByteArray).extract k (k + 1) = ⟨[tg[k]].toArray⟩ := by
                          rw [extract_eq, Nat.add_sub_cancel_left, toList_mk, List.drop_eq_getElem_cons hlt]
                          rfl
                        obtain ⟨c, hc⟩ : ∃ c, tg[k] = c := ⟨_, rfl⟩
                        rw [hc] at hsn hext
                        have hsz2 : (⟨tg.toArray⟩ : ByteArray).size = tg.length := size_mk tg
                        have hidx : ∀ h, (⟨tg.toArray⟩ : ByteArray)[k]'h = c := fun h => (hgetb h).trans hc
                        have happ : (⟨tx.toArray⟩ : ByteArray) ++ (⟨tg.toArray⟩ : ByteArray).extract k (k + 1) = ⟨(tx ++ [c]).toArray⟩ := by rw [hext, append_mk]
                        have HSN := Lib.hid hsn
                        clear hgetb hext hsn hc
                        by_cases hq : c = 44
                        · have hq' : ((c.toNat : Int) == 44) = true := by subst hq; rfl
                          have HF := Lib.hid (show (tg.take (k + 1)).filter (· != 44) = tx by rw [HSN.out, List.filter_append, HTX.out, hq]; simp)
                          have HG := Lib.hid (show (tg.take (k + 1)).count 44 = mx + 1 by rw [HSN.out, List.count_append, HMX.out, hq]; simp)
                          clear hq
                          go_wp2
                          go_round
                          case rel => exact ⟨k + 1, by omega, by go_num, by rw [HF.out], by rw [HG.out] <;> simp⟩
                          case measure => simp [intOf]; omega
                        · have hq' : ((c.toNat : Int) == 44) = false := by
                            have h := byte_num c 44
                            rw [show ((44 : UInt8).toNat : Int) = 44 from rfl] at h
                            rw [h]
                            simpa using hq
                          have HF := Lib.hid (show (tg.take (k + 1)).filter (· != 44) = tx ++ [c] by rw [HSN.out, List.filter_append, HTX.out]; simp [hq])
                          have HG := Lib.hid (show (tg.take (k + 1)).count 44 = mx by rw [HSN.out, List.count_append, HMX.out]; simp [hq])
                          clear hq
                          go_wp2
                          go_round
                          case rel => exact ⟨k + 1, by omega, by go_num, by rw [HF.out], by rw [HG.out]⟩
                          case measure => simp [intOf]; omega
                      · obtain rfl : k = tg.length := by omega
                        have e4 : tx = s.data.toList := by rw [← HTX.out, List.take_length]; exact HGT.out.1
                        have e5 : mx = 1 + dv := by rw [← HMX.out, List.take_length, HGT.out.2]; exact HM.out
                        have e6 : strv tx = .string s := by first | (rw [e4]; done) | (rw [e4]; simp [strv])
                        have hsz2 : (⟨tg.toArray⟩ : ByteArray).size = tg.length := size_mk tg
                        rw [e6]
                        subst e5
                        clear HTX HMX e4 e6
                        go_wp2
                        go_ret
                        exact ⟨by first | rfl | (simp [go_sem]; done), hb05⟩
                  · have g2 : decide ((0 : Int) < (a : Int)) = true := by simp; omega
                    have g3 : decide ((a : Int) < (n : Int)) = false := by simp; omega
                    have HM := Lib.hid (show manyN a (if b = 0 then a else b) n = 0 by unfold manyN; rw [if_neg (by omega)])
                    go_wp2
                    go_loop [19, 20, 21] (fun t m i => ∃ k : Nat, k ≤ tg.length ∧ i = .int .i64 k ∧ t = strv ((tg.take k).filter (· != 44)) ∧ m = .int .i64 ((tg.take k).count 44 : Nat)) (fun _ _ i => tg.length - (intOf i).toNat)
                    case atStart => exact ⟨0, Nat.zero_le _, rfl, rfl, rfl⟩
                    case round =>
                      obtain ⟨k, hk, rfl, ht, hm⟩ := hrel
                      obtain ⟨tx, htx⟩ : ∃ q, (tg.take k).filter (· != 44) = q := ⟨_, rfl⟩
                      obtain ⟨mx, hmx⟩ : ∃ q, (tg.take k).count 44 = q := ⟨_, rfl⟩
                      rw [htx] at ht
                      rw [hmx] at hm
                      subst ht hm
                      have HTX := Lib.hid htx
                      have HMX := Lib.hid hmx
                      have hmxl : mx ≤ 1000 := by rw [← hmx]; have h1 := List.count_le_length (a := (44 : UInt8)) (l := tg.take k); have h2 := List.length_take_le k tg; omega
                      have htxl : tx.length ≤ 1000 := by rw [← htx]; have h1 := List.length_filter_le (fun c : UInt8 => c != 44) (tg.take k); have h2 := List.length_take_le k tg; omega
                      clear htx hmx
                      by_cases hlt : k < tg.length
                      · have hsn : tg.take (k + 1) = tg.take k ++ [tg[k]] := List.take_succ_eq_append_getElem hlt
                        have hgetb : ∀ h, (⟨tg.toArray⟩ : ByteArray)[k]'h = tg[k] := fun h => by simp [ByteArray.getElem_eq_getElem_data]
                        have hext : (⟨tg.toArray⟩ : ByteArray).extract k (k + 1) = ⟨[tg[k]].toArray⟩ := by
                          rw [extract_eq, Nat.add_sub_cancel_left, toList_mk, List.drop_eq_getElem_cons hlt]
                          rfl
                        obtain ⟨c, hc⟩ : ∃ c, tg[k] = c := ⟨_, rfl⟩
                        rw [hc] at hsn hext
                        have hsz2 : (⟨tg.toArray⟩ : ByteArray).size = tg.length := size_mk tg
                        have hidx : ∀ h, (⟨tg.toArray⟩ : ByteArray)[k]'h = c := fun h => (hgetb h).trans hc
                        have happ : (⟨tx.toArray⟩ : ByteArray) ++ (⟨tg.toArray⟩ : ByteArray).extract k (k + 1) = ⟨(tx ++ [c]).toArray⟩ := by rw [hext, append_mk]
                        have HSN := Lib.hid hsn
                        clear hgetb hext hsn hc
                        by_cases hq : c = 44
                        · have hq' : ((c.toNat : Int) == 44) = true := by subst hq; rfl
                          have HF := Lib.hid (show (tg.take (k + 1)).filter (· != 44) = tx by rw [HSN.out, List.filter_append, HTX.out, hq]; simp)
                          have HG := Lib.hid (show (tg.take (k + 1)).count 44 = mx + 1 by rw [HSN.out, List.count_append, HMX.out, hq]; simp)
                          clear hq
                          go_wp2
                          go_round
                          case rel => exact ⟨k + 1, by omega, by go_num, by rw [HF.out], by rw [HG.out] <;> simp⟩
                          case measure => simp [intOf]; omega
                        · have hq' : ((c.toNat : Int) == 44) = false := by
                            have h := byte_num c 44
                            rw [show ((44 : UInt8).toNat : Int) = 44 from rfl] at h
                            rw [h]
                            simpa using hq
                          have HF := Lib.hid (show (tg.take (k + 1)).filter (· != 44) = tx ++ [c] by rw [HSN.out, List.filter_append, HTX.out]; simp [hq])
                          have HG := Lib.hid (show (tg.take (k + 1)).count 44 = mx by rw [HSN.out, List.count_append, HMX.out]; simp [hq])
                          clear hq
                          go_wp2
                          go_round
                          case rel => exact ⟨k + 1, by omega, by go_num, by rw [HF.out], by rw [HG.out]⟩
                          case measure => simp [intOf]; omega
                      · obtain rfl : k = tg.length := by omega
                        have e4 : tx = s.data.toList := by rw [← HTX.out, List.take_length]; exact HGT.out.1
                        have e5 : mx = 0 := by rw [← HMX.out, List.take_length, HGT.out.2]; exact HM.out
                        have e6 : strv tx = .string s := by first | (rw [e4]; done) | (rw [e4]; simp [strv])
                        have hsz2 : (⟨tg.toArray⟩ : ByteArray).size = tg.length := size_mk tg
                        rw [e6]
                        subst e5
                        clear HTX HMX e4 e6
                        go_wp2
                        go_ret
                        exact ⟨by first | rfl | (simp [go_sem]; done), hb05⟩
                · have g2 : decide ((0 : Int) < (a : Int)) = false := by simp; omega
                  have HM := Lib.hid (show manyN a (if b = 0 then a else b) n = 0 by unfold manyN; rw [if_neg (by omega)])
                  go_wp2
                  go_loop [19, 20, 21] (fun t m i => ∃ k : Nat, k ≤ tg.length ∧ i = .int .i64 k ∧ t = strv ((tg.take k).filter (· != 44)) ∧ m = .int .i64 ((tg.take k).count 44 : Nat)) (fun _ _ i => tg.length - (intOf i).toNat)
                  case atStart => exact ⟨0, Nat.zero_le _, rfl, rfl, rfl⟩
                  case round =>
                    obtain ⟨k, hk, rfl, ht, hm⟩ := hrel
                    obtain ⟨tx, htx⟩ : ∃ q, (tg.take k).filter (· != 44) = q := ⟨_, rfl⟩
                    obtain ⟨mx, hmx⟩ : ∃ q, (tg.take k).count 44 = q := ⟨_, rfl⟩
                    rw [htx] at ht
                    rw [hmx] at hm
                    subst ht hm
                    have HTX := Lib.hid htx
                    have HMX := Lib.hid hmx
                    have hmxl : mx ≤ 1000 := by rw [← hmx]; have h1 := List.count_le_length (a := (44 : UInt8)) (l := tg.take k); have h2 := List.length_take_le k tg; omega
                    have htxl : tx.length ≤ 1000 := by rw [← htx]; have h1 := List.length_filter_le (fun c : UInt8 => c != 44) (tg.take k); have h2 := List.length_take_le k tg; omega
                    clear htx hmx
                    by_cases hlt : k < tg.length
                    · have hsn : tg.take (k + 1) = tg.take k ++ [tg[k]] := List.take_succ_eq_append_getElem hlt
                      have hgetb : ∀ h, (⟨tg.toArray⟩ : ByteArray)[k]'h = tg[k] := fun h => by simp [ByteArray.getElem_eq_getElem_data]
                      have hext : (⟨tg.toArray⟩ : ByteArray).extract k (k + 1) = ⟨[tg[k]].toArray⟩ := by
                        rw [extract_eq, Nat.add_sub_cancel_left, toList_mk, List.drop_eq_getElem_cons hlt]
                        rfl
                      obtain ⟨c, hc⟩ : ∃ c, tg[k] = c := ⟨_, rfl⟩
                      rw [hc] at hsn hext
                      have hsz2 : (⟨tg.toArray⟩ : ByteArray).size = tg.length := size_mk tg
                      have hidx : ∀ h, (⟨tg.toArray⟩ : ByteArray)[k]'h = c := fun h => (hgetb h).trans hc
                      have happ : (⟨tx.toArray⟩ : ByteArray) ++ (⟨tg.toArray⟩ : ByteArray).extract k (k + 1) = ⟨(tx ++ [c]).toArray⟩ := by rw [hext, append_mk]
                      have HSN := Lib.hid hsn
                      clear hgetb hext hsn hc
                      by_cases hq : c = 44
                      · have hq' : ((c.toNat : Int) == 44) = true := by subst hq; rfl
                        have HF := Lib.hid (show (tg.take (k + 1)).filter (· != 44) = tx by rw [HSN.out, List.filter_append, HTX.out, hq]; simp)
                        have HG := Lib.hid (show (tg.take (k + 1)).count 44 = mx + 1 by rw [HSN.out, List.count_append, HMX.out, hq]; simp)
                        clear hq
                        go_wp2
                        go_round
                        case rel => exact ⟨k + 1, by omega, by go_num, by rw [HF.out], by rw [HG.out] <;> simp⟩
                        case measure => simp [intOf]; omega
                      · have hq' : ((c.toNat : Int) == 44) = false := by
                          have h := byte_num c 44
                          rw [show ((44 : UInt8).toNat : Int) = 44 from rfl] at h
                          rw [h]
                          simpa using hq
                        have HF := Lib.hid (show (tg.take (k + 1)).filter (· != 44) = tx ++ [c] by rw [HSN.out, List.filter_append, HTX.out]; simp [hq])
                        have HG := Lib.hid (show (tg.take (k + 1)).count 44 = mx by rw [HSN.out, List.count_append, HMX.out]; simp [hq])
                        clear hq
                        go_wp2
                        go_round
                        case rel => exact ⟨k + 1, by omega, by go_num, by rw [HF.out], by rw [HG.out]⟩
                        case measure => simp [intOf]; omega
                    · obtain rfl : k = tg.length := by omega
                      have e4 : tx = s.data.toList := by rw [← HTX.out, List.take_length]; exact HGT.out.1
                      have e5 : mx = 0 := by rw [← HMX.out, List.take_length, HGT.out.2]; exact HM.out
                      have e6 : strv tx = .string s := by first | (rw [e4]; done) | (rw [e4]; simp [strv])
                      have hsz2 : (⟨tg.toArray⟩ : ByteArray).size = tg.length := size_mk tg
                      rw [e6]
                      subst e5
                      clear HTX HMX e4 e6
                      go_wp2
                      go_ret
                      exact ⟨by first | rfl | (simp [go_sem]; done), hb05⟩
            · clear hstop
              cases hng : negL s.data.toList
              · rw [hng] at hkn
                have hkk : n = k := by have h := hkn; simp at h; exact h.symm
                subst hkk
                have hn0 : ∀ h, (((s[0]'h).toNat : Int) == 45) = false := fun h => by
                  have h2 := byte_num (s[0]'h) 45
                  rw [show ((45 : UInt8).toNat : Int) = 45 from rfl] at h2
                  rw [h2, HNEG.out]
                  exact hng
                clear hkn hng
                by_cases hm1 : 0 < a
                · by_cases hm2 : a < n
                  · have g2 : decide ((0 : Int) < (a : Int)) = true := by simp; omega
                    have g3 : decide ((a : Int) < (n : Int)) = true := by simp; omega
                    have g4 : IntKind.i64.wrap ((n : Int) - (a : Int)) = ((n - a : Nat) : Int) := by simp [IntKind.wrap, IntKind.signed, IntKind.bits]; omega
                    have g5 : IntKind.i64.wrap (((n - a : Nat) : Int) - 1) = ((n - a - 1 : Nat) : Int) := by simp [IntKind.wrap, IntKind.signed, IntKind.bits]; omega
                    have g6 : ((a : Int) == 0) = false := by simp; omega
                    obtain ⟨dv, hdv⟩ : ∃ d, (n - a - 1) / a = d := ⟨_, rfl⟩
                    have g8 : dv ≤ 30 := by have := Nat.div_le_self (n - a - 1) a; omega
                    have g7 : (((n - a - 1 : Nat) : Int)) / (a : Int) = (dv : Int) := by rw [← hdv]; simp
                    have g10 : IntKind.i64.wrap (dv : Int) = (dv : Int) := by simp [IntKind.wrap, IntKind.signed, IntKind.bits]; omega
                    have g9 : IntKind.i64.wrap (1 + (dv : Int)) = ((1 + dv : Nat) : Int) := by simp [IntKind.wrap, IntKind.signed, IntKind.bits]; omega
                    have HDV := Lib.hid hdv
                    clear hdv
                    have HM := Lib.hid (show manyN a (if b = 0 then a else b) n = 1 + dv by unfold manyN; rw [if_pos ⟨hm1, hm2⟩, if_pos hb0, HDV.out])
                    go_wp2
                    go_loop [19, 20, 21] (fun t m i => ∃ k : Nat, k ≤ tg.length ∧ i = .int .i64 k ∧ t = strv ((tg.take k).filter (· != 44)) ∧ m = .int .i64 ((tg.take k).count 44 : Nat)) (fun _ _ i => tg.length - (intOf i).toNat)
                    case atStart => exact ⟨0, Nat.zero_le _, rfl, rfl, rfl⟩
                    case round =>
                      obtain ⟨k, hk, rfl, ht, hm⟩ := hrel
                      obtain ⟨tx, htx⟩ : ∃ q, (tg.take k).filter (· != 44) = q := ⟨_, rfl⟩
                      obtain ⟨mx, hmx⟩ : ∃ q, (tg.take k).count 44 = q := ⟨_, rfl⟩
                      rw [htx] at ht
                      rw [hmx] at hm
                      subst ht hm
                      have HTX := Lib.hid htx
                      have HMX := Lib.hid hmx
                      have hmxl : mx ≤ 1000 := by rw [← hmx]; have h1 := List.count_le_length (a := (44 : UInt8)) (l := tg.take k); have h2 := List.length_take_le k tg; omega
                      have htxl : tx.length ≤ 1000 := by rw [← htx]; have h1 := List.length_filter_le (fun c : UInt8 => c != 44) (tg.take k); have h2 := List.length_take_le k tg; omega
                      clear htx hmx
                      by_cases hlt : k < tg.length
                      · have hsn : tg.take (k + 1) = tg.take k ++ [tg[k]] := List.take_succ_eq_append_getElem hlt
                        have hgetb : ∀ h, (⟨tg.toArray⟩ : ByteArray)[k]'h = tg[k] := fun h => by simp [ByteArray.getElem_eq_getElem_data]
                        have hext : (⟨tg.toArray⟩ : ByteArray).extract k (k + 1) = ⟨[tg[k]].toArray⟩ := by
                          rw [extract_eq, Nat.add_sub_cancel_left, toList_mk, List.drop_eq_getElem_cons hlt]
                          rfl
                        obtain ⟨c, hc⟩ : ∃ c, tg[k] = c := ⟨_, rfl⟩
                        rw [hc] at hsn hext
                        have hsz2 : (⟨tg.toArray⟩ : ByteArray).size = tg.length := size_mk tg
                        have hidx : ∀ h, (⟨tg.toArray⟩ : ByteArray)[k]'h = c := fun h => (hgetb h).trans hc
                        have happ : (⟨tx.toArray⟩ : ByteArray) ++ (⟨tg.toArray⟩ : ByteArray).extract k (k + 1) = ⟨(tx ++ [c]).toArray⟩ := by rw [hext, append_mk]
                        have HSN := Lib.hid hsn
                        clear hgetb hext hsn hc
                        by_cases hq : c = 44
                        · have hq' : ((c.toNat : Int) == 44) = true := by subst hq; rfl
                          have HF := Lib.hid (show (tg.take (k + 1)).filter (· != 44) = tx by rw [HSN.out, List.filter_append, HTX.out, hq]; simp)
                          have HG := Lib.hid (show (tg.take (k + 1)).count 44 = mx + 1 by rw [HSN.out, List.count_append, HMX.out, hq]; simp)
                          clear hq
                          go_wp2
                          go_round
                          case rel => exact ⟨k + 1, by omega, by go_num, by rw [HF.out], by rw [HG.out] <;> simp⟩
                          case measure => simp [intOf]; omega
                        · have hq' : ((c.toNat : Int) == 44) = false := by
                            have h := byte_num c 44
                            rw [show ((44 : UInt8).toNat : Int) = 44 from rfl] at h
                            rw [h]
                            simpa using hq
                          have HF := Lib.hid (show (tg.take (k + 1)).filter (· != 44) = tx ++ [c] by rw [HSN.out, List.filter_append, HTX.out]; simp [hq])
                          have HG := Lib.hid (show (tg.take (k + 1)).count 44 = mx by rw [HSN.out, List.count_append, HMX.out]; simp [hq])
                          clear hq
                          go_wp2
                          go_round
                          case rel => exact ⟨k + 1, by omega, by go_num, by rw [HF.out], by rw [HG.out]⟩
                          case measure => simp [intOf]; omega
                      · obtain rfl : k = tg.length := by omega
                        have e4 : tx = s.data.toList := by rw [← HTX.out, List.take_length]; exact HGT.out.1
                        have e5 : mx = 1 + dv := by rw [← HMX.out, List.take_length, HGT.out.2]; exact HM.out
                        have e6 : strv tx = .string s := by first | (rw [e4]; done) | (rw [e4]; simp [strv])
                        have hsz2 : (⟨tg.toArray⟩ : ByteArray).size = tg.length := size_mk tg
                        rw [e6]
                        subst e5
                        clear HTX HMX e4 e6
                        go_wp2
                        go_ret
                        exact ⟨by first | rfl | (simp [go_sem]; done), hb05⟩
                  · have g2 : decide ((0 : Int) < (a : Int)) = true := by simp; omega
                    have g3 : decide ((a : Int) < (n : Int)) = false := by simp; omega
                    have HM := Lib.hid (show manyN a (if b = 0 then a else b) n = 0 by unfold manyN; rw [if_neg (by omega)])
                    go_wp2
                    go_loop [19, 20, 21] (fun t m i => ∃ k : Nat, k ≤ tg.length ∧ i = .int .i64 k ∧ t = strv ((tg.take k).filter (· != 44)) ∧ m = .int .i64 ((tg.take k).count 44 : Nat)) (fun _ _ i => tg.length - (intOf i).toNat)
                    case atStart => exact ⟨0, Nat.zero_le _, rfl, rfl, rfl⟩
                    case round =>
                      obtain ⟨k, hk, rfl, ht, hm⟩ := hrel
                      obtain ⟨tx, htx⟩ : ∃ q, (tg.take k).filter (· != 44) = q := ⟨_, rfl⟩
                      obtain ⟨mx, hmx⟩ : ∃ q, (tg.take k).count 44 = q := ⟨_, rfl⟩
                      rw [htx] at ht
                      rw [hmx] at hm
                      subst ht hm
                      have HTX := Lib.hid htx
                      have HMX := Lib.hid hmx
                      have hmxl : mx ≤ 1000 := by rw [← hmx]; have h1 := List.count_le_length (a := (44 : UInt8)) (l := tg.take k); have h2 := List.length_take_le k tg; omega
                      have htxl : tx.length ≤ 1000 := by rw [← htx]; have h1 := List.length_filter_le (fun c : UInt8 => c != 44) (tg.take k); have h2 := List.length_take_le k tg; omega
                      clear htx hmx
                      by_cases hlt : k < tg.length
                      · have hsn : tg.take (k + 1) = tg.take k ++ [tg[k]] := List.take_succ_eq_append_getElem hlt
                        have hgetb : ∀ h, (⟨tg.toArray⟩ : ByteArray)[k]'h = tg[k] := fun h => by simp [ByteArray.getElem_eq_getElem_data]
                        have hext : (⟨tg.toArray⟩ : ByteArray).extract k (k + 1) = ⟨[tg[k]].toArray⟩ := by
                          rw [extract_eq, Nat.add_sub_cancel_left, toList_mk, List.drop_eq_getElem_cons hlt]
                          rfl
                        obtain ⟨c, hc⟩ : ∃ c, tg[k] = c := ⟨_, rfl⟩
                        rw [hc] at hsn hext
                        have hsz2 : (⟨tg.toArray⟩ : ByteArray).size = tg.length := size_mk tg
                        have hidx : ∀ h, (⟨tg.toArray⟩ : ByteArray)[k]'h = c := fun h => (hgetb h).trans hc
                        have happ : (⟨tx.toArray⟩ : ByteArray) ++ (⟨tg.toArray⟩ : ByteArray).extract k (k + 1) = ⟨(tx ++ [c]).toArray⟩ := by rw [hext, append_mk]
                        have HSN := Lib.hid hsn
                        clear hgetb hext hsn hc
                        by_cases hq : c = 44
                        · have hq' : ((c.toNat : Int) == 44) = true := by subst hq; rfl
                          have HF := Lib.hid (show (tg.take (k + 1)).filter (· != 44) = tx by rw [HSN.out, List.filter_append, HTX.out, hq]; simp)
                          have HG := Lib.hid (show (tg.take (k + 1)).count 44 = mx + 1 by rw [HSN.out, List.count_append, HMX.out, hq]; simp)
                          clear hq
                          go_wp2
                          go_round
                          case rel => exact ⟨k + 1, by omega, by go_num, by rw [HF.out], by rw [HG.out] <;> simp⟩
                          case measure => simp [intOf]; omega
                        · have hq' : ((c.toNat : Int) == 44) = false := by
                            have h := byte_num c 44
                            rw [show ((44 : UInt8).toNat : Int) = 44 from rfl] at h
                            rw [h]
                            simpa using hq
                          have HF := Lib.hid (show (tg.take (k + 1)).filter (· != 44) = tx ++ [c] by rw [HSN.out, List.filter_append, HTX.out]; simp [hq])
                          have HG := Lib.hid (show (tg.take (k + 1)).count 44 = mx by rw [HSN.out, List.count_append, HMX.out]; simp [hq])
                          clear hq
                          go_wp2
                          go_round
                          case rel => exact ⟨k + 1, by omega, by go_num, by rw [HF.out], by rw [HG.out]⟩
                          case measure => simp [intOf]; omega
                      · obtain rfl : k = tg.length := by omega
                        have e4 : tx = s.data.toList := by rw [← HTX.out, List.take_length]; exact HGT.out.1
                        have e5 : mx = 0 := by rw [← HMX.out, List.take_length, HGT.out.2]; exact HM.out
                        have e6 : strv tx = .string s := by first | (rw [e4]; done) | (rw [e4]; simp [strv])
                        have hsz2 : (⟨tg.toArray⟩ : ByteArray).size = tg.length := size_mk tg
                        rw [e6]
                        subst e5
                        clear HTX HMX e4 e6
                        go_wp2
                        go_ret
                        exact ⟨by first | rfl | (simp [go_sem]; done), hb05⟩
                · have g2 : decide ((0 : Int) < (a : Int)) = false := by simp; omega
                  have HM := Lib.hid (show manyN a (if b = 0 then a else b) n = 0 by unfold manyN; rw [if_neg (by omega)])
                  go_wp2
                  go_loop [19, 20, 21] (fun t m i => ∃ k : Nat, k ≤ tg.length ∧ i = .int .i64 k ∧ t = strv ((tg.take k).filter (· != 44)) ∧ m = .int .i64 ((tg.take k).count 44 : Nat)) (fun _ _ i => tg.length - (intOf i).toNat)
                  case atStart => exact ⟨0, Nat.zero_le _, rfl, rfl, rfl⟩
                  case round =>
                    obtain ⟨k, hk, rfl, ht, hm⟩ := hrel
                    obtain ⟨tx, htx⟩ : ∃ q, (tg.take k).filter (· != 44) = q := ⟨_, rfl⟩
                    obtain ⟨mx, hmx⟩ : ∃ q, (tg.take k).count 44 = q := ⟨_, rfl⟩
                    rw [htx] at ht
                    rw [hmx] at hm
                    subst ht hm
                    have HTX := Lib.hid htx
                    have HMX := Lib.hid hmx
                    have hmxl : mx ≤ 1000 := by rw [← hmx]; have h1 := List.count_le_length (a := (44 : UInt8)) (l := tg.take k); have h2 := List.length_take_le k tg; omega
                    have htxl : tx.length ≤ 1000 := by rw [← htx]; have h1 := List.length_filter_le (fun c : UInt8 => c != 44) (tg.take k); have h2 := List.length_take_le k tg; omega
                    clear htx hmx
                    by_cases hlt : k < tg.length
                    · have hsn : tg.take (k + 1) = tg.take k ++ [tg[k]] := List.take_succ_eq_append_getElem hlt
                      have hgetb : ∀ h, (⟨tg.toArray⟩ : ByteArray)[k]'h = tg[k] := fun h => by simp [ByteArray.getElem_eq_getElem_data]
                      have hext : (⟨tg.toArray⟩ : ByteArray).extract k (k + 1) = ⟨[tg[k]].toArray⟩ := by
                        rw [extract_eq, Nat.add_sub_cancel_left, toList_mk, List.drop_eq_getElem_cons hlt]
                        rfl
                      obtain ⟨c, hc⟩ : ∃ c, tg[k] = c := ⟨_, rfl⟩
                      rw [hc] at hsn hext
                      have hsz2 : (⟨tg.toArray⟩ : ByteArray).size = tg.length := size_mk tg
                      have hidx : ∀ h, (⟨tg.toArray⟩ : ByteArray)[k]'h = c := fun h => (hgetb h).trans hc
                      have happ : (⟨tx.toArray⟩ : ByteArray) ++ (⟨tg.toArray⟩ : ByteArray).extract k (k + 1) = ⟨(tx ++ [c]).toArray⟩ := by rw [hext, append_mk]
                      have HSN := Lib.hid hsn
                      clear hgetb hext hsn hc
                      by_cases hq : c = 44
                      · have hq' : ((c.toNat : Int) == 44) = true := by subst hq; rfl
                        have HF := Lib.hid (show (tg.take (k + 1)).filter (· != 44) = tx by rw [HSN.out, List.filter_append, HTX.out, hq]; simp)
                        have HG := Lib.hid (show (tg.take (k + 1)).count 44 = mx + 1 by rw [HSN.out, List.count_append, HMX.out, hq]; simp)
                        clear hq
                        go_wp2
                        go_round
                        case rel => exact ⟨k + 1, by omega, by go_num, by rw [HF.out], by rw [HG.out] <;> simp⟩
                        case measure => simp [intOf]; omega
                      · have hq' : ((c.toNat : Int) == 44) = false := by
                          have h := byte_num c 44
                          rw [show ((44 : UInt8).toNat : Int) = 44 from rfl] at h
                          rw [h]
                          simpa using hq
                        have HF := Lib.hid (show (tg.take (k + 1)).filter (· != 44) = tx ++ [c] by rw [HSN.out, List.filter_append, HTX.out]; simp [hq])
                        have HG := Lib.hid (show (tg.take (k + 1)).count 44 = mx by rw [HSN.out, List.count_append, HMX.out]; simp [hq])
                        clear hq
                        go_wp2
                        go_round
                        case rel => exact ⟨k + 1, by omega, by go_num, by rw [HF.out], by rw [HG.out]⟩
                        case measure => simp [intOf]; omega
                    · obtain rfl : k = tg.length := by omega
                      have e4 : tx = s.data.toList := by rw [← HTX.out, List.take_length]; exact HGT.out.1
                      have e5 : mx = 0 := by rw [← HMX.out, List.take_length, HGT.out.2]; exact HM.out
                      have e6 : strv tx = .string s := by first | (rw [e4]; done) | (rw [e4]; simp [strv])
                      have hsz2 : (⟨tg.toArray⟩ : ByteArray).size = tg.length := size_mk tg
                      rw [e6]
                      subst e5
                      clear HTX HMX e4 e6
                      go_wp2
                      go_ret
                      exact ⟨by first | rfl | (simp [go_sem]; done), hb05⟩
              · rw [hng] at hkn
                have hkk : 1 + n = k := by have h := hkn; simp at h; exact h.symm
                have hk1 : (k : Int) - 1 = (n : Int) := by omega
                have HKK := Lib.hid hkk
                clear hkk
                have hn0 : ∀ h, (((s[0]'h).toNat : Int) == 45) = true := fun h => by
                  have h2 := byte_num (s[0]'h) 45
                  rw [show ((45 : UInt8).toNat : Int) = 45 from rfl] at h2
                  rw [h2, HNEG.out]
                  exact hng
                clear hkn hng
                by_cases hm1 : 0 < a
                · by_cases hm2 : a < n
                  · have g2 : decide ((0 : Int) < (a : Int)) = true := by simp; omega
                    have g3 : decide ((a : Int) < (n : Int)) = true := by simp; omega
                    have g4 : IntKind.i64.wrap ((n : Int) - (a : Int)) = ((n - a : Nat) : Int) := by simp [IntKind.wrap, IntKind.signed, IntKind.bits]; omega
                    have g5 : IntKind.i64.wrap (((n - a : Nat) : Int) - 1) = ((n - a - 1 : Nat) : Int) := by simp [IntKind.wrap, IntKind.signed, IntKind.bits]; omega
                    have g6 : ((a : Int) == 0) = false := by simp; omega
                    obtain ⟨dv, hdv⟩ : ∃ d, (n - a - 1) / a = d := ⟨_, rfl⟩
                    have g8 : dv ≤ 30 := by have := Nat.div_le_self (n - a - 1) a; omega
                    have g7 : (((n - a - 1 : Nat) : Int)) / (a : Int) = (dv : Int) := by rw [← hdv]; simp
                    have g10 : IntKind.i64.wrap (dv : Int) = (dv : Int) := by simp [IntKind.wrap, IntKind.signed, IntKind.bits]; omega
                    have g9 : IntKind.i64.wrap (1 + (dv : Int)) = ((1 + dv : Nat) : Int) := by simp [IntKind.wrap, IntKind.signed, IntKind.bits]; omega
                    have HDV := Lib.hid hdv
                    clear hdv
                    have HM := Lib.hid (show manyN a (if b = 0 then a else b) n = 1 + dv by unfold manyN; rw [if_pos ⟨hm1, hm2⟩, if_pos hb0, HDV.out])
                    go_wp2
                    go_loop [19, 20, 21] (fun t m i => ∃ k : Nat, k ≤ tg.length ∧ i = .int .i64 k ∧ t = strv ((tg.take k).filter (· != 44)) ∧ m = .int .i64 ((tg.take k).count 44 : Nat)) (fun _ _ i => tg.length - (intOf i).toNat)
                    case atStart => exact ⟨0, Nat.zero_le _, rfl, rfl, rfl⟩
                    case round =>
                      obtain ⟨k, hk, rfl, ht, hm⟩ := hrel
                      obtain ⟨tx, htx⟩ : ∃ q, (tg.take k).filter (· != 44) = q := ⟨_, rfl⟩
                      obtain ⟨mx, hmx⟩ : ∃ q, (tg.take k).count 44 = q := ⟨_, rfl⟩
                      rw [htx] at ht
                      rw [hmx] at hm
                      subst ht hm
                      have HTX := Lib.hid htx
                      have HMX := Lib.hid hmx
                      have hmxl : mx ≤ 1000 := by rw [← hmx]; have h1 := List.count_le_length (a := (44 : UInt8)) (l := tg.take k); have h2 := List.length_take_le k tg; omega
                      have htxl : tx.length ≤ 1000 := by rw [← htx]; have h1 := List.length_filter_le (fun c : UInt8 => c != 44) (tg.take k); have h2 := List.length_take_le k tg; omega
                      clear htx hmx
                      by_cases hlt : k < tg.length
                      · have hsn : tg.take (k + 1) = tg.take k ++ [tg[k]] := List.take_succ_eq_append_getElem hlt
                        have hgetb : ∀ h, (⟨tg.toArray⟩ : ByteArray)[k]'h = tg[k] := fun h => by simp [ByteArray.getElem_eq_getElem_data]
                        have hext : (⟨tg.toArray⟩ : ByteArray).extract k (k + 1) = ⟨[tg[k]].toArray⟩ := by
                          rw [extract_eq, Nat.add_sub_cancel_left, toList_mk, List.drop_eq_getElem_cons hlt]
                          rfl
                        obtain ⟨c, hc⟩ : ∃ c, tg[k] = c := ⟨_, rfl⟩
                        rw [hc] at hsn hext
                        have hsz2 : (⟨tg.toArray⟩ : ByteArray).size = tg.length := size_mk tg
                        have hidx : ∀ h, (⟨tg.toArray⟩ : ByteArray)[k]'h = c := fun h => (hgetb h).trans hc
                        have happ : (⟨tx.toArray⟩ : ByteArray) ++ (⟨tg.toArray⟩ : ByteArray).extract k (k + 1) = ⟨(tx ++ [c]).toArray⟩ := by rw [hext, append_mk]
                        have HSN := Lib.hid hsn
                        clear hgetb hext hsn hc
                        by_cases hq : c = 44
                        · have hq' : ((c.toNat : Int) == 44) = true := by subst hq; rfl
                          have HF := Lib.hid (show (tg.take (k + 1)).filter (· != 44) = tx by rw [HSN.out, List.filter_append, HTX.out, hq]; simp)
                          have HG := Lib.hid (show (tg.take (k + 1)).count 44 = mx + 1 by rw [HSN.out, List.count_append, HMX.out, hq]; simp)
                          clear hq
                          go_wp2
                          go_round
                          case rel => exact ⟨k + 1, by omega, by go_num, by rw [HF.out], by rw [HG.out] <;> simp⟩
                          case measure => simp [intOf]; omega
                        · have hq' : ((c.toNat : Int) == 44) = false := by
                            have h := byte_num c 44
                            rw [show ((44 : UInt8).toNat : Int) = 44 from rfl] at h
                            rw [h]
                            simpa using hq
                          have HF := Lib.hid (show (tg.take (k + 1)).filter (· != 44) = tx ++ [c] by rw [HSN.out, List.filter_append, HTX.out]; simp [hq])
                          have HG := Lib.hid (show (tg.take (k + 1)).count 44 = mx by rw [HSN.out, List.count_append, HMX.out]; simp [hq])
                          clear hq
                          go_wp2
                          go_round
                          case rel => exact ⟨k + 1, by omega, by go_num, by rw [HF.out], by rw [HG.out]⟩
                          case measure => simp [intOf]; omega
                      · obtain rfl : k = tg.length := by omega
                        have e4 : tx = s.data.toList := by rw [← HTX.out, List.take_length]; exact HGT.out.1
                        have e5 : mx = 1 + dv := by rw [← HMX.out, List.take_length, HGT.out.2]; exact HM.out
                        have e6 : strv tx = .string s := by first | (rw [e4]; done) | (rw [e4]; simp [strv])
                        have hsz2 : (⟨tg.toArray⟩ : ByteArray).size = tg.length := size_mk tg
                        rw [e6]
                        subst e5
                        clear HTX HMX e4 e6
                        go_wp2
                        go_ret
                        exact ⟨by first | rfl | (simp [go_sem]; done), hb05⟩
                  · have g2 : decide ((0 : Int) < (a : Int)) = true := by simp; omega
                    have g3 : decide ((a : Int) < (n : Int)) = false := by simp; omega
                    have HM := Lib.hid (show manyN a (if b = 0 then a else b) n = 0 by unfold manyN; rw [if_neg (by omega)])
                    go_wp2
                    go_loop [19, 20, 21] (fun t m i => ∃ k : Nat, k ≤ tg.length ∧ i = .int .i64 k ∧ t = strv ((tg.take k).filter (· != 44)) ∧ m = .int .i64 ((tg.take k).count 44 : Nat)) (fun _ _ i => tg.length - (intOf i).toNat)
                    case atStart => exact ⟨0, Nat.zero_le _, rfl, rfl, rfl⟩
                    case round =>
                      obtain ⟨k, hk, rfl, ht, hm⟩ := hrel
                      obtain ⟨tx, htx⟩ : ∃ q, (tg.take k).filter (· != 44) = q := ⟨_, rfl⟩
                      obtain ⟨mx, hmx⟩ : ∃ q, (tg.take k).count 44 = q := ⟨_, rfl⟩
                      rw [htx] at ht
                      rw [hmx] at hm
                      subst ht hm
                      have HTX := Lib.hid htx
                      have HMX := Lib.hid hmx
                      have hmxl : mx ≤ 1000 := by rw [← hmx]; have h1 := List.count_le_length (a := (44 : UInt8)) (l := tg.take k); have h2 := List.length_take_le k tg; omega
                      have htxl : tx.length ≤ 1000 := by rw [← htx]; have h1 := List.length_filter_le (fun c : UInt8 => c != 44) (tg.take k); have h2 := List.length_take_le k tg; omega
                      clear htx hmx
                      by_cases hlt : k < tg.length
                      · have hsn : tg.take (k + 1) = tg.take k ++ [tg[k]] := List.take_succ_eq_append_getElem hlt
                        have hgetb : ∀ h, (⟨tg.toArray⟩ : ByteArray)[k]'h = tg[k] := fun h => by simp [ByteArray.getElem_eq_getElem_data]
                        have hext : (⟨tg.toArray⟩ : ByteArray).extract k (k + 1) = ⟨[tg[k]].toArray⟩ := by
                          rw [extract_eq, Nat.add_sub_cancel_left, toList_mk, List.drop_eq_getElem_cons hlt]
                          rfl
                        obtain ⟨c, hc⟩ : ∃ c, tg[k] = c := ⟨_, rfl⟩
                        rw [hc] at hsn hext
                        have hsz2 : (⟨tg.toArray⟩ : ByteArray).size = tg.length := size_mk tg
                        have hidx : ∀ h, (⟨tg.toArray⟩ : ByteArray)[k]'h = c := fun h => (hgetb h).trans hc
                        have happ : (⟨tx.toArray⟩ : ByteArray) ++ (⟨tg.toArray⟩ : ByteArray).extract k (k + 1) = ⟨(tx ++ [c]).toArray⟩ := by rw [hext, append_mk]
                        have HSN := Lib.hid hsn
                        clear hgetb hext hsn hc
                        by_cases hq : c = 44
                        · have hq' : ((c.toNat : Int) == 44) = true := by subst hq; rfl
                          have HF := Lib.hid (show (tg.take (k + 1)).filter (· != 44) = tx by rw [HSN.out, List.filter_append, HTX.out, hq]; simp)
                          have HG := Lib.hid (show (tg.take (k + 1)).count 44 = mx + 1 by rw [HSN.out, List.count_append, HMX.out, hq]; simp)
                          clear hq
                          go_wp2
                          go_round
                          case rel => exact ⟨k + 1, by omega, by go_num, by rw [HF.out], by rw [HG.out] <;> simp⟩
                          case measure => simp [intOf]; omega
                        · have hq' : ((c.toNat : Int) == 44) = false := by
                            have h := byte_num c 44
                            rw [show ((44 : UInt8).toNat : Int) = 44 from rfl] at h
                            rw [h]
                            simpa using hq
                          have HF := Lib.hid (show (tg.take (k + 1)).filter (· != 44) = tx ++ [c] by rw [HSN.out, List.filter_append, HTX.out]; simp [hq])
                          have HG := Lib.hid (show (tg.take (k + 1)).count 44 = mx by rw [HSN.out, List.count_append, HMX.out]; simp [hq])
                          clear hq
                          go_wp2
                          go_round
                          case rel => exact ⟨k + 1, by omega, by go_num, by rw [HF.out], by rw [HG.out]⟩
                          case measure => simp [intOf]; omega
                      · obtain rfl : k = tg.length := by omega
                        have e4 : tx = s.data.toList := by rw [← HTX.out, List.take_length]; exact HGT.out.1
                        have e5 : mx = 0 := by rw [← HMX.out, List.take_length, HGT.out.2]; exact HM.out
                        have e6 : strv tx = .string s := by first | (rw [e4]; done) | (rw [e4]; simp [strv])
                        have hsz2 : (⟨tg.toArray⟩ : ByteArray).size = tg.length := size_mk tg
                        rw [e6]
                        subst e5
                        clear HTX HMX e4 e6
                        go_wp2
                        go_ret
                        exact ⟨by first | rfl | (simp [go_sem]; done), hb05⟩
                · have g2 : decide ((0 : Int) < (a : Int)) = false := by simp; omega
                  have HM := Lib.hid (show manyN a (if b = 0 then a else b) n = 0 by unfold manyN; rw [if_neg (by omega)])
                  go_wp2
                  go_loop [19, 20, 21] (fun t m i => ∃ k : Nat, k ≤ tg.length ∧ i = .int .i64 k ∧ t = strv ((tg.take k).filter (· != 44)) ∧ m = .int .i64 ((tg.take k).count 44 : Nat)) (fun _ _ i => tg.length - (intOf i).toNat)
                  case atStart => exact ⟨0, Nat.zero_le _, rfl, rfl, rfl⟩
                  case round =>
                    obtain ⟨k, hk, rfl, ht, hm⟩ := hrel
                    obtain ⟨tx, htx⟩ : ∃ q, (tg.take k).filter (· != 44) = q := ⟨_, rfl⟩
                    obtain ⟨mx, hmx⟩ : ∃ q, (tg.take k).count 44 = q := ⟨_, rfl⟩
                    rw [htx] at ht
                    rw [hmx] at hm
                    subst ht hm
                    have HTX := Lib.hid htx
                    have HMX := Lib.hid hmx
                    have hmxl : mx ≤ 1000 := by rw [← hmx]; have h1 := List.count_le_length (a := (44 : UInt8)) (l := tg.take k); have h2 := List.length_take_le k tg; omega
                    have htxl : tx.length ≤ 1000 := by rw [← htx]; have h1 := List.length_filter_le (fun c : UInt8 => c != 44) (tg.take k); have h2 := List.length_take_le k tg; omega
                    clear htx hmx
                    by_cases hlt : k < tg.length
                    · have hsn : tg.take (k + 1) = tg.take k ++ [tg[k]] := List.take_succ_eq_append_getElem hlt
                      have hgetb : ∀ h, (⟨tg.toArray⟩ : ByteArray)[k]'h = tg[k] := fun h => by simp [ByteArray.getElem_eq_getElem_data]
                      have hext : (⟨tg.toArray⟩ : ByteArray).extract k (k + 1) = ⟨[tg[k]].toArray⟩ := by
                        rw [extract_eq, Nat.add_sub_cancel_left, toList_mk, List.drop_eq_getElem_cons hlt]
                        rfl
                      obtain ⟨c, hc⟩ : ∃ c, tg[k] = c := ⟨_, rfl⟩
                      rw [hc] at hsn hext
                      have hsz2 : (⟨tg.toArray⟩ : ByteArray).size = tg.length := size_mk tg
                      have hidx : ∀ h, (⟨tg.toArray⟩ : ByteArray)[k]'h = c := fun h => (hgetb h).trans hc
                      have happ : (⟨tx.toArray⟩ : ByteArray) ++ (⟨tg.toArray⟩ : ByteArray).extract k (k + 1) = ⟨(tx ++ [c]).toArray⟩ := by rw [hext, append_mk]
                      have HSN := Lib.hid hsn
                      clear hgetb hext hsn hc
                      by_cases hq : c = 44
                      · have hq' : ((c.toNat : Int) == 44) = true := by subst hq; rfl
                        have HF := Lib.hid (show (tg.take (k + 1)).filter (· != 44) = tx by rw [HSN.out, List.filter_append, HTX.out, hq]; simp)
                        have HG := Lib.hid (show (tg.take (k + 1)).count 44 = mx + 1 by rw [HSN.out, List.count_append, HMX.out, hq]; simp)
                        clear hq
                        go_wp2
                        go_round
                        case rel => exact ⟨k + 1, by omega, by go_num, by rw [HF.out], by rw [HG.out] <;> simp⟩
                        case measure => simp [intOf]; omega
                      · have hq' : ((c.toNat : Int) == 44) = false := by
                          have h := byte_num c 44
                          rw [show ((44 : UInt8).toNat : Int) = 44 from rfl] at h
                          rw [h]
                          simpa using hq
                        have HF := Lib.hid (show (tg.take (k + 1)).filter (· != 44) = tx ++ [c] by rw [HSN.out, List.filter_append, HTX.out]; simp [hq])
                        have HG := Lib.hid (show (tg.take (k + 1)).count 44 = mx by rw [HSN.out, List.count_append, HMX.out]; simp [hq])
                        clear hq
                        go_wp2
                        go_round
                        case rel => exact ⟨k + 1, by omega, by go_num, by rw [HF.out], by rw [HG.out]⟩
                        case measure => simp [intOf]; omega
                    · obtain rfl : k = tg.length := by omega
                      have e4 : tx = s.data.toList := by rw [← HTX.out, List.take_length]; exact HGT.out.1
                      have e5 : mx = 0 := by rw [← HMX.out, List.take_length, HGT.out.2]; exact HM.out
                      have e6 : strv tx = .string s := by first | (rw [e4]; done) | (rw [e4]; simp [strv])
                      have hsz2 : (⟨tg.toArray⟩ : ByteArray).size = tg.length := size_mk tg
                      rw [e6]
                      subst e5
                      clear HTX HMX e4 e6
                      go_wp2
                      go_ret
                      exact ⟨by first | rfl | (simp [go_sem]; done), hb05⟩
      · have hb0' : ((b : Int) == 0) = false := by simp; omega
        go_wp2
        go_loop [17] (fun i => ∃ k : Nat, k ≤ s.size ∧ i = .int .i64 k ∧ (46 : UInt8) ∉ s.data.toList.take k) (fun i => s.size - (intOf i).toNat)
        case atStart => exact ⟨0, Nat.zero_le _, rfl, by simp⟩
        case round =>
          obtain ⟨k, hk, rfl, hno⟩ := hrel
          have HNO := Lib.hid hno
          clear hno
          by_cases hgo : ∃ h : k < s.size, s[k] ≠ 46
          · obtain ⟨hlt, hq⟩ := hgo
            have hq' : ∀ h, (((s[k]'h).toNat : Int) != 46) = true := fun h => by
              have h2 := byte_num (s[k]'h) 46
              rw [show ((46 : UInt8).toNat : Int) = 46 from rfl] at h2
              rw [bne, h2]
              simpa using hq
            have HF := Lib.hid (show (46 : UInt8) ∉ s.data.toList.take (k + 1) by
              rw [take_snoc s k hlt, List.mem_append]
              rintro (q | q)
              · exact HNO.out q
              · exact hq (List.mem_singleton.1 q).symm)
            clear hq
            go_wp2
            go_round
            case rel => exact ⟨k + 1, by omega, by go_num, HF.out⟩
            case measure => simp [intOf]; omega
          · have hix : s.data.toList.idxOf 46 = k := by
              by_cases hlt : k < s.size
              · have hq : s[k] = 46 := by
                  apply Classical.byContradiction
                  intro q
                  exact hgo ⟨hlt, q⟩
                have hsp : s.data.toList = s.data.toList.take k ++ 46 :: s.data.toList.drop (k + 1) := by
                  rw [← hq, ← drop_cons s k hlt, List.take_append_drop]
                rw [hsp, List.idxOf_append, if_neg HNO.out]
                simp
                omega
              · have h2 := HNO.out
                rw [List.take_of_length_le (by rw [size_toList]; omega)] at h2
                have h3 := List.idxOf_eq_length h2
                rw [h3, size_toList]
                omega
            have hstop : k < s.size → ∀ h, (((s[k]'h).toNat : Int) != 46) = false := fun hlt h => by
              have hq : s[k] = 46 := by
                apply Classical.byContradiction
                intro q
                exact hgo ⟨hlt, q⟩
              rw [hq]
              rfl
            have hkn : k = (if negL s.data.toList then 1 else 0) + n := by rw [← hix, HPT.out]
            clear hgo hix
            by_cases hkl : k < s.size
            · have hst2 := hstop hkl
              clear hstop
              cases hng : negL s.data.toList
              · rw [hng] at hkn
                have hkk : n = k := by have h := hkn; simp at h; exact h.symm
                subst hkk
                have hn0 : ∀ h, (((s[0]'h).toNat : Int) == 45) = false := fun h => by
                  have h2 := byte_num (s[0]'h) 45
                  rw [show ((45 : UInt8).toNat : Int) = 45 from rfl] at h2
                  rw [h2, HNEG.out]
                  exact hng
                clear hkn hng
                by_cases hm1 : 0 < a
                · by_cases hm2 : a < n
                  · have g2 : decide ((0 : Int) < (a : Int)) = true := by simp; omega
                    have g3 : decide ((a : Int) < (n : Int)) = true := by simp; omega
                    have g4 : IntKind.i64.wrap ((n : Int) - (a : Int)) = ((n - a : Nat) : Int) := by simp [IntKind.wrap, IntKind.signed, IntKind.bits]; omega
                    have g5 : IntKind.i64.wrap (((n - a : Nat) : Int) - 1) = ((n - a - 1 : Nat) : Int) := by simp [IntKind.wrap, IntKind.signed, IntKind.bits]; omega
                    have g6 : ((b : Int) == 0) = false := by simp; omega
                    obtain ⟨dv, hdv⟩ : ∃ d, (n - a - 1) / b = d := ⟨_, rfl⟩
                    have g8 : dv ≤ 30 := by have := Nat.div_le_self (n - a - 1) b; omega
                    have g7 : (((n - a - 1 : Nat) : Int)) / (b : Int) = (dv : Int) := by rw [← hdv]; simp
                    have g10 : IntKind.i64.wrap (dv : Int) = (dv : Int) := by simp [IntKind.wrap, IntKind.signed, IntKind.bits]; omega
                    have g9 : IntKind.i64.wrap (1 + (dv : Int)) = ((1 + dv : Nat) : Int) := by simp [IntKind.wrap, IntKind.signed, IntKind.bits]; omega
                    have HDV := Lib.hid hdv
                    clear hdv
                    have HM := Lib.hid (show manyN a (if b = 0 then a else b) n = 1 + dv by unfold manyN; rw [if_pos ⟨hm1, hm2⟩, if_neg hb0, HDV.out])
                    go_wp2
                    go_loop [19, 20, 21] (fun t m i => ∃ k : Nat, k ≤ tg.length ∧ i = .int .i64 k ∧ t = strv ((tg.take k).filter (· != 44)) ∧ m = .int .i64 ((tg.take k).count 44 : Nat)) (fun _ _ i => tg.length - (intOf i).toNat)
                    case atStart => exact ⟨0, Nat.zero_le _, rfl, rfl, rfl⟩
                    case round =>
                      obtain ⟨k, hk, rfl, ht, hm⟩ := hrel
                      obtain ⟨tx, htx⟩ : ∃ q, (tg.take k).filter (· != 44) = q := ⟨_, rfl⟩
                      obtain ⟨mx, hmx⟩ : ∃ q, (tg.take k).count 44 = q := ⟨_, rfl⟩
                      rw [htx] at ht
                      rw [hmx] at hm
                      subst ht hm
                      have HTX := Lib.hid htx
                      have HMX := Lib.hid hmx
                      have hmxl : mx ≤ 1000 := by rw [← hmx]; have h1 := List.count_le_length (a := (44 : UInt8)) (l := tg.take k); have h2 := List.length_take_le k tg; omega
                      have htxl : tx.length ≤ 1000 := by rw [← htx]; have h1 := List.length_filter_le (fun c : UInt8 => c != 44) (tg.take k); have h2 := List.length_take_le k tg; omega
                      clear htx hmx
                      by_cases hlt : k < tg.length
                      · have hsn : tg.take (k + 1) = tg.take k ++ [tg[k]] := List.take_succ_eq_append_getElem hlt
                        have hgetb : ∀ h, (⟨tg.toArray⟩ : ByteArray)[k]'h = tg[k] := fun h => by simp [ByteArray.getElem_eq_getElem_data]
                        have hext : (⟨tg.toArray⟩ : ByteArray).extract k (k + 1) = ⟨[tg[k]].toArray⟩ := by
                          rw [extract_eq, Nat.add_sub_cancel_left, toList_mk, List.drop_eq_getElem_cons hlt]
                          rfl
                        obtain ⟨c, hc⟩ : ∃ c, tg[k] = c := ⟨_, rfl⟩
                        rw [hc] at hsn hext
                        have hsz2 : (⟨tg.toArray⟩ : ByteArray).size = tg.length := size_mk tg
                        have hidx : ∀ h, (⟨tg.toArray⟩ : ByteArray)[k]'h = c := fun h => (hgetb h).trans hc
                        have happ : (⟨tx.toArray⟩ : ByteArray) ++ (⟨tg.toArray⟩ : ByteArray).extract k (k + 1) = ⟨(tx ++ [c]).toArray⟩ := by rw [hext, append_mk]
                        have HSN := Lib.hid hsn
                        clear hgetb hext hsn hc
                        by_cases hq : c = 44
                        · have hq' : ((c.toNat : Int) == 44) = true := by subst hq; rfl
                          have HF := Lib.hid (show (tg.take (k + 1)).filter (· != 44) = tx by rw [HSN.out, List.filter_append, HTX.out, hq]; simp)
                          have HG := Lib.hid (show (tg.take (k + 1)).count 44 = mx + 1 by rw [HSN.out, List.count_append, HMX.out, hq]; simp)
                          clear hq
                          go_wp2
                          go_round
                          case rel => exact ⟨k + 1, by omega, by go_num, by rw [HF.out], by rw [HG.out] <;> simp⟩
                          case measure => simp [intOf]; omega
                        · have hq' : ((c.toNat : Int) == 44) = false := by
                            have h := byte_num c 44
                            rw [show ((44 : UInt8).toNat : Int) = 44 from rfl] at h
                            rw [h]
                            simpa using hq
                          have HF := Lib.hid (show (tg.take (k + 1)).filter (· != 44) = tx ++ [c] by rw [HSN.out, List.filter_append, HTX.out]; simp [hq])
                          have HG := Lib.hid (show (tg.take (k + 1)).count 44 = mx by rw [HSN.out, List.count_append, HMX.out]; simp [hq])
                          clear hq
                          go_wp2
                          go_round
                          case rel => exact ⟨k + 1, by omega, by go_num, by rw [HF.out], by rw [HG.out]⟩
                          case measure => simp [intOf]; omega
                      · obtain rfl : k = tg.length := by omega
                        have e4 : tx = s.data.toList := by rw [← HTX.out, List.take_length]; exact HGT.out.1
                        have e5 : mx = 1 + dv := by rw [← HMX.out, List.take_length, HGT.out.2]; exact HM.out
                        have e6 : strv tx = .string s := by first | (rw [e4]; done) | (rw [e4]; simp [strv])
                        have hsz2 : (⟨tg.toArray⟩ : ByteArray).size = tg.length := size_mk tg
                        rw [e6]
                        subst e5
                        clear HTX HMX e4 e6
                        go_wp2
                        go_ret
                        exact ⟨by first | rfl | (simp [go_sem]; done), hb05⟩
                  · have g2 : decide ((0 : Int) < (a : Int)) = true := by simp; omega
                    have g3 : decide ((a : Int) < (n : Int)) = false := by simp; omega
                    have HM := Lib.hid (show manyN a (if b = 0 then a else b) n = 0 by unfold manyN; rw [if_neg (by omega)])
                    go_wp2
                    go_loop [19, 20, 21] (fun t m i => ∃ k : Nat, k ≤ tg.length ∧ i = .int .i64 k ∧ t = strv ((tg.take k).filter (· != 44)) ∧ m = .int .i64 ((tg.take k).count 44 : Nat)) (fun _ _ i => tg.length - (intOf i).toNat)
                    case atStart => exact ⟨0, Nat.zero_le _, rfl, rfl, rfl⟩
                    case round =>
                      obtain ⟨k, hk, rfl, ht, hm⟩ := hrel
                      obtain ⟨tx, htx⟩ : ∃ q, (tg.take k).filter (· != 44) = q := ⟨_, rfl⟩
                      obtain ⟨mx, hmx⟩ : ∃ q, (tg.take k).count 44 = q := ⟨_, rfl⟩
                      rw [htx] at ht
                      rw [hmx] at hm
                      subst ht hm
                      have HTX := Lib.hid htx
                      have HMX := Lib.hid hmx
                      have hmxl : mx ≤ 1000 := by rw [← hmx]; have h1 := List.count_le_length (a := (44 : UInt8)) (l := tg.take k); have h2 := List.length_take_le k tg; omega
                      have htxl : tx.length ≤ 1000 := by rw [← htx]; have h1 := List.length_filter_le (fun c : UInt8 => c != 44) (tg.take k); have h2 := List.length_take_le k tg; omega
                      clear htx hmx
                      by_cases hlt : k < tg.length
                      · have hsn : tg.take (k + 1) = tg.take k ++ [tg[k]] := List.take_succ_eq_append_getElem hlt
                        have hgetb : ∀ h, (⟨tg.toArray⟩ : ByteArray)[k]'h = tg[k] := fun h => by simp [ByteArray.getElem_eq_getElem_data]
                        have hext : (⟨tg.toArray⟩ : ByteArray).extract k (k + 1) = ⟨[tg[k]].toArray⟩ := by
                          rw [extract_eq, Nat.add_sub_cancel_left, toList_mk, List.drop_eq_getElem_cons hlt]
                          rfl
                        obtain ⟨c, hc⟩ : ∃ c, tg[k] = c := ⟨_, rfl⟩
                        rw [hc] at hsn hext
                        have hsz2 : (⟨tg.toArray⟩ : ByteArray).size = tg.length := size_mk tg
                        have hidx : ∀ h, (⟨tg.toArray⟩ : ByteArray)[k]'h = c := fun h => (hgetb h).trans hc
                        have happ : (⟨tx.toArray⟩ : ByteArray) ++ (⟨tg.toArray⟩ : ByteArray).extract k (k + 1) = ⟨(tx ++ [c]).toArray⟩ := by rw [hext, append_mk]
                        have HSN := Lib.hid hsn
                        clear hgetb hext hsn hc
                        by_cases hq : c = 44
                        · have hq' : ((c.toNat : Int) == 44) = true := by subst hq; rfl
                          have HF := Lib.hid (show (tg.take (k + 1)).filter (· != 44) = tx by rw [HSN.out, List.filter_append, HTX.out, hq]; simp)
                          have HG := Lib.hid (show (tg.take (k + 1)).count 44 = mx + 1 by rw [HSN.out, List.count_append, HMX.out, hq]; simp)
                          clear hq
                          go_wp2
                          go_round
                          case rel => exact ⟨k + 1, by omega, by go_num, by rw [HF.out], by rw [HG.out] <;> simp⟩
                          case measure => simp [intOf]; omega
                        · have hq' : ((c.toNat : Int) == 44) = false := by
                            have h := byte_num c 44
                            rw [show ((44 : UInt8).toNat : Int) = 44 from rfl] at h
                            rw [h]
                            simpa using hq
                          have HF := Lib.hid (show (tg.take (k + 1)).filter (· != 44) = tx ++ [c] by rw [HSN.out, List.filter_append, HTX.out]; simp [hq])
                          have HG := Lib.hid (show (tg.take (k + 1)).count 44 = mx by rw [HSN.out, List.count_append, HMX.out]; simp [hq])
                          clear hq
                          go_wp2
                          go_round
                          case rel => exact ⟨k + 1, by omega, by go_num, by rw [HF.out], by rw [HG.out]⟩
                          case measure => simp [intOf]; omega
                      · obtain rfl : k = tg.length := by omega
                        have e4 : tx = s.data.toList := by rw [← HTX.out, List.take_length]; exact HGT.out.1
                        have e5 : mx = 0 := by rw [← HMX.out, List.take_length, HGT.out.2]; exact HM.out
                        have e6 : strv tx = .string s := by first | (rw [e4]; done) | (rw [e4]; simp [strv])
                        have hsz2 : (⟨tg.toArray⟩ : ByteArray).size = tg.length := size_mk tg
                        rw [e6]
                        subst e5
                        clear HTX HMX e4 e6
                        go_wp2
                        go_ret
                        exact ⟨by first | rfl | (simp [go_sem]; done), hb05⟩
                · have g2 : decide ((0 : Int) < (a : Int)) = false := by simp; omega
                  have HM := Lib.hid (show manyN a (if b = 0 then a else b) n = 0 by unfold manyN; rw [if_neg (by omega)])
                  go_wp2
                  go_loop [19, 20, 21] (fun t m i => ∃ k : Nat, k ≤ tg.length ∧ i = .int .i64 k ∧ t = strv ((tg.take k).filter (· != 44)) ∧ m = .int .i64 ((tg.take k).count 44 : Nat)) (fun _ _ i => tg.length - (intOf i).toNat)
                  case atStart => exact ⟨0, Nat.zero_le _, rfl, rfl, rfl⟩
                  case round =>
                    obtain ⟨k, hk, rfl, ht, hm⟩ := hrel
                    obtain ⟨tx, htx⟩ : ∃ q, (tg.take k).filter (· != 44) = q := ⟨_, rfl⟩
                    obtain ⟨mx, hmx⟩ : ∃ q, (tg.take k).count 44 = q := ⟨_, rfl⟩
                    rw [htx] at ht
                    rw [hmx] at hm
                    subst ht hm
                    have HTX := Lib.hid htx
                    have HMX := Lib.hid hmx
                    have hmxl : mx ≤ 1000 := by rw [← hmx]; have h1 := List.count_le_length (a := (44 : UInt8)) (l := tg.take k); have h2 := List.length_take_le k tg; omega
                    have htxl : tx.length ≤ 1000 := by rw [← htx]; have h1 := List.length_filter_le (fun c : UInt8 => c != 44) (tg.take k); have h2 := List.length_take_le k tg; omega
                    clear htx hmx
                    by_cases hlt : k < tg.length
                    · have hsn : tg.take (k + 1) = tg.take k ++ [tg[k]] := List.take_succ_eq_append_getElem hlt
                      have hgetb : ∀ h, (⟨tg.toArray⟩ : ByteArray)[k]'h = tg[k] := fun h => by simp [ByteArray.getElem_eq_getElem_data]
                      have hext : (⟨tg.toArray⟩ : ByteArray).extract k (k + 1) = ⟨[tg[k]].toArray⟩ := by
                        rw [extract_eq, Nat.add_sub_cancel_left, toList_mk, List.drop_eq_getElem_cons hlt]
                        rfl
                      obtain ⟨c, hc⟩ : ∃ c, tg[k] = c := ⟨_, rfl⟩
                      rw [hc] at hsn hext
                      have hsz2 : (⟨tg.toArray⟩ : ByteArray).size = tg.length := size_mk tg
                      have hidx : ∀ h, (⟨tg.toArray⟩ : ByteArray)[k]'h = c := fun h => (hgetb h).trans hc
                      have happ : (⟨tx.toArray⟩ : ByteArray) ++ (⟨tg.toArray⟩ : ByteArray).extract k (k + 1) = ⟨(tx ++ [c]).toArray⟩ := by rw [hext, append_mk]
                      have HSN := Lib.hid hsn
                      clear hgetb hext hsn hc
                      by_cases hq : c = 44
                      · have hq' : ((c.toNat : Int) == 44) = true := by subst hq; rfl
                        have HF := Lib.hid (show (tg.take (k + 1)).filter (· != 44) = tx by rw [HSN.out, List.filter_append, HTX.out, hq]; simp)
                        have HG := Lib.hid (show (tg.take (k + 1)).count 44 = mx + 1 by rw [HSN.out, List.count_append, HMX.out, hq]; simp)
                        clear hq
                        go_wp2
                        go_round
                        case rel => exact ⟨k + 1, by omega, by go_num, by rw [HF.out], by rw [HG.out] <;> simp⟩
                        case measure => simp [intOf]; omega
                      · have hq' : ((c.toNat : Int) == 44) = false := by
                          have h := byte_num c 44
                          rw [show ((44 : UInt8).toNat : Int) = 44 from rfl] at h
                          rw [h]
                          simpa using hq
                        have HF := Lib.hid (show (tg.take (k + 1)).filter (· != 44) = tx ++ [c] by rw [HSN.out, List.filter_append, HTX.out]; simp [hq])
                        have HG := Lib.hid (show (tg.take (k + 1)).count 44 = mx by rw [HSN.out, List.count_append, HMX.out]; simp [hq])
                        clear hq
                        go_wp2
                        go_round
                        case rel => exact ⟨k + 1, by omega, by go_num, by rw [HF.out], by rw [HG.out]⟩
                        case measure => simp [intOf]; omega
                    · obtain rfl : k = tg.length := by omega
                      have e4 : tx = s.data.toList := by rw [← HTX.out, List.take_length]; exact HGT.out.1
                      have e5 : mx = 0 := by rw [← HMX.out, List.take_length, HGT.out.2]; exact HM.out
                      have e6 : strv tx = .string s := by first | (rw [e4]; done) | (rw [e4]; simp [strv])
                      have hsz2 : (⟨tg.toArray⟩ : ByteArray).size = tg.length := size_mk tg
                      rw [e6]
                      subst e5
                      clear HTX HMX e4 e6
                      go_wp2
                      go_ret
                      exact ⟨by first | rfl | (simp [go_sem]; done), hb05⟩
              · rw [hng] at hkn
                have hkk : 1 + n = k := by have h := hkn; simp at h; exact h.symm
                have hk1 : (k : Int) - 1 = (n : Int) := by omega
                have HKK := Lib.hid hkk
                clear hkk
                have hn0 : ∀ h, (((s[0]'h).toNat : Int) == 45) = true := fun h => by
                  have h2 := byte_num (s[0]'h) 45
                  rw [show ((45 : UInt8).toNat : Int) = 45 from rfl] at h2
                  rw [h2, HNEG.out]
                  exact hng
                clear hkn hng
                by_cases hm1 : 0 < a
                · by_cases hm2 : a < n
                  · have g2 : decide ((0 : Int) < (a : Int)) = true := by simp; omega
                    have g3 : decide ((a : Int) < (n : Int)) = true := by simp; omega
                    have g4 : IntKind.i64.wrap ((n : Int) - (a : Int)) = ((n - a : Nat) : Int) := by simp [IntKind.wrap, IntKind.signed, IntKind.bits]; omega
                    have g5 : IntKind.i64.wrap (((n - a : Nat) : Int) - 1) = ((n - a - 1 : Nat) : Int) := by simp [IntKind.wrap, IntKind.signed, IntKind.bits]; omega
                    have g6 : ((b : Int) == 0) = false := by simp; omega
                    obtain ⟨dv, hdv⟩ : ∃ d, (n - a - 1) / b = d := ⟨_, rfl⟩
                    have g8 : dv ≤ 30 := by have := Nat.div_le_self (n - a - 1) b; omega
                    have g7 : (((n - a - 1 : Nat) : Int)) / (b : Int) = (dv : Int) := by rw [← hdv]; simp
                    have g10 : IntKind.i64.wrap (dv : Int) = (dv : Int) := by simp [IntKind.wrap, IntKind.signed, IntKind.bits]; omega
                    have g9 : IntKind.i64.wrap (1 + (dv : Int)) = ((1 + dv : Nat) : Int) := by simp [IntKind.wrap, IntKind.signed, IntKind.bits]; omega
                    have HDV := Lib.hid hdv
                    clear hdv
                    have HM := Lib.hid (show manyN a (if b = 0 then a else b) n = 1 + dv by unfold manyN; rw [if_pos ⟨hm1, hm2⟩, if_neg hb0, HDV.out])
                    go_wp2
                    go_loop [19, 20, 21] (fun t m i => ∃ k : Nat, k ≤ tg.length ∧ i = .int .i64 k ∧ t = strv ((tg.take k).filter (· != 44)) ∧ m = .int .i64 ((tg.take k).count 44 : Nat)) (fun _ _ i => tg.length - (intOf i).toNat)
                    case atStart => exact ⟨0, Nat.zero_le _, rfl, rfl, rfl⟩
                    case round =>
                      obtain ⟨k, hk, rfl, ht, hm⟩ := hrel
                      obtain ⟨tx, htx⟩ : ∃ q, (tg.take k).filter (· != 44) = q := ⟨_, rfl⟩
                      obtain ⟨mx, hmx⟩ : ∃ q, (tg.take k).count 44 = q := ⟨_, rfl⟩
                      rw [htx] at ht
                      rw [hmx] at hm
                      subst ht hm
                      have HTX := Lib.hid htx
                      have HMX := Lib.hid hmx
                      have hmxl : mx ≤ 1000 := by rw [← hmx]; have h1 := List.count_le_length (a := (44 : UInt8)) (l := tg.take k); have h2 := List.length_take_le k tg; omega
                      have htxl : tx.length ≤ 1000 := by rw [← htx]; have h1 := List.length_filter_le (fun c : UInt8 => c != 44) (tg.take k); have h2 := List.length_take_le k tg; omega
                      clear htx hmx
                      by_cases hlt : k < tg.length
                      · have hsn : tg.take (k + 1) = tg.take k ++ [tg[k]] := List.take_succ_eq_append_getElem hlt
                        have hgetb : ∀ h, (⟨tg.toArray⟩ : ByteArray)[k]'h = tg[k] := fun h => by simp [ByteArray.getElem_eq_getElem_data]
                        have hext : (⟨tg.toArray⟩ : ByteArray).extract k (k + 1) = ⟨[tg[k]].toArray⟩ := by
                          rw [extract_eq, Nat.add_sub_cancel_left, toList_mk, List.drop_eq_getElem_cons hlt]
                          rfl
                        obtain ⟨c, hc⟩ : ∃ c, tg[k] = c := ⟨_, rfl⟩
                        rw [hc] at hsn hext
                        have hsz2 : (⟨tg.toArray⟩ : ByteArray).size = tg.length := size_mk tg
                        have hidx : ∀ h, (⟨tg.toArray⟩ : ByteArray)[k]'h = c := fun h => (hgetb h).trans hc
                        have happ : (⟨tx.toArray⟩ : ByteArray) ++ (⟨tg.toArray⟩ : ByteArray).extract k (k + 1) = ⟨(tx ++ [c]).toArray⟩ := by rw [hext, append_mk]
                        have HSN := Lib.hid hsn
                        clear hgetb hext hsn hc
                        by_cases hq : c = 44
                        · have hq' : ((c.toNat : Int) == 44) = true := by subst hq; rfl
                          have HF := Lib.hid (show (tg.take (k + 1)).filter (· != 44) = tx by rw [HSN.out, List.filter_append, HTX.out, hq]; simp)
                          have HG := Lib.hid (show (tg.take (k + 1)).count 44 = mx + 1 by rw [HSN.out, List.count_append, HMX.out, hq]; simp)
                          clear hq
                          go_wp2
                          go_round
                          case rel => exact ⟨k + 1, by omega, by go_num, by rw [HF.out], by rw [HG.out] <;> simp⟩
                          case measure => simp [intOf]; omega
                        · have hq' : ((c.toNat : Int) == 44) = false := by
                            have h := byte_num c 44
                            rw [show ((44 : UInt8).toNat : Int) = 44 from rfl] at h
                            rw [h]
                            simpa using hq
                          have HF := Lib.hid (show (tg.take (k + 1)).filter (· != 44) = tx ++ [c] by rw [HSN.out, List.filter_append, HTX.out]; simp [hq])
                          have HG := Lib.hid (show (tg.take (k + 1)).count 44 = mx by rw [HSN.out, List.count_append, HMX.out]; simp [hq])
                          clear hq
                          go_wp2
                          go_round
                          case rel => exact ⟨k + 1, by omega, by go_num, by rw [HF.out], by rw [HG.out]⟩
                          case measure => simp [intOf]; omega
                      · obtain rfl : k = tg.length := by omega
                        have e4 : tx = s.data.toList := by rw [← HTX.out, List.take_length]; exact HGT.out.1
                        have e5 : mx = 1 + dv := by rw [← HMX.out, List.take_length, HGT.out.2]; exact HM.out
                        have e6 : strv tx = .string s := by first | (rw [e4]; done) | (rw [e4]; simp [strv])
                        have hsz2 : (⟨tg.toArray⟩ : ByteArray).size = tg.length := size_mk tg
                        rw [e6]
                        subst e5
                        clear HTX HMX e4 e6
                        go_wp2
                        go_ret
                        exact ⟨by first | rfl | (simp [go_sem]; done), hb05⟩
                  · have g2 : decide ((0 : Int) < (a : Int)) = true := by simp; omega
                    have g3 : decide ((a : Int) < (n : Int)) = false := by simp; omega
                    have HM := Lib.hid (show manyN a (if b = 0 then a else b) n = 0 by unfold manyN; rw [if_neg (by omega)])
                    go_wp2
                    go_loop [19, 20, 21] (fun t m i => ∃ k : Nat, k ≤ tg.length ∧ i = .int .i64 k ∧ t = strv ((tg.take k).filter (· != 44)) ∧ m = .int .i64 ((tg.take k).count 44 : Nat)) (fun _ _ i => tg.length - (intOf i).toNat)
                    case atStart => exact ⟨0, Nat.zero_le _, rfl, rfl, rfl⟩
                    case round =>
                      obtain ⟨k, hk, rfl, ht, hm⟩ := hrel
                      obtain ⟨tx, htx⟩ : ∃ q, (tg.take k).filter (· != 44) = q := ⟨_, rfl⟩
                      obtain ⟨mx, hmx⟩ : ∃ q, (tg.take k).count 44 = q := ⟨_, rfl⟩
                      rw [htx] at ht
                      rw [hmx] at hm
                      subst ht hm
                      have HTX := Lib.hid htx
                      have HMX := Lib.hid hmx
                      have hmxl : mx ≤ 1000 := by rw [← hmx]; have h1 := List.count_le_length (a := (44 : UInt8)) (l := tg.take k); have h2 := List.length_take_le k tg; omega
                      have htxl : tx.length ≤ 1000 := by rw [← htx]; have h1 := List.length_filter_le (fun c : UInt8 => c != 44) (tg.take k); have h2 := List.length_take_le k tg; omega
                      clear htx hmx
                      by_cases hlt : k < tg.length
                      · have hsn : tg.take (k + 1) = tg.take k ++ [tg[k]] := List.take_succ_eq_append_getElem hlt
                        have hgetb : ∀ h, (⟨tg.toArray⟩ : ByteArray)[k]'h = tg[k] := fun h => by simp [ByteArray.getElem_eq_getElem_data]
                        have hext : (⟨tg.toArray⟩ : ByteArray).extract k (k + 1) = ⟨[tg[k]].toArray⟩ := by
                          rw [extract_eq, Nat.add_sub_cancel_left, toList_mk, List.drop_eq_getElem_cons hlt]
                          rfl
                        obtain ⟨c, hc⟩ : ∃ c, tg[k] = c := ⟨_, rfl⟩
                        rw [hc] at hsn hext
                        have hsz2 : (⟨tg.toArray⟩ : ByteArray).size = tg.length := size_mk tg
                        have hidx : ∀ h, (⟨tg.toArray⟩ : ByteArray)[k]'h = c := fun h => (hgetb h).trans hc
                        have happ : (⟨tx.toArray⟩ : ByteArray) ++ (⟨tg.toArray⟩ : ByteArray).extract k (k + 1) = ⟨(tx ++ [c]).toArray⟩ := by rw [hext, append_mk]
                        have HSN := Lib.hid hsn
                        clear hgetb hext hsn hc
                        by_cases hq : c = 44
                        · have hq' : ((c.toNat : Int) == 44) = true := by subst hq; rfl
                          have HF := Lib.hid (show (tg.take (k + 1)).filter (· != 44) = tx by rw [HSN.out, List.filter_append, HTX.out, hq]; simp)
                          have HG := Lib.hid (show (tg.take (k + 1)).count 44 = mx + 1 by rw [HSN.out, List.count_append, HMX.out, hq]; simp)
                          clear hq
                          go_wp2
                          go_round
                          case rel => exact ⟨k + 1, by omega, by go_num, by rw [HF.out], by rw [HG.out] <;> simp⟩
                          case measure => simp [intOf]; omega
                        · have hq' : ((c.toNat : Int) == 44) = false := by
                            have h := byte_num c 44
                            rw [show ((44 : UInt8).toNat : Int) = 44 from rfl] at h
                            rw [h]
                            simpa using hq
                          have HF := Lib.hid (show (tg.take (k + 1)).filter (· != 44) = tx ++ [c] by rw [HSN.out, List.filter_append, HTX.out]; simp [hq])
                          have HG := Lib.hid (show (tg.take (k + 1)).count 44 = mx by rw [HSN.out, List.count_append, HMX.out]; simp [hq])
                          clear hq
                          go_wp2
                          go_round
                          case rel => exact ⟨k + 1, by omega, by go_num, by rw [HF.out], by rw [HG.out]⟩
                          case measure => simp [intOf]; omega
                      · obtain rfl : k = tg.length := by omega
                        have e4 : tx = s.data.toList := by rw [← HTX.out, List.take_length]; exact HGT.out.1
                        have e5 : mx = 0 := by rw [← HMX.out, List.take_length, HGT.out.2]; exact HM.out
                        have e6 : strv tx = .string s := by first | (rw [e4]; done) | (rw [e4]; simp [strv])
                        have hsz2 : (⟨tg.toArray⟩ : ByteArray).size = tg.length := size_mk tg
                        rw [e6]
                        subst e5
                        clear HTX HMX e4 e6
                        go_wp2
                        go_ret
                        exact ⟨by first | rfl | (simp [go_sem]; done), hb05⟩
                · have g2 : decide ((0 : Int) < (a : Int)) = false := by simp; omega
                  have HM := Lib.hid (show manyN a (if b = 0 then a else b) n = 0 by unfold manyN; rw [if_neg (by omega)])
                  go_wp2
                  go_loop [19, 20, 21] (fun t m i => ∃ k : Nat, k ≤ tg.length ∧ i = .int .i64 k ∧ t = strv ((tg.take k).filter (· != 44)) ∧ m = .int .i64 ((tg.take k).count 44 : Nat)) (fun _ _ i => tg.length - (intOf i).toNat)
                  case atStart => exact ⟨0, Nat.zero_le _, rfl, rfl, rfl⟩
                  case round =>
                    obtain ⟨k, hk, rfl, ht, hm⟩ := hrel
                    obtain ⟨tx, htx⟩ : ∃ q, (tg.take k).filter (· != 44) = q := ⟨_, rfl⟩
                    obtain ⟨mx, hmx⟩ : ∃ q, (tg.take k).count 44 = q := ⟨_, rfl⟩
                    rw [htx] at ht
                    rw [hmx] at hm
                    subst ht hm
                    have HTX := Lib.hid htx
                    have HMX := Lib.hid hmx
                    have hmxl : mx ≤ 1000 := by rw [← hmx]; have h1 := List.count_le_length (a := (44 : UInt8)) (l := tg.take k); have h2 := List.length_take_le k tg; omega
                    have htxl : tx.length ≤ 1000 := by rw [← htx]; have h1 := List.length_filter_le (fun c : UInt8 => c != 44) (tg.take k); have h2 := List.length_take_le k tg; omega
                    clear htx hmx
                    by_cases hlt : k < tg.length
                    · have hsn : tg.take (k + 1) = tg.take k ++ [tg[k]] := List.take_succ_eq_append_getElem hlt
                      have hgetb : ∀ h, (⟨tg.toArray⟩ : ByteArray)[k]'h = tg[k] := fun h => by simp [ByteArray.getElem_eq_getElem_data]
                      have hext : (⟨tg.toArray⟩ : ByteArray).extract k (k + 1) = ⟨[tg[k]].toArray⟩ := by
                        rw [extract_eq, Nat.add_sub_cancel_left, toList_mk, List.drop_eq_getElem_cons hlt]
                        rfl
                      obtain ⟨c, hc⟩ : ∃ c, tg[k] = c := ⟨_, rfl⟩
                      rw [hc] at hsn hext
                      have hsz2 : (⟨tg.toArray⟩ : ByteArray).size = tg.length := size_mk tg
                      have hidx : ∀ h, (⟨tg.toArray⟩ : ByteArray)[k]'h = c := fun h => (hgetb h).trans hc
                      have happ : (⟨tx.toArray⟩ : ByteArray) ++ (⟨tg.toArray⟩ : ByteArray).extract k (k + 1) = ⟨(tx ++ [c]).toArray⟩ := by rw [hext, append_mk]
                      have HSN := Lib.hid hsn
                      clear hgetb hext hsn hc
                      by_cases hq : c = 44
                      · have hq' : ((c.toNat : Int) == 44) = true := by subst hq; rfl
                        have HF := Lib.hid (show (tg.take (k + 1)).filter (· != 44) = tx by rw [HSN.out, List.filter_append, HTX.out, hq]; simp)
                        have HG := Lib.hid (show (tg.take (k + 1)).count 44 = mx + 1 by rw [HSN.out, List.count_append, HMX.out, hq]; simp)
                        clear hq
                        go_wp2
                        go_round
                        case rel => exact ⟨k + 1, by omega, by go_num, by rw [HF.out], by rw [HG.out] <;> simp⟩
                        case measure => simp [intOf]; omega
                      · have hq' : ((c.toNat : Int) == 44) = false := by
                          have h := byte_num c 44
                          rw [show ((44 : UInt8).toNat : Int) = 44 from rfl] at h
                          rw [h]
                          simpa using hq
                        have HF := Lib.hid (show (tg.take (k + 1)).filter (· != 44) = tx ++ [c] by rw [HSN.out, List.filter_append, HTX.out]; simp [hq])
                        have HG := Lib.hid (show (tg.take (k + 1)).count 44 = mx by rw [HSN.out, List.count_append, HMX.out]; simp [hq])
                        clear hq
                        go_wp2
                        go_round
                        case rel => exact ⟨k + 1, by omega, by go_num, by rw [HF.out], by rw [HG.out]⟩
                        case measure => simp [intOf]; omega
                    · obtain rfl : k = tg.length := by omega
                      have e4 : tx = s.data.toList := by rw [← HTX.out, List.take_length]; exact HGT.out.1
                      have e5 : mx = 0 := by rw [← HMX.out, List.take_length, HGT.out.2]; exact HM.out
                      have e6 : strv tx = .string s := by first | (rw [e4]; done) | (rw [e4]; simp [strv])
                      have hsz2 : (⟨tg.toArray⟩ : ByteArray).size = tg.length := size_mk tg
                      rw [e6]
                      subst e5
                      clear HTX HMX e4 e6
                      go_wp2
                      go_ret
                      exact ⟨by first | rfl | (simp [go_sem]; done), hb05⟩
            · clear hstop
              cases hng : negL s.data.toList
              · rw [hng] at hkn
                have hkk : n = k := by have h := hkn; simp at h; exact h.symm
                subst hkk
                have hn0 : ∀ h, (((s[0]'h).toNat : Int) == 45) = false := fun h => by
                  have h2 := byte_num (s[0]'h) 45
                  rw [show ((45 : UInt8).toNat : Int) = 45 from rfl] at h2
                  rw [h2, HNEG.out]
                  exact hng
                clear hkn hng
                by_cases hm1 : 0 < a
                · by_cases hm2 : a < n
                  · have g2 : decide ((0 : Int) < (a : Int)) = true := by simp; omega
                    have g3 : decide ((a : Int) < (n : Int)) = true := by simp; omega
                    have g4 : IntKind.i64.wrap ((n : Int) - (a : Int)) = ((n - a : Nat) : Int) := by simp [IntKind.wrap, IntKind.signed, IntKind.bits]; omega
                    have g5 : IntKind.i64.wrap (((n - a : Nat) : Int) - 1) = ((n - a - 1 : Nat) : Int) := by simp [IntKind.wrap, IntKind.signed, IntKind.bits]; omega
                    have g6 : ((b : Int) == 0) = false := by simp; omega
                    obtain ⟨dv, hdv⟩ : ∃ d, (n - a - 1) / b = d := ⟨_, rfl⟩
                    have g8 : dv ≤ 30 := by have := Nat.div_le_self (n - a - 1) b; omega
                    have g7 : (((n - a - 1 : Nat) : Int)) / (b : Int) = (dv : Int) := by rw [← hdv]; simp
                    have g10 : IntKind.i64.wrap (dv : Int) = (dv : Int) := by simp [IntKind.wrap, IntKind.signed, IntKind.bits]; omega
                    have g9 : IntKind.i64.wrap (1 + (dv : Int)) = ((1 + dv : Nat) : Int) := by simp [IntKind.wrap, IntKind.signed, IntKind.bits]; omega
                    have HDV := Lib.hid hdv
                    clear hdv
                    have HM := Lib.hid (show manyN a (if b = 0 then a else b) n = 1 + dv by unfold manyN; rw [if_pos ⟨hm1, hm2⟩, if_neg hb0, HDV.out])
                    go_wp2
                    go_loop [19, 20, 21] (fun t m i => ∃ k : Nat, k ≤ tg.length ∧ i = .int .i64 k ∧ t = strv ((tg.take k).filter (· != 44)) ∧ m = .int .i64 ((tg.take k).count 44 : Nat)) (fun _ _ i => tg.length - (intOf i).toNat)
                    case atStart => exact ⟨0, Nat.zero_le _, rfl, rfl, rfl⟩
                    case round =>
                      obtain ⟨k, hk, rfl, ht, hm⟩ := hrel
                      obtain ⟨tx, htx⟩ : ∃ q, (tg.take k).filter (· != 44) = q := ⟨_, rfl⟩
                      obtain ⟨mx, hmx⟩ : ∃ q, (tg.take k).count 44 = q := ⟨_, rfl⟩
                      rw [htx] at ht
                      rw [hmx] at hm
                      subst ht hm
                      have HTX := Lib.hid htx
                      have HMX := Lib.hid hmx
                      have hmxl : mx ≤ 1000 := by rw [← hmx]; have h1 := List.count_le_length (a := (44 : UInt8)) (l := tg.take k); have h2 := List.length_take_le k tg; omega
                      have htxl : tx.length ≤ 1000 := by rw [← htx]; have h1 := List.length_filter_le (fun c : UInt8 => c != 44) (tg.take k); have h2 := List.length_take_le k tg; omega
                      clear htx hmx
                      by_cases hlt : k < tg.length
                      · have hsn : tg.take (k + 1) = tg.take k ++ [tg[k]] := List.take_succ_eq_append_getElem hlt
                        have hgetb : ∀ h, (⟨tg.toArray⟩ : ByteArray)[k]'h = tg[k] := fun h => by simp [ByteArray.getElem_eq_getElem_data]
                        have hext : (⟨tg.toArray⟩ : ByteArray).extract k (k + 1) = ⟨[tg[k]].toArray⟩ := by
                          rw [extract_eq, Nat.add_sub_cancel_left, toList_mk, List.drop_eq_getElem_cons hlt]
                          rfl
                        obtain ⟨c, hc⟩ : ∃ c, tg[k] = c := ⟨_, rfl⟩
                        rw [hc] at hsn hext
                        have hsz2 : (⟨tg.toArray⟩ : ByteArray).size = tg.length := size_mk tg
                        have hidx : ∀ h, (⟨tg.toArray⟩ : ByteArray)[k]'h = c := fun h => (hgetb h).trans hc
                        have happ : (⟨tx.toArray⟩ : ByteArray) ++ (⟨tg.toArray⟩ : ByteArray).extract k (k + 1) = ⟨(tx ++ [c]).toArray⟩ := by rw [hext, append_mk]
                        have HSN := Lib.hid hsn
                        clear hgetb hext hsn hc
                        by_cases hq : c = 44
                        · have hq' : ((c.toNat : Int) == 44) = true := by subst hq; rfl
                          have HF := Lib.hid (show (tg.take (k + 1)).filter (· != 44) = tx by rw [HSN.out, List.filter_append, HTX.out, hq]; simp)
                          have HG := Lib.hid (show (tg.take (k + 1)).count 44 = mx + 1 by rw [HSN.out, List.count_append, HMX.out, hq]; simp)
                          clear hq
                          go_wp2
                          go_round
                          case rel => exact ⟨k + 1, by omega, by go_num, by rw [HF.out], by rw [HG.out] <;> simp⟩
                          case measure => simp [intOf]; omega
                        · have hq' : ((c.toNat : Int) == 44) = false := by
                            have h := byte_num c 44
                            rw [show ((44 : UInt8).toNat : Int) = 44 from rfl] at h
                            rw [h]
                            simpa using hq
                          have HF := Lib.hid (show (tg.take (k + 1)).filter (· != 44) = tx ++ [c] by rw [HSN.out, List.filter_append, HTX.out]; simp [hq])
                          have HG := Lib.hid (show (tg.take (k + 1)).count 44 = mx by rw [HSN.out, List.count_append, HMX.out]; simp [hq])
                          clear hq
                          go_wp2
                          go_round
                          case rel => exact ⟨k + 1, by omega, by go_num, by rw [HF.out], by rw [HG.out]⟩
                          case measure => simp [intOf]; omega
                      · obtain rfl : k = tg.length := by omega
                        have e4 : tx = s.data.toList := by rw [← HTX.out, List.take_length]; exact HGT.out.1
                        have e5 : mx = 1 + dv := by rw [← HMX.out, List.take_length, HGT.out.2]; exact HM.out
                        have e6 : strv tx = .string s := by first | (rw [e4]; done) | (rw [e4]; simp [strv])
                        have hsz2 : (⟨tg.toArray⟩ : ByteArray).size = tg.length := size_mk tg
                        rw [e6]
                        subst e5
                        clear HTX HMX e4 e6
                        go_wp2
                        go_ret
                        exact ⟨by first | rfl | (simp [go_sem]; done), hb05⟩
                  · have g2 : decide ((0 : Int) < (a : Int)) = true := by simp; omega
                    have g3 : decide ((a : Int) < (n : Int)) = false := by simp; omega
                    have HM := Lib.hid (show manyN a (if b = 0 then a else b) n = 0 by unfold manyN; rw [if_neg (by omega)])
                    go_wp2
                    go_loop [19, 20, 21] (fun t m i => ∃ k : Nat, k ≤ tg.length ∧ i = .int .i64 k ∧ t = strv ((tg.take k).filter (· != 44)) ∧ m = .int .i64 ((tg.take k).count 44 : Nat)) (fun _ _ i => tg.length - (intOf i).toNat)
                    case atStart => exact ⟨0, Nat.zero_le _, rfl, rfl, rfl⟩
                    case round =>
                      obtain ⟨k, hk, rfl, ht, hm⟩ := hrel
                      obtain ⟨tx, htx⟩ : ∃ q, (tg.take k).filter (· != 44) = q := ⟨_, rfl⟩
                      obtain ⟨mx, hmx⟩ : ∃ q, (tg.take k).count 44 = q := ⟨_, rfl⟩
                      rw [htx] at ht
                      rw [hmx] at hm
                      subst ht hm
                      have HTX := Lib.hid htx
                      have HMX := Lib.hid hmx
                      have hmxl : mx ≤ 1000 := by rw [← hmx]; have h1 := List.count_le_length (a := (44 : UInt8)) (l := tg.take k); have h2 := List.length_take_le k tg; omega
                      have htxl : tx.length ≤ 1000 := by rw [← htx]; have h1 := List.length_filter_le (fun c : UInt8 => c != 44) (tg.take k); have h2 := List.length_take_le k tg; omega
                      clear htx hmx
                      by_cases hlt : k < tg.length
                      · have hsn : tg.take (k + 1) = tg.take k ++ [tg[k]] := List.take_succ_eq_append_getElem hlt
                        have hgetb : ∀ h, (⟨tg.toArray⟩ : ByteArray)[k]'h = tg[k] := fun h => by simp [ByteArray.getElem_eq_getElem_data]
                        have hext : (⟨tg.toArray⟩ : ByteArray).extract k (k + 1) = ⟨[tg[k]].toArray⟩ := by
                          rw [extract_eq, Nat.add_sub_cancel_left, toList_mk, List.drop_eq_getElem_cons hlt]
                          rfl
                        obtain ⟨c, hc⟩ : ∃ c, tg[k] = c := ⟨_, rfl⟩
                        rw [hc] at hsn hext
                        have hsz2 : (⟨tg.toArray⟩ : ByteArray).size = tg.length := size_mk tg
                        have hidx : ∀ h, (⟨tg.toArray⟩ : ByteArray)[k]'h = c := fun h => (hgetb h).trans hc
                        have happ : (⟨tx.toArray⟩ : ByteArray) ++ (⟨tg.toArray⟩ : ByteArray).extract k (k + 1) = ⟨(tx ++ [c]).toArray⟩ := by rw [hext, append_mk]
                        have HSN := Lib.hid hsn
                        clear hgetb hext hsn hc
                        by_cases hq : c = 44
                        · have hq' : ((c.toNat : Int) == 44) = true := by subst hq; rfl
                          have HF := Lib.hid (show (tg.take (k + 1)).filter (· != 44) = tx by rw [HSN.out, List.filter_append, HTX.out, hq]; simp)
                          have HG := Lib.hid (show (tg.take (k + 1)).count 44 = mx + 1 by rw [HSN.out, List.count_append, HMX.out, hq]; simp)
                          clear hq
                          go_wp2
                          go_round
                          case rel => exact ⟨k + 1, by omega, by go_num, by rw [HF.out], by rw [HG.out] <;> simp⟩
                          case measure => simp [intOf]; omega
                        · have hq' : ((c.toNat : Int) == 44) = false := by
                            have h := byte_num c 44
                            rw [show ((44 : UInt8).toNat : Int) = 44 from rfl] at h
                            rw [h]
                            simpa using hq
                          have HF := Lib.hid (show (tg.take (k + 1)).filter (· != 44) = tx ++ [c] by rw [HSN.out, List.filter_append, HTX.out]; simp [hq])
                          have HG := Lib.hid (show (tg.take (k + 1)).count 44 = mx by rw [HSN.out, List.count_append, HMX.out]; simp [hq])
                          clear hq
                          go_wp2
                          go_round
                          case rel => exact ⟨k + 1, by omega, by go_num, by rw [HF.out], by rw [HG.out]⟩
                          case measure => simp [intOf]; omega
                      · obtain rfl : k = tg.length := by omega
                        have e4 : tx = s.data.toList := by rw [← HTX.out, List.take_length]; exact HGT.out.1
                        have e5 : mx = 0 := by rw [← HMX.out, List.take_length, HGT.out.2]; exact HM.out
                        have e6 : strv tx = .string s := by first | (rw [e4]; done) | (rw [e4]; simp [strv])
                        have hsz2 : (⟨tg.toArray⟩ : ByteArray).size = tg.length := size_mk tg
                        rw [e6]
                        subst e5
                        clear HTX HMX e4 e6
                        go_wp2
                        go_ret
                        exact ⟨by first | rfl | (simp [go_sem]; done), hb05⟩
                · have g2 : decide ((0 : Int) < (a : Int)) = false := by simp; omega
                  have HM := Lib.hid (show manyN a (if b = 0 then a else b) n = 0 by unfold manyN; rw [if_neg (by omega)])
                  go_wp2
                  go_loop [19, 20, 21] (fun t m i => ∃ k : Nat, k ≤ tg.length ∧ i = .int .i64 k ∧ t = strv ((tg.take k).filter (· != 44)) ∧ m = .int .i64 ((tg.take k).count 44 : Nat)) (fun _ _ i => tg.length - (intOf i).toNat)
                  case atStart => exact ⟨0, Nat.zero_le _, rfl, rfl, rfl⟩
                  case round =>
                    obtain ⟨k, hk, rfl, ht, hm⟩ := hrel
                    obtain ⟨tx, htx⟩ : ∃ q, (tg.take k).filter (· != 44) = q := ⟨_, rfl⟩
                    obtain ⟨mx, hmx⟩ : ∃ q, (tg.take k).count 44 = q := ⟨_, rfl⟩
                    rw [htx] at ht
                    rw [hmx] at hm
                    subst ht hm
                    have HTX := Lib.hid htx
                    have HMX := Lib.hid hmx
                    have hmxl : mx ≤ 1000 := by rw [← hmx]; have h1 := List.count_le_length (a := (44 : UInt8)) (l := tg.take k); have h2 := List.length_take_le k tg; omega
                    have htxl : tx.length ≤ 1000 := by rw [← htx]; have h1 := List.length_filter_le (fun c : UInt8 => c != 44) (tg.take k); have h2 := List.length_take_le k tg; omega
                    clear htx hmx
                    by_cases hlt : k < tg.length
                    · have hsn : tg.take (k + 1) = tg.take k ++ [tg[k]] := List.take_succ_eq_append_getElem hlt
                      have hgetb : ∀ h, (⟨tg.toArray⟩ : ByteArray)[k]'h = tg[k] := fun h => by simp [ByteArray.getElem_eq_getElem_data]
                      have hext : (⟨tg.toArray⟩ : ByteArray).extract k (k + 1) = ⟨[tg[k]].toArray⟩ := by
                        rw [extract_eq, Nat.add_sub_cancel_left, toList_mk, List.drop_eq_getElem_cons hlt]
                        rfl
                      obtain ⟨c, hc⟩ : ∃ c, tg[k] = c := ⟨_, rfl⟩
                      rw [hc] at hsn hext
                      have hsz2 : (⟨tg.toArray⟩ : ByteArray).size = tg.length := size_mk tg
                      have hidx : ∀ h, (⟨tg.toArray⟩ : ByteArray)[k]'h = c := fun h => (hgetb h).trans hc
                      have happ : (⟨tx.toArray⟩ : ByteArray) ++ (⟨tg.toArray⟩ : ByteArray).extract k (k + 1) = ⟨(tx ++ [c]).toArray⟩ := by rw [hext, append_mk]
                      have HSN := Lib.hid hsn
                      clear hgetb hext hsn hc
                      by_cases hq : c = 44
                      · have hq' : ((c.toNat : Int) == 44) = true := by subst hq; rfl
                        have HF := Lib.hid (show (tg.take (k + 1)).filter (· != 44) = tx by rw [HSN.out, List.filter_append, HTX.out, hq]; simp)
                        have HG := Lib.hid (show (tg.take (k + 1)).count 44 = mx + 1 by rw [HSN.out, List.count_append, HMX.out, hq]; simp)
                        clear hq
                        go_wp2
                        go_round
                        case rel => exact ⟨k + 1, by omega, by go_num, by rw [HF.out], by rw [HG.out] <;> simp⟩
                        case measure => simp [intOf]; omega
                      · have hq' : ((c.toNat : Int) == 44) = false := by
                          have h := byte_num c 44
                          rw [show ((44 : UInt8).toNat : Int) = 44 from rfl] at h
                          rw [h]
                          simpa using hq
                        have HF := Lib.hid (show (tg.take (k + 1)).filter (· != 44) = tx ++ [c] by rw [HSN.out, List.filter_append, HTX.out]; simp [hq])
                        have HG := Lib.hid (show (tg.take (k + 1)).count 44 = mx by rw [HSN.out, List.count_append, HMX.out]; simp [hq])
                        clear hq
                        go_wp2
                        go_round
                        case rel => exact ⟨k + 1, by omega, by go_num, by rw [HF.out], by rw [HG.out]⟩
                        case measure => simp [intOf]; omega
                    · obtain rfl : k = tg.length := by omega
                      have e4 : tx = s.data.toList := by rw [← HTX.out, List.take_length]; exact HGT.out.1
                      have e5 : mx = 0 := by rw [← HMX.out, List.take_length, HGT.out.2]; exact HM.out
                      have e6 : strv tx = .string s := by first | (rw [e4]; done) | (rw [e4]; simp [strv])
                      have hsz2 : (⟨tg.toArray⟩ : ByteArray).size = tg.length := size_mk tg
                      rw [e6]
                      subst e5
                      clear HTX HMX e4 e6
                      go_wp2
                      go_ret
                      exact ⟨by first | rfl | (simp [go_sem]; done), hb05⟩
              · rw [hng] at hkn
                have hkk : 1 + n = k := by have h := hkn; simp at h; exact h.symm
                have hk1 : (k : Int) - 1 = (n : Int) := by omega
                have HKK := Lib.hid hkk
                clear hkk
                have hn0 : ∀ h, (((s[0]'h).toNat : Int) == 45) = true := fun h => by
                  have h2 := byte_num (s[0]'h) 45
                  rw [show ((45 : UInt8).toNat : Int) = 45 from rfl] at h2
                  rw [h2, HNEG.out]
                  exact hng
                clear hkn hng
                by_cases hm1 : 0 < a
                · by_cases hm2 : a < n
                  · have g2 : decide ((0 : Int) < (a : Int)) = true := by simp; omega
                    have g3 : decide ((a : Int) < (n : Int)) = true := by simp; omega
                    have g4 : IntKind.i64.wrap ((n : Int) - (a : Int)) = ((n - a : Nat) : Int) := by simp [IntKind.wrap, IntKind.signed, IntKind.bits]; omega
                    have g5 : IntKind.i64.wrap (((n - a : Nat) : Int) - 1) = ((n - a - 1 : Nat) : Int) := by simp [IntKind.wrap, IntKind.signed, IntKind.bits]; omega
                    have g6 : ((b : Int) == 0) = false := by simp; omega
                    obtain ⟨dv, hdv⟩ : ∃ d, (n - a - 1) / b = d := ⟨_, rfl⟩
                    have g8 : dv ≤ 30 := by have := Nat.div_le_self (n - a - 1) b; omega
                    have g7 : (((n - a - 1 : Nat) : Int)) / (b : Int) = (dv : Int) := by rw [← hdv]; simp
                    have g10 : IntKind.i64.wrap (dv : Int) = (dv : Int) := by simp [IntKind.wrap, IntKind.signed, IntKind.bits]; omega
                    have g9 : IntKind.i64.wrap (1 + (dv : Int)) = ((1 + dv : Nat) : Int) := by simp [IntKind.wrap, IntKind.signed, IntKind.bits]; omega
                    have HDV := Lib.hid hdv
                    clear hdv
                    have HM := Lib.hid (show manyN a (if b = 0 then a else b) n = 1 + dv by unfold manyN; rw [if_pos ⟨hm1, hm2⟩, if_neg hb0, HDV.out])
                    go_wp2
                    go_loop [19, 20, 21] (fun t m i => ∃ k : Nat, k ≤ tg.length ∧ i = .int .i64 k ∧ t = strv ((tg.take k).filter (· != 44)) ∧ m = .int .i64 ((tg.take k).count 44 : Nat)) (fun _ _ i => tg.length - (intOf i).toNat)
                    case atStart => exact ⟨0, Nat.zero_le _, rfl, rfl, rfl⟩
                    case round =>
                      obtain ⟨k, hk, rfl, ht, hm⟩ := hrel
                      obtain ⟨tx, htx⟩ : ∃ q, (tg.take k).filter (· != 44) = q := ⟨_, rfl⟩
                      obtain ⟨mx, hmx⟩ : ∃ q, (tg.take k).count 44 = q := ⟨_, rfl⟩
                      rw [htx] at ht
                      rw [hmx] at hm
                      subst ht hm
                      have HTX := Lib.hid htx
                      have HMX := Lib.hid hmx
                      have hmxl : mx ≤ 1000 := by rw [← hmx]; have h1 := List.count_le_length (a := (44 : UInt8)) (l := tg.take k); have h2 := List.length_take_le k tg; omega
                      have htxl : tx.length ≤ 1000 := by rw [← htx]; have h1 := List.length_filter_le (fun c : UInt8 => c != 44) (tg.take k); have h2 := List.length_take_le k tg; omega
                      clear htx hmx
                      by_cases hlt : k < tg.length
                      · have hsn : tg.take (k + 1) = tg.take k ++ [tg[k]] := List.take_succ_eq_append_getElem hlt
                        have hgetb : ∀ h, (⟨tg.toArray⟩ : ByteArray)[k]'h = tg[k] := fun h => by simp [ByteArray.getElem_eq_getElem_data]
                        have hext : (⟨tg.toArray⟩ : ByteArray).extract k (k + 1) = ⟨[tg[k]].toArray⟩ := by
                          rw [extract_eq, Nat.add_sub_cancel_left, toList_mk, List.drop_eq_getElem_cons hlt]
                          rfl
                        obtain ⟨c, hc⟩ : ∃ c, tg[k] = c := ⟨_, rfl⟩
                        rw [hc] at hsn hext
                        have hsz2 : (⟨tg.toArray⟩ : ByteArray).size = tg.length := size_mk tg
                        have hidx : ∀ h, (⟨tg.toArray⟩ : ByteArray)[k]'h = c := fun h => (hgetb h).trans hc
                        have happ : (⟨tx.toArray⟩ : ByteArray) ++ (⟨tg.toArray⟩ : ByteArray).extract k (k + 1) = ⟨(tx ++ [c]).toArray⟩ := by rw [hext, append_mk]
                        have HSN := Lib.hid hsn
                        clear hgetb hext hsn hc
                        by_cases hq : c = 44
                        · have hq' : ((c.toNat : Int) == 44) = true := by subst hq; rfl
                          have HF := Lib.hid (show (tg.take (k + 1)).filter (· != 44) = tx by rw [HSN.out, List.filter_append, HTX.out, hq]; simp)
                          have HG := Lib.hid (show (tg.take (k + 1)).count 44 = mx + 1 by rw [HSN.out, List.count_append, HMX.out, hq]; simp)
                          clear hq
                          go_wp2
                          go_round
                          case rel => exact ⟨k + 1, by omega, by go_num, by rw [HF.out], by rw [HG.out] <;> simp⟩
                          case measure => simp [intOf]; omega
                        · have hq' : ((c.toNat : Int) == 44) = false := by
                            have h := byte_num c 44
                            rw [show ((44 : UInt8).toNat : Int) = 44 from rfl] at h
                            rw [h]
                            simpa using hq
                          have HF := Lib.hid (show (tg.take (k + 1)).filter (· != 44) = tx ++ [c] by rw [HSN.out, List.filter_append, HTX.out]; simp [hq])
                          have HG := Lib.hid (show (tg.take (k + 1)).count 44 = mx by rw [HSN.out, List.count_append, HMX.out]; simp [hq])
                          clear hq
                          go_wp2
                          go_round
                          case rel => exact ⟨k + 1, by omega, by go_num, by rw [HF.out], by rw [HG.out]⟩
                          case measure => simp [intOf]; omega
                      · obtain rfl : k = tg.length := by omega
                        have e4 : tx = s.data.toList := by rw [← HTX.out, List.take_length]; exact HGT.out.1
                        have e5 : mx = 1 + dv := by rw [← HMX.out, List.take_length, HGT.out.2]; exact HM.out
                        have e6 : strv tx = .string s := by first | (rw [e4]; done) | (rw [e4]; simp [strv])
                        have hsz2 : (⟨tg.toArray⟩ : ByteArray).size = tg.length := size_mk tg
                        rw [e6]
                        subst e5
                        clear HTX HMX e4 e6
                        go_wp2
                        go_ret
                        exact ⟨by first | rfl | (simp [go_sem]; done), hb05⟩
                  · have g2 : decide ((0 : Int) < (a : Int)) = true := by simp; omega
                    have g3 : decide ((a : Int) < (n : Int)) = false := by simp; omega
                    have HM := Lib.hid (show manyN a (if b = 0 then a else b) n = 0 by unfold manyN; rw [if_neg (by omega)])
                    go_wp2
                    go_loop [19, 20, 21] (fun t m i => ∃ k : Nat, k ≤ tg.length ∧ i = .int .i64 k ∧ t = strv ((tg.take k).filter (· != 44)) ∧ m = .int .i64 ((tg.take k).count 44 : Nat)) (fun _ _ i => tg.length - (intOf i).toNat)
                    case atStart => exact ⟨0, Nat.zero_le _, rfl, rfl, rfl⟩
                    case round =>
                      obtain ⟨k, hk, rfl, ht, hm⟩ := hrel
                      obtain ⟨tx, htx⟩ : ∃ q, (tg.take k).filter (· != 44) = q := ⟨_, rfl⟩
                      obtain ⟨mx, hmx⟩ : ∃ q, (tg.take k).count 44 = q := ⟨_, rfl⟩
                      rw [htx] at ht
                      rw [hmx] at hm
                      subst ht hm
                      have HTX := Lib.hid htx
                      have HMX := Lib.hid hmx
                      have hmxl : mx ≤ 1000 := by rw [← hmx]; have h1 := List.count_le_length (a := (44 : UInt8)) (l := tg.take k); have h2 := List.length_take_le k tg; omega
                      have htxl : tx.length ≤ 1000 := by rw [← htx]; have h1 := List.length_filter_le (fun c : UInt8 => c != 44) (tg.take k); have h2 := List.length_take_le k tg; omega
                      clear htx hmx
                      by_cases hlt : k < tg.length
                      · have hsn : tg.take (k + 1) = tg.take k ++ [tg[k]] := List.take_succ_eq_append_getElem hlt
                        have hgetb : ∀ h, (⟨tg.toArray⟩ : ByteArray)[k]'h = tg[k] := fun h => by simp [ByteArray.getElem_eq_getElem_data]
                        have hext : (⟨tg.toArray⟩ : ByteArray).extract k (k + 1) = ⟨[tg[k]].toArray⟩ := by
                          rw [extract_eq, Nat.add_sub_cancel_left, toList_mk, List.drop_eq_getElem_cons hlt]
                          rfl
                        obtain ⟨c, hc⟩ : ∃ c, tg[k] = c := ⟨_, rfl⟩
                        rw [hc] at hsn hext
                        have hsz2 : (⟨tg.toArray⟩ : ByteArray).size = tg.length := size_mk tg
                        have hidx : ∀ h, (⟨tg.toArray⟩ : ByteArray)[k]'h = c := fun h => (hgetb h).trans hc
                        have happ : (⟨tx.toArray⟩ : ByteArray) ++ (⟨tg.toArray⟩ : ByteArray).extract k (k + 1) = ⟨(tx ++ [c]).toArray⟩ := by rw [hext, append_mk]
                        have HSN := Lib.hid hsn
                        clear hgetb hext hsn hc
                        by_cases hq : c = 44
                        · have hq' : ((c.toNat : Int) == 44) = true := by subst hq; rfl
                          have HF := Lib.hid (show (tg.take (k + 1)).filter (· != 44) = tx by rw [HSN.out, List.filter_append, HTX.out, hq]; simp)
                          have HG := Lib.hid (show (tg.take (k + 1)).count 44 = mx + 1 by rw [HSN.out, List.count_append, HMX.out, hq]; simp)
                          clear hq
                          go_wp2
                          go_round
                          case rel => exact ⟨k + 1, by omega, by go_num, by rw [HF.out], by rw [HG.out] <;> simp⟩
                          case measure => simp [intOf]; omega
                        · have hq' : ((c.toNat : Int) == 44) = false := by
                            have h := byte_num c 44
                            rw [show ((44 : UInt8).toNat : Int) = 44 from rfl] at h
                            rw [h]
                            simpa using hq
                          have HF := Lib.hid (show (tg.take (k + 1)).filter (· != 44) = tx ++ [c] by rw [HSN.out, List.filter_append, HTX.out]; simp [hq])
                          have HG := Lib.hid (show (tg.take (k + 1)).count 44 = mx by rw [HSN.out, List.count_append, HMX.out]; simp [hq])
                          clear hq
                          go_wp2
                          go_round
                          case rel => exact ⟨k + 1, by omega, by go_num, by rw [HF.out], by rw [HG.out]⟩
                          case measure => simp [intOf]; omega
                      · obtain rfl : k = tg.length := by omega
                        have e4 : tx = s.data.toList := by rw [← HTX.out, List.take_length]; exact HGT.out.1
                        have e5 : mx = 0 := by rw [← HMX.out, List.take_length, HGT.out.2]; exact HM.out
                        have e6 : strv tx = .string s := by first | (rw [e4]; done) | (rw [e4]; simp [strv])
                        have hsz2 : (⟨tg.toArray⟩ : ByteArray).size = tg.length := size_mk tg
                        rw [e6]
                        subst e5
                        clear HTX HMX e4 e6
                        go_wp2
                        go_ret
                        exact ⟨by first | rfl | (simp [go_sem]; done), hb05⟩
                · have g2 : decide ((0 : Int) < (a : Int)) = false := by simp; omega
                  have HM := Lib.hid (show manyN a (if b = 0 then a else b) n = 0 by unfold manyN; rw [if_neg (by omega)])
                  go_wp2
                  go_loop [19, 20, 21] (fun t m i => ∃ k : Nat, k ≤ tg.length ∧ i = .int .i64 k ∧ t = strv ((tg.take k).filter (· != 44)) ∧ m = .int .i64 ((tg.take k).count 44 : Nat)) (fun _ _ i => tg.length - (intOf i).toNat)
                  case atStart => exact ⟨0, Nat.zero_le _, rfl, rfl, rfl⟩
                  case round =>
                    obtain ⟨k, hk, rfl, ht, hm⟩ := hrel
                    obtain ⟨tx, htx⟩ : ∃ q, (tg.take k).filter (· != 44) = q := ⟨_, rfl⟩
                    obtain ⟨mx, hmx⟩ : ∃ q, (tg.take k).count 44 = q := ⟨_, rfl⟩
                    rw [htx] at ht
                    rw [hmx] at hm
                    subst ht hm
                    have HTX := Lib.hid htx
                    have HMX := Lib.hid hmx
                    have hmxl : mx ≤ 1000 := by rw [← hmx]; have h1 := List.count_le_length (a := (44 : UInt8)) (l := tg.take k); have h2 := List.length_take_le k tg; omega
                    have htxl : tx.length ≤ 1000 := by rw [← htx]; have h1 := List.length_filter_le (fun c : UInt8 => c != 44) (tg.take k); have h2 := List.length_take_le k tg; omega
                    clear htx hmx
                    by_cases hlt : k < tg.length
                    · have hsn : tg.take (k + 1) = tg.take k ++ [tg[k]] := List.take_succ_eq_append_getElem hlt
                      have hgetb : ∀ h, (⟨tg.toArray⟩ : ByteArray)[k]'h = tg[k] := fun h => by simp [ByteArray.getElem_eq_getElem_data]
                      have hext : (⟨tg.toArray⟩ : ByteArray).extract k (k + 1) = ⟨[tg[k]].toArray⟩ := by
                        rw [extract_eq, Nat.add_sub_cancel_left, toList_mk, List.drop_eq_getElem_cons hlt]
                        rfl
                      obtain ⟨c, hc⟩ : ∃ c, tg[k] = c := ⟨_, rfl⟩
                      rw [hc] at hsn hext
                      have hsz2 : (⟨tg.toArray⟩ : ByteArray).size = tg.length := size_mk tg
                      have hidx : ∀ h, (⟨tg.toArray⟩ : ByteArray)[k]'h = c := fun h => (hgetb h).trans hc
                      have happ : (⟨tx.toArray⟩ : ByteArray) ++ (⟨tg.toArray⟩ : ByteArray).extract k (k + 1) = ⟨(tx ++ [c]).toArray⟩ := by rw [hext, append_mk]
                      have HSN := Lib.hid hsn
                      clear hgetb hext hsn hc
                      by_cases hq : c = 44
                      · have hq' : ((c.toNat : Int) == 44) = true := by subst hq; rfl
                        have HF := Lib.hid (show (tg.take (k + 1)).filter (· != 44) = tx by rw [HSN.out, List.filter_append, HTX.out, hq]; simp)
                        have HG := Lib.hid (show (tg.take (k + 1)).count 44 = mx + 1 by rw [HSN.out, List.count_append, HMX.out, hq]; simp)
                        clear hq
                        go_wp2
                        go_round
                        case rel => exact ⟨k + 1, by omega, by go_num, by rw [HF.out], by rw [HG.out] <;> simp⟩
                        case measure => simp [intOf]; omega
                      · have hq' : ((c.toNat : Int) == 44) = false := by
                          have h := byte_num c 44
                          rw [show ((44 : UInt8).toNat : Int) = 44 from rfl] at h
                          rw [h]
                          simpa using hq
                        have HF := Lib.hid (show (tg.take (k + 1)).filter (· != 44) = tx ++ [c] by rw [HSN.out, List.filter_append, HTX.out]; simp [hq])
                        have HG := Lib.hid (show (tg.take (k + 1)).count 44 = mx by rw [HSN.out, List.count_append, HMX.out]; simp [hq])
                        clear hq
                        go_wp2
                        go_round
                        case rel => exact ⟨k + 1, by omega, by go_num, by rw [HF.out], by rw [HG.out]⟩
                        case measure => simp [intOf]; omega
                    · obtain rfl : k = tg.length := by omega
                      have e4 : tx = s.data.toList := by rw [← HTX.out, List.take_length]; exact HGT.out.1
                      have e5 : mx = 0 := by rw [← HMX.out, List.take_length, HGT.out.2]; exact HM.out
                      have e6 : strv tx = .string s := by first | (rw [e4]; done) | (rw [e4]; simp [strv])
                      have hsz2 : (⟨tg.toArray⟩ : ByteArray).size = tg.length := size_mk tg
                      rw [e6]
                      subst e5
                      clear HTX HMX e4 e6
                      go_wp2
                      go_ret
                      exact ⟨by first | rfl | (simp [go_sem]; done), hb05⟩
end Go.Proofs.YtpepgmccbkkaaaaGreatDoor
