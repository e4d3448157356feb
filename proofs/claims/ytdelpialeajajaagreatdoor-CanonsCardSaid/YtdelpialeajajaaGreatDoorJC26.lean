import Derived.Test.YtdelpialeajajaaGreatDoorJC25
import Derived.Deep.DeepCutAuto

/- The document's Canon: a pattern in its one form. -/
namespace Go.Proofs.YtdelpialeajajaaGreatDoor
open Go Go.RowKit
set_option maxRecDepth 10000

theorem bne_sel (a : Wd) : (a != [115, 101, 108, 101, 99, 116]) = decide (a ≠ selD) := by
  have e : selD = [115, 101, 108, 101, 99, 116] := rfl
  rw [e]
  by_cases h : a = [115, 101, 108, 101, 99, 116]
  · rw [h]; rfl
  · have h1 : (a == [115, 101, 108, 101, 99, 116]) = false := beq_eq_false_iff_ne.2 h
    rw [bne, h1, decide_eq_true h]; rfl

def CanonDQ (s : ByteArray) (w : World) (e : Ending) (w' : World) : Prop :=
  e = .returned (.tuple #[strv (if (readD s).2.1 = 0 then canGo [] (readD s).1 else []), .int .i64 ((readD s).2.1 : Nat), .int .i64 ((readD s).2.2 : Nat)]) ∧ Below w.heap.size w w'

set_option maxHeartbeats 16000000 in
theorem dcanon_any (s : ByteArray) (w : World) (hs : s.size ≤ 1000000000) (hok : 1000 < s.size ∨ (ptsL s.data.toList).2 < s.size ∨ RdOk s) (hln : (readD s).1.length ≤ 2000) (hst : canOk [] (readD s).1) (hG : (canGo [] (readD s).1).length ≤ 10000000)
    (hz : (readD s).2.1 = 0 → (readD s).2.2 = 0) (htx : ∀ m ∈ (readD s).1, m.text.length ≤ 1000 ∧ m.name.length ≤ 16 ∧ m.how.length ≤ 13 ∧ m.off.length ≤ 9 ∧ m.kind < 256) : Calls Tryz.prog 16 #[.string s] w (CanonDQ s w) := by
  have HRD := Lib.hid (readD_any s w hs hok)
  obtain ⟨⟨l, e0, a0⟩, hr⟩ : ∃ x, readD s = x := ⟨_, rfl⟩
  have HR := Lib.hid hr
  have HRD := Lib.hid (show Calls Tryz.prog 22 #[.string s] w fun e w' => ∃ v, e = .returned (.tuple #[v, .int .i64 (e0 : Nat), .int .i64 (a0 : Nat)]) ∧ MarksAt w' v l ∧ Below w.heap.size w w' from HRD.out.mono (by
    rintro e w' ⟨v, rfl, h1, h2⟩
    rw [hr] at h1 ⊢
    exact ⟨v, rfl, h1, h2⟩))
  unfold CanonDQ
  rw [hr] at hln hst hG hz htx ⊢
  dsimp only at hln hst hG hz htx ⊢
  have HTXA := Lib.hid htx
  have HST := Lib.hid hst
  obtain ⟨G, hGe⟩ : ∃ G, canGo [] l = G := ⟨_, rfl⟩
  rw [hGe] at hG ⊢
  have HG := Lib.hid hGe
  have HGL := Lib.hid hG
  have HZ := Lib.hid hz
  clear hr hok hst hG hz htx hGe HR
  go_enter Tryz.func16, Tryz.ntmps16
  go_wp2_with fail
  refine HRD.out.mono ?_
  rintro e w2 ⟨v, rfl, hm, hb⟩
  obtain ⟨ma, mc, rfl⟩ := hm.sl
  have HM := Lib.hid hm
  obtain ⟨n, hn⟩ : ∃ n, l.length = n := ⟨_, rfl⟩
  have HN := Lib.hid hn
  rw [hn] at hln ⊢
  have HB0 := Lib.hid hb
  have HRW := Lib.hid (fun h => hm.row h)
  obtain ⟨B, hB⟩ : ∃ B, w2.heap.size = B := ⟨_, rfl⟩
  have HBB := Lib.hid hB
  have HRF := Lib.hid (show Below B w2 w2 from Below.refl _ _)
  clear hm hb hn hB
  by_cases he : e0 = 0
  · have j0 : ((e0 : Int) == 0) = true := by simp [he]
    have j0b : ((e0 : Int) != 0) = false := by rw [bne, j0]; rfl
    have ha0 : a0 = 0 := HZ.out he
    have HE0 := Lib.hid he
    subst ha0
    clear he
    go_wp2_with fail
    go_loopw [8, 9, 10] (fun tv nv iv wr => ∃ (i : Nat) (T : Wd) (st : List Bool) (na : Option Addr) (nc : Nat), tv = strv T ∧ nv = .slice na st.length nc ∧ iv = .int .i64 (i : Nat) ∧ i ≤ n ∧ T ++ canGo st (l.drop i) = G ∧ canOk st (l.drop i) ∧ wr.ownsRow B 4 1 (.slice na st.length nc) st.length (boolsC st) ∧ Below B w2 wr ∧ st.length ≤ i) (fun _ _ iv _ => n - (intOf iv).toNat)
    case atStart => exact ⟨0, [], [], none, 0, rfl, rfl, rfl, Nat.zero_le _, HG.out, HST.out, World.ownsRow_nil _ _ _ _, HRF.out, Nat.zero_le _⟩
    case round =>
      obtain ⟨i, T, st, na, nc, rfl, rfl, rfl, hi, heq, hok, how, hbr, hsl⟩ := hrel
      have HEQ := Lib.hid heq
      have HOK := Lib.hid hok
      have HBR := Lib.hid hbr
      have hTl : T.length ≤ 10000000 := by
        have h1 := congrArg List.length heq
        rw [List.length_append] at h1
        have := HGL.out
        omega
      have HBS := Lib.hid (show B ≤ wr.heap.size by have := hbr.size; have := HBB.out; omega)
      obtain ⟨sl, hsll⟩ : ∃ x, st.length = x := ⟨_, rfl⟩
      rw [hsll] at how hsl ⊢
      have HSL := Lib.hid hsll
      have HOW := Lib.hid how
      clear heq hok hbr hsll how
      by_cases hlt : i < n
      · have hltI : (i : Int) < (n : Int) := by omega
        have hil : i < l.length := by rw [HN.out]; exact hlt
        obtain ⟨g, cap', hg1, hrow⟩ := HRW.out (by omega)
        rw [HN.out] at hg1
        obtain rfl : ma = some ⟨g, 0, none⟩ := by cases hg1; rfl
        clear hg1
        obtain ⟨c0, c1, c2, c3, c4, c5⟩ := (hrow.below (HBB.out.symm ▸ HBR.out)).at_ i hil
        obtain ⟨m, hm⟩ : ∃ m, mkA l i = m := ⟨_, rfl⟩
        rw [hm] at c0 c1 c2 c3 c4 c5
        have hmi : l[i] = m := by rw [← mkA_lt hil]; exact hm
        have HD := Lib.hid (show l.drop i = m :: l.drop (i + 1) by rw [List.drop_eq_getElem_cons hil, hmi])
        obtain ⟨htx1, hnm1, hhw1, hof1, hkd1⟩ := HTXA.out m (hmi ▸ List.getElem_mem hil)
        obtain ⟨kd, hkd⟩ : ∃ x, m.kind = x := ⟨_, rfl⟩
        obtain ⟨tx, htx⟩ : ∃ x, m.text = x := ⟨_, rfl⟩
        obtain ⟨nm, hnm⟩ : ∃ x, m.name = x := ⟨_, rfl⟩
        obtain ⟨hw, hhw⟩ : ∃ x, m.how = x := ⟨_, rfl⟩
        obtain ⟨of, hof⟩ : ∃ x, m.off = x := ⟨_, rfl⟩
        obtain ⟨pl, hpl⟩ : ∃ x, m.pl = x := ⟨_, rfl⟩
        rw [hkd] at c0 hkd1
        rw [htx] at c1 htx1
        rw [hnm] at c2 hnm1
        rw [hhw] at c3 hhw1
        rw [hof] at c4 hof1
        rw [hpl] at c5
        have HKDM := Lib.hid hkd
        have HTX := Lib.hid htx
        have HNM := Lib.hid hnm
        have HHW := Lib.hid hhw
        have HOF := Lib.hid hof
        clear hrow hm hmi hkd htx hnm hhw hof hpl
        by_cases h116 : kd = 116
        · have HKD := Lib.hid (show m.kind = 116 from HKDM.out.trans h116)
          subst h116
          have eS : canS st m = st := by unfold canS; simp [HKD.out, HTX.out, HNM.out, HHW.out, HOF.out]
          have eT : canT st m = wrT (st.getLast?.getD false) tx := by unfold canT; simp [HKD.out, HTX.out, HNM.out, HHW.out, HOF.out]
          have HCT0 := Lib.hid (show T ++ ((wrT (st.getLast?.getD false) tx) ++ canGo (st) (l.drop (i + 1))) = G by
            rw [← HEQ.out, HD.out, canGo, eS, eT])
          have HOK2 := Lib.hid (show canOk (st) (l.drop (i + 1)) by
            have h := HOK.out
            rw [HD.out, canOk, eS] at h
            exact h.2)
          clear eS eT
          go_wp2_with fail
          refine wp_gen ?_
          intro W2 hW2
          have HB2 := Lib.hid (show Below B w2 W2 by rw [hW2]; exact HBR.out.alloc HBS.out _)
          have HBW := Lib.hid (show Below wr.heap.size wr W2 by rw [hW2]; exact (Below.refl _ _).alloc (Nat.le_refl _) _)
          have HO2 := Lib.hid (own_below HOW.out HBW.out)
          have s2 : W2.heap.size = wr.heap.size + 1 := by rw [hW2]; simp
          have d1 : W2.cell? ⟨wr.heap.size, 1, none⟩ = some (strv tx) := by rw [hW2]; exact (cell_made wr _ _ _ 1).trans rfl
          obtain ⟨bn, hbn⟩ : ∃ x, st.getLast?.getD false = x := ⟨_, rfl⟩
          have HB41 := hbn
          clear HB41
          by_cases h0 : sl = 0
          · have hbf : bn = false := by rw [← hbn, List.eq_nil_of_length_eq_zero (show st.length = 0 by rw [HSL.out]; exact h0)]; rfl
            have HBN := Lib.hid hbn
            have k0 : decide (0 < sl) = false := by simp; omega
            have k1 : decide ((0 : Int) < (sl : Int)) = false := by simp; omega
            have hS0 : W2.drew.cell? ⟨wr.heap.size, 1, none⟩ = some (strv tx) := d1
            clear h0 d1 hW2 hbn
            have HBF := Lib.hid (show bn = false from hbf)
            clear hbf
            have hbf := HBF.out
            subst hbf
            refine wp_region_takes (fun W' : World => W'.cell? ⟨wr.heap.size, 1, none⟩ = some (strv tx)) [0, 1, 2, 3, 4, 5, 6, 7, 8, 9, 10] 2 (by intro _ _ d _ _ h; cases d <;> exact h) (by kernel_rfl) (by kernel_rfl) hS0 ?_
            (iterate 11 (first | (refine takes_yes (v := ?_) rfl (by rfl) ?_ ?_; rotate_left; (focus ((intro w' hS'; (try dsimp only at hS'); go_simp; try (with_reducible rfl)); done)); (try simp only [Act.put, List.setIfInBounds_toArray, List.set_cons_zero, List.set_cons_succ])) | (refine takes_no rfl (by rfl) ?_; (try simp only [Act.put, List.setIfInBounds_toArray, List.set_cons_zero, List.set_cons_succ]))))
            refine takes_nil ?_
            refine wpAnyH_only 11 (by kernel_rfl) rfl (fun K hK => ?_)
            go_simp
            refine (written_any tx false W2.drew (by omega)).mono ?_
            rintro e W3 ⟨rfl, hb3⟩
            have hS1 : W3.cell? ⟨wr.heap.size, 1, none⟩ = some (strv tx) := (hb3.cell (p := ⟨wr.heap.size, 1, none⟩) (by show wr.heap.size < W2.heap.size; omega)).trans hS0
            have HB3 := Lib.hid (HB2.out.drew.trans (hb3.mono (by show B ≤ W2.heap.size; have := HBS.out; omega)))
            have HO3 := Lib.hid (own_below (own_below HO2.out (Below.refl _ _).drew) hb3)
            clear hb3 hS0
            refine hK.out _ _ hS1 (fun _ => ?_)
            clear hK K
            refine wpAnyH_more [12] 0 rfl (by intro _ _ d _ _ h; cases d <;> exact h) (by kernel_rfl) (by kernel_rfl) hS1 ?_
            (iterate 1 (first | (refine takes_yes (v := ?_) rfl (by rfl) ?_ ?_; rotate_left; (focus ((intro w' hS'; (try dsimp only at hS'); go_simp; try (with_reducible rfl)); done)); (try simp only [Act.put, List.setIfInBounds_toArray, List.set_cons_zero, List.set_cons_succ])) | (refine takes_no rfl (by rfl) ?_; (try simp only [Act.put, List.setIfInBounds_toArray, List.set_cons_zero, List.set_cons_succ]))))
            refine takes_nil ?_
            refine wpAnyH_done (by kernel_rfl) ?_ _
            clear hS1
            obtain ⟨wt, hwt⟩ : ∃ x, wrT false tx = x := ⟨_, rfl⟩
            have hwl : wt.length ≤ 4000000 := by rw [← hwt]; have := wrG_len false tx.length tx; unfold wrT; omega
            have HWT := Lib.hid hwt
            try rw [hwt]
            have q9 : ¬ 9223372036854775807 < T.length + wt.length := by omega
            clear hwt
            go_wp2_with fail
            go_roundw
            case rel => exact ⟨i + 1, T ++ wt, st, na, nc, by first | rfl | (show Value.string _ = Value.string _; congr 1; apply ByteArray.ext; simp), by first | rfl | rw [HSL.out], by go_num, by omega, by rw [← HWT.out, List.append_assoc]; exact HBN.out ▸ HCT0.out, HOK2.out, HSL.out ▸ HO3.out, HB3.out, by rw [HSL.out]; omega⟩
            case measure => simp [intOf]; omega
          · obtain ⟨sm, hsm⟩ : ∃ m, sl = m + 1 := ⟨sl - 1, by omega⟩
            obtain ⟨gb, oc, hsv, hpg, hgw, hcell⟩ := own_some HO2.out (by omega)
            have hc := hcell sm (by omega)
            rw [bools_last st sm (by rw [HSL.out]; exact hsm), hbn] at hc
            cases hsv
            have hgl : gb < W2.heap.size := (HO2.out.lt gb rfl).2
            have HBN := Lib.hid hbn
            have q1 : (sl : Int) - 1 = (sm : Int) := by omega
            have q2 : IntKind.i64.wrap (sm : Int) = (sm : Int) := by simp [IntKind.wrap, IntKind.signed, IntKind.bits]; omega
            have q3 : sm < sl := by omega
            have q4 : (sm : Int) < (sl : Int) := by omega
            have k0 : decide (0 < sl) = true := by simp; omega
            have k1 : decide ((0 : Int) < (sl : Int)) = true := by simp; omega
            have hS0 : W2.drew.cell? ⟨wr.heap.size, 1, none⟩ = some (strv tx) ∧ W2.drew.cell? ⟨gb, sm, none⟩ = some (.bool bn) := ⟨d1, hc⟩
            clear h0 d1 hW2 hbn hcell hc hsm hpg hgw
            refine wp_region_takes (fun W' : World => W'.cell? ⟨wr.heap.size, 1, none⟩ = some (strv tx) ∧ W'.cell? ⟨gb, sm, none⟩ = some (.bool bn)) [0, 1, 2, 3, 4, 5, 6, 7, 8, 9, 10] 2 (by intro _ _ d _ _ h; cases d <;> exact h) (by kernel_rfl) (by kernel_rfl) hS0 ?_
            (iterate 11 (first | (refine takes_yes (v := ?_) rfl (by rfl) ?_ ?_; rotate_left; (focus ((intro w' hS'; (try dsimp only at hS'); go_simp; try (with_reducible rfl)); done)); (try simp only [Act.put, List.setIfInBounds_toArray, List.set_cons_zero, List.set_cons_succ])) | (refine takes_no rfl (by rfl) ?_; (try simp only [Act.put, List.setIfInBounds_toArray, List.set_cons_zero, List.set_cons_succ]))))
            refine takes_nil ?_
            refine wpAnyH_only 11 (by kernel_rfl) rfl (fun K hK => ?_)
            go_simp
            refine (written_any tx bn W2.drew (by omega)).mono ?_
            rintro e W3 ⟨rfl, hb3⟩
            have hS1 : W3.cell? ⟨wr.heap.size, 1, none⟩ = some (strv tx) ∧ W3.cell? ⟨gb, sm, none⟩ = some (.bool bn) := ⟨(hb3.cell (p := ⟨wr.heap.size, 1, none⟩) (by show wr.heap.size < W2.heap.size; omega)).trans hS0.1, (hb3.cell (p := ⟨gb, sm, none⟩) (by show gb < W2.heap.size; exact hgl)).trans hS0.2⟩
            have HB3 := Lib.hid (HB2.out.drew.trans (hb3.mono (by show B ≤ W2.heap.size; have := HBS.out; omega)))
            have HO3 := Lib.hid (own_below (own_below HO2.out (Below.refl _ _).drew) hb3)
            clear hb3 hS0
            refine hK.out _ _ hS1 (fun _ => ?_)
            clear hK K
            refine wpAnyH_more [12] 0 rfl (by intro _ _ d _ _ h; cases d <;> exact h) (by kernel_rfl) (by kernel_rfl) hS1 ?_
            (iterate 1 (first | (refine takes_yes (v := ?_) rfl (by rfl) ?_ ?_; rotate_left; (focus ((intro w' hS'; (try dsimp only at hS'); go_simp; try (with_reducible rfl)); done)); (try simp only [Act.put, List.setIfInBounds_toArray, List.set_cons_zero, List.set_cons_succ])) | (refine takes_no rfl (by rfl) ?_; (try simp only [Act.put, List.setIfInBounds_toArray, List.set_cons_zero, List.set_cons_succ]))))
            refine takes_nil ?_
            refine wpAnyH_done (by kernel_rfl) ?_ _
            clear hS1
            obtain ⟨wt, hwt⟩ : ∃ x, wrT bn tx = x := ⟨_, rfl⟩
            have hwl : wt.length ≤ 4000000 := by rw [← hwt]; have := wrG_len bn tx.length tx; unfold wrT; omega
            have HWT := Lib.hid hwt
            try rw [hwt]
            have q9 : ¬ 9223372036854775807 < T.length + wt.length := by omega
            clear hwt
            go_wp2_with fail
            go_roundw
            case rel => exact ⟨i + 1, T ++ wt, st, some ⟨gb, 0, none⟩, nc, by first | rfl | (show Value.string _ = Value.string _; congr 1; apply ByteArray.ext; simp), by first | rfl | rw [HSL.out], by go_num, by omega, by rw [← HWT.out, List.append_assoc]; exact HBN.out ▸ HCT0.out, HOK2.out, HSL.out ▸ HO3.out, HB3.out, by rw [HSL.out]; omega⟩
            case measure => simp [intOf]; omega
        have j116 : ((kd : Int) == 116) = false := by simp; omega
        by_cases h35 : kd = 35
        · have HKD := Lib.hid (show m.kind = 35 from HKDM.out.trans h35)
          subst h35
          have q0 : ¬ 9223372036854775807 < T.length + 1 := by omega
          have HCT := Lib.hid (show (T ++ [35]) ++ canGo st (l.drop (i + 1)) = G by
            rw [← HEQ.out, HD.out, canGo]
            have e1 : canS st m = st := by unfold canS; simp [HKD.out]
            rw [e1]
            unfold canT
            simp [HKD.out, HTX.out, HNM.out])
          have HOK2 := Lib.hid (show canOk st (l.drop (i + 1)) by
            have h := HOK.out
            rw [HD.out] at h
            have e1 : canS st m = st := by unfold canS; simp [HKD.out]
            rw [canOk, e1] at h
            exact h.2)
          go_wp2_with fail
          go_roundw
          case rel => exact ⟨i + 1, T ++ [35], st, na, nc, by first | rfl | (show Value.string _ = Value.string _; congr 1; apply ByteArray.ext; simp), by first | rfl | rw [HSL.out], by go_num, by omega, HCT.out, HOK2.out, HSL.out ▸ own_below HOW.out ((Below.refl _ _).alloc (Nat.le_refl _) _), HBR.out.alloc HBS.out _, by rw [HSL.out]; omega⟩
          case measure => simp [intOf]; omega
        have j35 : ((kd : Int) == 35) = false := by simp; omega
        by_cases h112 : kd = 112
        · have HKD := Lib.hid (show m.kind = 112 from HKDM.out.trans h112)
          subst h112
          have q0 : ¬ 9223372036854775807 < T.length + 1 := by omega
          have q1 : ¬ 9223372036854775807 < T.length + 1 + nm.length := by omega
          have q2 : ¬ 9223372036854775807 < T.length + 1 + nm.length + 1 := by omega
          have HCT := Lib.hid (show (T ++ [123] ++ nm ++ [125]) ++ canGo st (l.drop (i + 1)) = G by
            rw [← HEQ.out, HD.out, canGo]
            have e1 : canS st m = st := by unfold canS; simp [HKD.out]
            rw [e1]
            unfold canT
            simp [HKD.out, HTX.out, HNM.out])
          have HOK2 := Lib.hid (show canOk st (l.drop (i + 1)) by
            have h := HOK.out
            rw [HD.out] at h
            have e1 : canS st m = st := by unfold canS; simp [HKD.out]
            rw [canOk, e1] at h
            exact h.2)
          go_wp2_with fail
          go_roundw
          case rel => exact ⟨i + 1, T ++ [123] ++ nm ++ [125], st, na, nc, by first | rfl | (show Value.string _ = Value.string _; congr 1; apply ByteArray.ext; simp), by first | rfl | rw [HSL.out], by go_num, by omega, HCT.out, HOK2.out, HSL.out ▸ own_below HOW.out ((Below.refl _ _).alloc (Nat.le_refl _) _), HBR.out.alloc HBS.out _, by rw [HSL.out]; omega⟩
          case measure => simp [intOf]; omega
        have j112 : ((kd : Int) == 112) = false := by simp; omega
        by_cases h110 : kd = 110
        · have HKD := Lib.hid (show m.kind = 110 from HKDM.out.trans h110)
          subst h110
          have q0 : ¬ 9223372036854775807 < T.length + 1 := by omega
          have q1 : ¬ 9223372036854775807 < T.length + 1 + nm.length := by omega
          have q2 : ¬ 9223372036854775807 < T.length + 1 + nm.length + 9 := by omega
          have HCT := Lib.hid (show (T ++ [123] ++ nm ++ [44, 32, 110, 117, 109, 98, 101, 114, 125]) ++ canGo st (l.drop (i + 1)) = G by
            rw [← HEQ.out, HD.out, canGo]
            have e1 : canS st m = st := by unfold canS; simp [HKD.out]
            rw [e1]
            unfold canT
            simp [HKD.out, HTX.out, HNM.out])
          have HOK2 := Lib.hid (show canOk st (l.drop (i + 1)) by
            have h := HOK.out
            rw [HD.out] at h
            have e1 : canS st m = st := by unfold canS; simp [HKD.out]
            rw [canOk, e1] at h
            exact h.2)
          go_wp2_with fail
          go_roundw
          case rel => exact ⟨i + 1, T ++ [123] ++ nm ++ [44, 32, 110, 117, 109, 98, 101, 114, 125], st, na, nc, by first | rfl | (show Value.string _ = Value.string _; congr 1; apply ByteArray.ext; simp), by first | rfl | rw [HSL.out], by go_num, by omega, HCT.out, HOK2.out, HSL.out ▸ own_below HOW.out ((Below.refl _ _).alloc (Nat.le_refl _) _), HBR.out.alloc HBS.out _, by rw [HSL.out]; omega⟩
          case measure => simp [intOf]; omega
        have j110 : ((kd : Int) == 110) = false := by simp; omega
        by_cases h40 : kd = 40
        · have HKD := Lib.hid (show m.kind = 40 from HKDM.out.trans h40)
          subst h40
          obtain ⟨bn, hbn⟩ : ∃ x : Bool, decide (hw ≠ selD) = x := ⟨_, rfl⟩
          obtain ⟨off, hoff⟩ : ∃ x : Wd, (if of = [48] then [] else [32, 111, 102, 102, 115, 101, 116, 58] ++ of) = x := ⟨_, rfl⟩
          have hofl : off.length ≤ 17 := by rw [← hoff]; split <;> simp; omega
          have HOFF := Lib.hid hoff
          have HBN := Lib.hid hbn
          have eS : canS st m = st ++ [bn] := by unfold canS; rw [if_pos HKD.out, HHW.out, hbn]
          have eT : canT st m = 123 :: (nm ++ ([44, 32] ++ (hw ++ (44 :: off)))) := by
            unfold canT
            simp only [HKD.out, HNM.out, HHW.out, HOF.out, ← hoff]
            by_cases h : of = [48] <;> simp [h]
          have HCT0 := Lib.hid (show T ++ ((123 :: (nm ++ ([44, 32] ++ (hw ++ (44 :: off))))) ++ canGo (st ++ [bn]) (l.drop (i + 1))) = G by
            rw [← HEQ.out, HD.out, canGo, eS, eT])
          have HOK2 := Lib.hid (show canOk (st ++ [bn]) (l.drop (i + 1)) by
            have h := HOK.out
            rw [HD.out, canOk, eS] at h
            exact h.2)
          clear eS eT hoff
          have g3 : (hw != [115, 101, 108, 101, 99, 116]) = bn := by rw [← hbn]; exact bne_sel hw
          have g3' : (!hw == [115, 101, 108, 101, 99, 116]) = bn := g3
          have g4 : (hw == [115, 101, 108, 101, 99, 116]) = !bn := by rw [← g3, bne, Bool.not_not]
          clear hbn
          have q1 : ¬ 9223372036854775807 < T.length + 1 := by omega
          have q2 : ¬ 9223372036854775807 < T.length + 1 + nm.length := by omega
          have q3 : ¬ 9223372036854775807 < T.length + 1 + nm.length + 2 := by omega
          have q4 : ¬ 9223372036854775807 < T.length + 1 + nm.length + 2 + hw.length := by omega
          have q5 : ¬ 9223372036854775807 < T.length + 1 + nm.length + 2 + hw.length + 1 := by omega
          have q6 : ¬ 9223372036854775807 < T.length + 1 + nm.length + 2 + hw.length + 1 + 8 := by omega
          have q7 : ¬ 9223372036854775807 < T.length + 1 + nm.length + 2 + hw.length + 1 + 8 + of.length := by omega
          have q8 : ¬ 9223372036854775807 < T.length + 1 + nm.length + (2 + hw.length + 1 + 8 + of.length) := by omega
          go_upto_if 89 with fail
          refine wp_gen ?_
          intro W2 hW2
          have HB2 := Lib.hid (show Below B w2 W2 by rw [hW2]; exact HBR.out.alloc HBS.out _)
          have HBW := Lib.hid (show Below wr.heap.size wr W2 by rw [hW2]; exact (Below.refl _ _).alloc (Nat.le_refl _) _)
          have HO2 := Lib.hid (own_below HOW.out HBW.out)
          have s2 : W2.heap.size = wr.heap.size + 1 := by rw [hW2]; simp
          have d3 : W2.cell? ⟨wr.heap.size, 3, none⟩ = some (strv hw) := by rw [hW2]; exact (cell_made wr _ _ _ 3).trans rfl
          have d4 : W2.cell? ⟨wr.heap.size, 4, none⟩ = some (strv of) := by rw [hW2]; exact (cell_made wr _ _ _ 4).trans rfl
          clear hW2 s2
          go_cut [8] (fun tv wc => tv = strv (T ++ [123] ++ nm ++ [44, 32] ++ hw ++ [44] ++ off) ∧ wc = W2)
          case first =>
            by_cases h0 : of = [48]
            · have HZ := Lib.hid (show off = [] by rw [← HOFF.out, if_pos h0])
              subst h0
              go_wp2_with fail
              go_meet
              case rel => exact ⟨by rw [HZ.out, List.append_nil]; first | rfl | (show Value.string _ = Value.string _; congr 1; apply ByteArray.ext; simp), rfl⟩
            · have HZ := Lib.hid (show off = [32, 111, 102, 102, 115, 101, 116, 58] ++ of by rw [← HOFF.out, if_neg h0])
              go_wp2_with fail
              · go_meet
                case rel => exact ⟨by rw [HZ.out]; first | rfl | (show Value.string _ = Value.string _; congr 1; apply ByteArray.ext; simp), rfl⟩
              · rename_i hx
                simp at hx
                exact absurd hx h0
          case rest =>
            obtain ⟨rfl, hwc⟩ := hcut
            have hwc := hwc.symm
            subst hwc
            go_wp2_with (at_builtin; refine list_gen ?_)
            intro W3 hW3
            have hb3 : Below W2.heap.size W2 W3 := by rw [hW3]; exact (Below.refl _ _).alloc (Nat.le_refl _) _
            have hC := fun i => cell_made W2 #[.bool bn] 4 (0, 0) i
            rw [← hW3] at hC
            have s3 : W3.heap.size = W2.heap.size + 1 := by rw [hW3]; simp
            have HO3 := Lib.hid (own_below HO2.out hb3)
            have hbw : B ≤ W2.heap.size := by have := HBS.out; have := HBW.out.size; omega
            have HB3 := Lib.hid (HB2.out.trans (hb3.mono hbw))
            clear hW3 hb3
            refine app_at elem_bools rfl _ _ rfl B _ sl (boolsC st) rfl HO3.out ⟨W2.heap.size, 0, none⟩ 1 1 [.bool bn] rfl rfl ?x1 ?x2 (by omega) (by omega) ?x3
            case x1 => exact cells_one (hC 0)
            case x2 =>
              intro u hu
              simp at hu
              subst hu
              rfl
            intro vo' W4 ho4 hg4 hat4
            obtain ⟨oa4, oc4, rfl⟩ := own_slice ho4
            have HB4 := Lib.hid (HB3.out.grown hg4 (by omega) (fun q hq => (HO3.out.lt q hq).1))
            have HO4 := Lib.hid (show W4.ownsRow B 4 1 (.slice oa4 (sl + 1) oc4) (st ++ [bn]).length (boolsC (st ++ [bn])) by
              rw [List.length_append, HSL.out]
              have e1 : boolsC (st ++ [bn]) = boolsC st ++ [.bool bn] := by simp [boolsC]
              rw [e1]
              exact ho4)
            clear ho4 hg4 hat4 hC d3 d4
            go_wp2_with fail
            go_roundw
            case rel => exact ⟨i + 1, T ++ [123] ++ nm ++ [44, 32] ++ hw ++ [44] ++ off, st ++ [bn], oa4, oc4, by first | rfl | (show Value.string _ = Value.string _; congr 1; apply ByteArray.ext; simp), by first | rfl | (rw [List.length_append, HSL.out]; rfl), by go_num, by omega, by simpa using HCT0.out, HOK2.out, (by rw [List.length_append, HSL.out]; exact (show (st ++ [bn]).length = sl + 1 by rw [List.length_append, HSL.out]; rfl) ▸ HO4.out), HB4.out, by rw [List.length_append, HSL.out]; simp; omega⟩
            case measure => simp [intOf]; omega
        have j40 : ((kd : Int) == 40) = false := by simp; omega
        by_cases h91 : kd = 91
        · have HKD := Lib.hid (show m.kind = 91 from HKDM.out.trans h91)
          subst h91
          have q0 : ¬ 9223372036854775807 < T.length + 1 := by omega
          have q1 : ¬ 9223372036854775807 < T.length + 1 + tx.length := by omega
          have q2 : ¬ 9223372036854775807 < T.length + 1 + tx.length + 2 := by omega
          have HCT := Lib.hid (show (T ++ [32] ++ tx ++ [32, 123]) ++ canGo st (l.drop (i + 1)) = G by
            rw [← HEQ.out, HD.out, canGo]
            have e1 : canS st m = st := by unfold canS; simp [HKD.out]
            rw [e1]
            unfold canT
            simp [HKD.out, HTX.out, HNM.out])
          have HOK2 := Lib.hid (show canOk st (l.drop (i + 1)) by
            have h := HOK.out
            rw [HD.out] at h
            have e1 : canS st m = st := by unfold canS; simp [HKD.out]
            rw [canOk, e1] at h
            exact h.2)
          go_wp2_with fail
          go_roundw
          case rel => exact ⟨i + 1, T ++ [32] ++ tx ++ [32, 123], st, na, nc, by first | rfl | (show Value.string _ = Value.string _; congr 1; apply ByteArray.ext; simp), by first | rfl | rw [HSL.out], by go_num, by omega, HCT.out, HOK2.out, HSL.out ▸ own_below HOW.out ((Below.refl _ _).alloc (Nat.le_refl _) _), HBR.out.alloc HBS.out _, by rw [HSL.out]; omega⟩
          case measure => simp [intOf]; omega
        have j91 : ((kd : Int) == 91) = false := by simp; omega
        by_cases h93 : kd = 93
        · have HKD := Lib.hid (show m.kind = 93 from HKDM.out.trans h93)
          subst h93
          have q0 : ¬ 9223372036854775807 < T.length + 1 := by omega
          have HCT := Lib.hid (show (T ++ [125]) ++ canGo st (l.drop (i + 1)) = G by
            rw [← HEQ.out, HD.out, canGo]
            have e1 : canS st m = st := by unfold canS; simp [HKD.out]
            rw [e1]
            unfold canT
            simp [HKD.out, HTX.out, HNM.out])
          have HOK2 := Lib.hid (show canOk st (l.drop (i + 1)) by
            have h := HOK.out
            rw [HD.out] at h
            have e1 : canS st m = st := by unfold canS; simp [HKD.out]
            rw [canOk, e1] at h
            exact h.2)
          go_wp2_with fail
          go_roundw
          case rel => exact ⟨i + 1, T ++ [125], st, na, nc, by first | rfl | (show Value.string _ = Value.string _; congr 1; apply ByteArray.ext; simp), by first | rfl | rw [HSL.out], by go_num, by omega, HCT.out, HOK2.out, HSL.out ▸ own_below HOW.out ((Below.refl _ _).alloc (Nat.le_refl _) _), HBR.out.alloc HBS.out _, by rw [HSL.out]; omega⟩
          case measure => simp [intOf]; omega
        have j93 : ((kd : Int) == 93) = false := by simp; omega
        by_cases h41 : kd = 41
        · have HKD := Lib.hid (show m.kind = 41 from HKDM.out.trans h41)
          subst h41
          have hne : st ≠ [] := by
            have h := HOK.out
            rw [HD.out, canOk] at h
            exact h.1 HKD.out
          have hsp : sl ≠ 0 := by have := List.length_pos_iff.2 hne; rw [HSL.out] at this; omega
          obtain ⟨sm, hsm⟩ : ∃ m, sl = m + 1 := ⟨sl - 1, by omega⟩
          have HSM := Lib.hid hsm
          have eS : canS st m = st.dropLast := by unfold canS; simp [HKD.out, HTX.out, HNM.out, HHW.out, HOF.out]
          have eT : canT st m = [125] := by unfold canT; simp [HKD.out, HTX.out, HNM.out, HHW.out, HOF.out]
          have HCT0 := Lib.hid (show T ++ (([125]) ++ canGo (st.dropLast) (l.drop (i + 1))) = G by
            rw [← HEQ.out, HD.out, canGo, eS, eT])
          have HOK2 := Lib.hid (show canOk (st.dropLast) (l.drop (i + 1)) by
            have h := HOK.out
            rw [HD.out, canOk, eS] at h
            exact h.2)
          clear eS eT
          have hcap : sl ≤ nc := own_cap HOW.out
          have q1 : (sl : Int) - 1 = (sm : Int) := by omega
          have q2 : IntKind.i64.wrap (sm : Int) = (sm : Int) := by simp [IntKind.wrap, IntKind.signed, IntKind.bits]; omega
          have hnoc : sm ≤ nc := by omega
          have hnoci : (sm : Int) ≤ (nc : Int) := by omega
          have q9 : ¬ 9223372036854775807 < T.length + 1 := by omega
          clear hne hsp hsm
          have HDL := Lib.hid (show st.dropLast.length = sm by have := HSL.out; have := HSM.out; simp; omega)
          have hop : wr.ownsRow B 4 1 (.slice na sm nc) sm (boolsC st.dropLast) := by
            have h := HOW.out
            rw [HSM.out] at h
            have h2 := own_pop h
            have e1 : (boolsC st).take sm = boolsC st.dropLast := by
              unfold boolsC
              rw [← List.map_take, List.dropLast_eq_take, show st.length - 1 = sm from by have := HSL.out; have := HSM.out; omega]
            rw [e1] at h2
            exact h2
          have HOP := Lib.hid hop
          clear hop
          go_wp2_with fail
          go_roundw
          case rel => exact ⟨i + 1, T ++ [125], st.dropLast, na, nc, by first | rfl | (show Value.string _ = Value.string _; congr 1; apply ByteArray.ext; simp), by first | rfl | rw [HDL.out], by go_num, by omega, by rw [List.append_assoc]; exact HCT0.out, HOK2.out, (by rw [HDL.out]; exact own_below HOP.out ((Below.refl _ _).alloc (Nat.le_refl _) _)), HBR.out.alloc HBS.out _, by rw [HDL.out]; omega⟩
          case measure => simp [intOf]; omega
        have j41 : ((kd : Int) == 41) = false := by simp; omega
        have eS : canS st m = st := by unfold canS; simp [HKDM.out, h116, h35, h112, h110, h40, h91, h93, h41]
        have eT : canT st m = [] := by unfold canT; simp [HKDM.out, h116, h35, h112, h110, h40, h91, h93, h41]
        have HCT0 := Lib.hid (show T ++ (([]) ++ canGo (st) (l.drop (i + 1))) = G by
          rw [← HEQ.out, HD.out, canGo, eS, eT])
        have HOK2 := Lib.hid (show canOk (st) (l.drop (i + 1)) by
          have h := HOK.out
          rw [HD.out, canOk, eS] at h
          exact h.2)
        clear eS eT
        go_wp2_with fail
        go_roundw
        case rel => exact ⟨i + 1, T, st, na, nc, by first | rfl | (show Value.string _ = Value.string _; congr 1; apply ByteArray.ext; simp), by first | rfl | rw [HSL.out], by go_num, by omega, HCT0.out, HOK2.out, HSL.out ▸ own_below HOW.out ((Below.refl _ _).alloc (Nat.le_refl _) _), HBR.out.alloc HBS.out _, by rw [HSL.out]; omega⟩
        case measure => simp [intOf]; omega
      · have hin : i = n := by omega
        subst hin
        have HF := Lib.hid (show T = G by
          have h := HEQ.out
          rw [List.drop_of_length_le (by rw [HN.out]; exact Nat.le_refl _), canGo, List.append_nil] at h
          exact h)
        go_wp2
        refine bodyPost_ret (v := .tuple #[strv T, .int .i64 0, .int .i64 0]) ?_ rfl ?_
        · simp [results, Tryz.results16, go_sem]
        exact ⟨by rw [HF.out], HB0.out.trans (HBR.out.mono (by have := HB0.out.size; have := HBB.out; omega))⟩
  · have j0 : ((e0 : Int) == 0) = false := by simp; omega
    have j0b : ((e0 : Int) != 0) = true := by rw [bne, j0]; rfl
    have HE0 := Lib.hid he
    clear he
    go_wp2
    refine bodyPost_ret (v := .tuple #[.string ⟨#[]⟩, .int .i64 (e0 : Nat), .int .i64 (a0 : Nat)]) ?_ rfl ?_
    · simp [results, Tryz.results16, go_sem]
    exact ⟨rfl, HB0.out⟩
end Go.Proofs.YtdelpialeajajaaGreatDoor
