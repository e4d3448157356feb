/- numfmt.Read: which locales the program takes. -/
import Derived.Test.YtpepgmccbkkaaaaGreatDoorP9a
namespace Go.Proofs.YtpepgmccbkkaaaaGreatDoor
open Go Go.RowKit
set_option maxRecDepth 10000

set_option maxHeartbeats 4000000 in
theorem read_any (c o : Value) (ra rb : Bool) (mi po gr : Int) (fi ne : Nat) (dg : ByteArray) (Qc Qo : World → Value → Prop) (w : World) (hd : dg.size ≤ 1000000) (hfi : fi ≤ 255) (hne : ne ≤ 255)
    (hc : PReadAt w c ra Qc) (ho : PReadAt w o rb Qo) (hco : (∃ a n k, c = .slice a n k) ∧ ∃ a n k, o = .slice a n k) (hT : Lib.Utf8Tabs 2 3 w) :
    Calls Tryz.prog 26 #[locv c o mi po gr fi ne dg] w (ReadPost ra rb mi po gr fi ne dg.data.toList Qc Qo w) := by
  obtain ⟨⟨ca, cn, ck, rfl⟩, oa, on, ok, rfl⟩ := hco
  have hix0 : ∀ W : World, (Instr.index 85 (.agg #[.int .i32 mi, .int .i32 po, .int .i32 gr]) (.int .i64 0)).run Tryz.prog W = .ok (.int .i32 mi) W := fun W => by kernel_rfl
  have hix1 : ∀ W : World, (Instr.index 85 (.agg #[.int .i32 mi, .int .i32 po, .int .i32 gr]) (.int .i64 1)).run Tryz.prog W = .ok (.int .i32 po) W := fun W => by kernel_rfl
  have hix2 : ∀ W : World, (Instr.index 85 (.agg #[.int .i32 mi, .int .i32 po, .int .i32 gr]) (.int .i64 2)).run Tryz.prog W = .ok (.int .i32 gr) W := fun W => by kernel_rfl
  have HC := Lib.hid hc
  have HO := Lib.hid ho
  clear hc ho
  go_enter Tryz.func26, Tryz.ntmps26
  go_wp2_with fail
  refine calls_gen ?_
  intro W hW
  have hR : RW w.heap.size (.slice ca cn ck) (.slice oa on ok) (.slice none 0 0) (.slice none 0 0) mi po gr fi ne ne dg W := by
    rw [hW]
    refine ⟨?_, ?_⟩
    · rw [Below.heap_alloc _ _ _ (by simp)]
      show (w.heap.push _)[w.heap.size]? = _
      simp
    · show ((w.heap.push _).push _)[w.heap.size + 1]? = _
      exact push_last _ _ _
  have hbW : Below w.heap.size w W := by rw [hW]; exact ((Below.refl _ _).alloc (Nat.le_refl _) _).alloc (by simp) _
  have hzW : w.heap.size + 2 ≤ W.heap.size := by rw [hW]; simp
  clear hW
  have HZW := Lib.hid hzW
  refine (HC.out W hbW).mono ?_
  rintro e W1 ⟨⟨a1, n1, k1, rfl, hQ1⟩, hb1⟩
  have hR1 := hR.below hb1 (by omega)
  have hb01 : Below w.heap.size w W1 := hbW.trans (hb1.mono (by omega))
  have hz1 : w.heap.size + 2 ≤ W1.heap.size := by have := hb1.size; omega
  clear hR hbW hzW hb1
  obtain ⟨g0, g1, g2, g3, g4, g5, g6⟩ := hR1.b
  obtain ⟨a0, a1', a2, a3, a4, a5, a6, a7, a8⟩ := hR1.a
  have HQ1 := Lib.hid hQ1
  clear hQ1
  go_wp2_with fail
  refine calls_gen ?_
  intro W2 hW2
  have hR2 : RW w.heap.size (.slice ca cn ck) (.slice oa on ok) (.slice a1 n1 k1) (.slice none 0 0) mi po gr fi ne ne dg W2 := by rw [hW2]; exact hR1.set0 _
  have hb02 : Below w.heap.size w W2 := by rw [hW2]; exact hb01.setCell (p := ⟨w.heap.size + 1, 0, none⟩) (by simp) _
  have hb12 : Below w.heap.size W1 W2 := by rw [hW2]; exact (Below.refl _ _).setCell (p := ⟨w.heap.size + 1, 0, none⟩) (by simp) _
  have hz2 : w.heap.size + 2 ≤ W2.heap.size := by rw [hW2]; simpa using hz1
  have s12 : Sam w.heap.size W1 W2 := by rw [hW2]; exact (Sam.refl _ _).set _ _ (.inr rfl)
  clear hW2
  refine (HO.out W2 hb02).mono ?_
  rintro e W3 ⟨⟨a9, n9, k9, rfl, hQ3⟩, hb3⟩
  have hR3 := hR2.below hb3 (by omega)
  have hb03 : Below w.heap.size w W3 := hb02.trans (hb3.mono (by omega))
  have hz3 : w.heap.size + 2 ≤ W3.heap.size := by have := hb3.size; omega
  have s13 := s12.trans (Sam.below (b := w.heap.size) hb3)
  clear a0 a1' a2 a3 a4 a5 a6 a7 a8 g0 g1 g2 g3 g4 g5 g6
  obtain ⟨g0, g1, g2, g3, g4, g5, g6⟩ := hR3.b
  obtain ⟨a0, a1', a2, a3, a4, a5, a6, a7, a8⟩ := hR3.a
  have HQ3 := Lib.hid hQ3
  clear hQ3
  by_cases hgood : ra = true ∧ rb = true ∧ max (fi : Int) (ne : Int) ≤ 9 ∧ ¬ mi = 0 ∧ ¬ po = 0
  · obtain ⟨r1, r2, r3, r4, r5⟩ := hgood
    have hmi : (mi == 0) = false := by simpa using r4
    have hpo : (po == 0) = false := by simpa using r5
    go_wp2_with fail
    refine wp_gen ?_
    intro W4 hW4
    have hR4 : RW w.heap.size (.slice ca cn ck) (.slice oa on ok) (.slice a1 n1 k1) (.slice a9 n9 k9) mi po gr fi ne ne dg W4 := by rw [hW4]; exact hR3.set1 _
    have hb04 : Below w.heap.size w W4 := by rw [hW4]; exact hb03.setCell (p := ⟨w.heap.size + 1, 1, none⟩) (by simp) _
    have hb34 : Below (w.heap.size + 1) W3 W4 := by rw [hW4]; exact (Below.refl _ _).setCell (p := ⟨w.heap.size + 1, 1, none⟩) (by simp) _
    have hz4 : w.heap.size + 2 ≤ W4.heap.size := by rw [hW4]; simpa using hz3
    have s34 : Sam w.heap.size W3 W4 := by rw [hW4]; exact (Sam.refl _ _).set _ _ (.inr rfl)
    have HW4 := Lib.hid hW4
    clear hW4
    clear a0 a1' a2 a3 a4 a5 a6 a7 a8 g0 g1 g2 g3 g4 g5 g6
    go_loopw [71] (fun i wr => ∃ k : Nat, k ≤ 3 ∧ i = .int .i64 k ∧ wr = W4 ∧ (0 < k → isPt mi = true) ∧ (1 < k → isPt po = true) ∧ (2 < k → isPt gr = true)) (fun i _ => 3 - (intOf i).toNat)
    case atStart => exact ⟨0, by omega, rfl, rfl, fun h => by omega, fun h => by omega, fun h => by omega⟩
    case round =>
      obtain ⟨k, hk, rfl, hwr, p1, p2, p3⟩ := hrel
      subst hwr
      have hk4 : k = 0 ∨ k = 1 ∨ k = 2 ∨ k = 3 := by omega
      rcases hk4 with hk0 | hk1 | hk2 | hk3
      · subst hk0
        go_wp2_with fail
        refine (Tryz.utf8_ValidRune mi _).mono ?_
        rintro e w' ⟨rfl, rfl⟩
        rw [valid_isPt]
        cases hp : isPt mi
        · have HF := Lib.hid (kn_false2 (ra := ra) (rb := rb) (fi := fi) (ne := ne) (dg := dg.data.toList) (mi := mi) (po := po) (gr := gr) (.inl hp))
          clear hp
          go_wp2
          go_ret
          refine ⟨hb04, ?_⟩
          rw [HF.out]
          exact rfl
        · have HP := Lib.hid hp
          clear hp
          go_wp2
          go_roundw
          case rel => exact ⟨1, by omega, by go_num, by first | rfl | trivial, fun _ => HP.out, fun h => by omega, fun h => by omega⟩
          case measure => simp [intOf]
      · subst hk1
        go_wp2_with fail
        refine (Tryz.utf8_ValidRune po _).mono ?_
        rintro e w' ⟨rfl, rfl⟩
        rw [valid_isPt]
        cases hp : isPt po
        · have HF := Lib.hid (kn_false2 (ra := ra) (rb := rb) (fi := fi) (ne := ne) (dg := dg.data.toList) (mi := mi) (po := po) (gr := gr) (.inr (.inl hp)))
          clear hp
          go_wp2
          go_ret
          refine ⟨hb04, ?_⟩
          rw [HF.out]
          exact rfl
        · have HP := Lib.hid hp
          clear hp
          go_wp2
          go_roundw
          case rel => exact ⟨2, by omega, by go_num, by first | rfl | trivial, fun _ => p1 (by omega), fun _ => HP.out, fun h => by omega⟩
          case measure => simp [intOf]
      · subst hk2
        go_wp2_with fail
        refine (Tryz.utf8_ValidRune gr _).mono ?_
        rintro e w' ⟨rfl, rfl⟩
        rw [valid_isPt]
        cases hp : isPt gr
        · have HF := Lib.hid (kn_false2 (ra := ra) (rb := rb) (fi := fi) (ne := ne) (dg := dg.data.toList) (mi := mi) (po := po) (gr := gr) (.inr (.inr hp)))
          clear hp
          go_wp2
          go_ret
          refine ⟨hb04, ?_⟩
          rw [HF.out]
          exact rfl
        · have HP := Lib.hid hp
          clear hp
          go_wp2
          go_roundw
          case rel => exact ⟨3, by omega, by go_num, by first | rfl | trivial, fun _ => p1 (by omega), fun _ => p2 (by omega), fun _ => HP.out⟩
          case measure => simp [intOf]
      · subst hk3
        -- ARMS
        by_cases n0 : ne = 0
        · have n0' : ((ne : Int) == 0) = true := by simp [n0]
          by_cases d0 : dg.data.toList = []
          · have d0' : dg.toList.isEmpty = true := by rw [toList_eq, d0]; rfl
            obtain ⟨g0, g1, g2, g3, g4, g5, g6⟩ := hR4.b
            obtain ⟨a0, a1', a2, a3, a4, a5, a6, a7, a8⟩ := hR4.a
            go_wp2_with fail
            refine calls_gen ?_
            intro W6 hW6
            have hR6 : RW w.heap.size (.slice ca cn ck) (.slice oa on ok) (.slice a1 n1 k1) (.slice a9 n9 k9) mi po gr fi ne ((fi : Nat) : Int) ⟨#[48, 49, 50, 51, 52, 53, 54, 55, 56, 57]⟩ W6 := by rw [hW6]; exact ((hR4.set6 _).setd _)
            have hb46 : Below w.heap.size wr W6 := by rw [hW6]; (repeat (first | (with_reducible exact Below.refl _ _) | (with_reducible refine Below.setCell ?_ ?_ _; rotate_left; focus (first | (simp; done) | (simp; omega)))))
            have s46 : Sam w.heap.size wr W6 := by rw [hW6]; exact (((Sam.refl _ _).set _ _ (.inr rfl)).set _ _ (.inl rfl))
            have hz6 : w.heap.size + 2 ≤ W6.heap.size := by have := hb46.size; omega
            clear a0 a1' a2 a3 a4 a5 a6 a7 a8 g0 g1 g2 g3 g4 g5 g6 hW6
            have hb06 := hb04.trans hb46
            have hT6 := tabs_later hT hb06
            refine (Tryz.utf8_ValidString ⟨#[48, 49, 50, 51, 52, 53, 54, 55, 56, 57]⟩ W6 (by first | omega | decide) hT6).mono ?_
            rintro e W7 ⟨rfl, hb7⟩
            cases hv : Lib.validD (⟨#[48, 49, 50, 51, 52, 53, 54, 55, 56, 57]⟩ : ByteArray).data.toList
            · exact absurd hv (by decide)
            · have HVL := Lib.hid hv
              clear hv
              have hR7 := hR6.below hb7 (by omega)
              have hb07 : Below w.heap.size w W7 := hb06.trans (hb7.mono (by omega))
              have s37 : Sam w.heap.size W3 W7 := (s34.trans s46).trans (Sam.below hb7)
              have hz7 : w.heap.size + 2 ≤ W7.heap.size := by have := hb7.size; omega
              obtain ⟨a0, a1', a2, a3, a4, a5, a6, a7, a8⟩ := hR7.a
              go_wp2_with fail
              refine (Tryz.utf8_RuneCountInString ⟨#[48, 49, 50, 51, 52, 53, 54, 55, 56, 57]⟩ W7 (by first | omega | decide)).mono ?_
              rintro e W8 ⟨rfl, pos, rfl⟩
              have hpt : (ptsL (⟨#[48, 49, 50, 51, 52, 53, 54, 55, 56, 57]⟩ : ByteArray).data.toList).2 = (⟨#[48, 49, 50, 51, 52, 53, 54, 55, 56, 57]⟩ : ByteArray).data.toList.length := (valid_pts _).1 HVL.out
              have hcp := count_pts ⟨#[48, 49, 50, 51, 52, 53, 54, 55, 56, 57]⟩ (⟨#[48, 49, 50, 51, 52, 53, 54, 55, 56, 57]⟩ : ByteArray).size 0 (by omega) (by omega) (by rw [List.drop_zero, hpt, size_toList]; simp)
              rw [List.drop_zero] at hcp
              rw [show Lib.runeCount ⟨#[48, 49, 50, 51, 52, 53, 54, 55, 56, 57]⟩ = (ptsL (⟨#[48, 49, 50, 51, 52, 53, 54, 55, 56, 57]⟩ : ByteArray).data.toList).1.length from hcp.1]
              have HCP := Lib.hid hcp
              have HPT := Lib.hid hpt
              clear hcp hpt
              obtain ⟨cnt, hcnt⟩ : ∃ n, (ptsL (⟨#[48, 49, 50, 51, 52, 53, 54, 55, 56, 57]⟩ : ByteArray).data.toList).1.length = n := ⟨_, rfl⟩
              rw [hcnt]
              have HCNT := Lib.hid hcnt
              clear hcnt
              by_cases h10 : cnt = 10
              · subst h10
                have hrf : Conv.runesFrom ⟨#[48, 49, 50, 51, 52, 53, 54, 55, 56, 57]⟩ (⟨#[48, 49, 50, 51, 52, 53, 54, 55, 56, 57]⟩ : ByteArray).size 0 #[] = ((runesL (⟨#[48, 49, 50, 51, 52, 53, 54, 55, 56, 57]⟩ : ByteArray).data.toList).map (Value.int .i32)).toArray := by have := HCP.out.2 #[]; simpa using this
                have hrl : (runesL (⟨#[48, 49, 50, 51, 52, 53, 54, 55, 56, 57]⟩ : ByteArray).data.toList).length = 10 := by
                  have := congrArg List.length (runes_enc _ (⟨#[48, 49, 50, 51, 52, 53, 54, 55, 56, 57]⟩ : ByteArray).data.toList (Nat.le_refl _))
                  rw [List.length_map, HCNT.out] at this
                  exact this
                obtain ⟨rs, hrs⟩ : ∃ r : List Int, r = runesL (⟨#[48, 49, 50, 51, 52, 53, 54, 55, 56, 57]⟩ : ByteArray).data.toList := ⟨_, rfl⟩
                rw [← hrs] at hrf hrl
                have hcv : ∀ W : World, (convert 9 86 (.string ⟨#[48, 49, 50, 51, 52, 53, 54, 55, 56, 57]⟩)).run Tryz.prog W = .ok (.slice (some ⟨W.heap.size, 0, none⟩) 10 (grownCap W 10 0 21)) (W.drew.alloc (.cells ((rs.map (Value.int .i32)).toArray ++ Array.replicate (grownCap W 10 0 21 - 10) (.int .i32 0)) 21)) := by
                  intro W
                  have := run_runes_of_string (P := Tryz.prog) W 9 86 21 ⟨#[48, 49, 50, 51, 52, 53, 54, 55, 56, 57]⟩ Tryz.underlying9 Tryz.underlying86 Tryz.underlying21 (by rw [hrf]; simp; omega)
                  rw [hrf] at this
                  simpa [hrl] using this
                have HRF := Lib.hid hrf
                have HRS := Lib.hid hrs
                clear hrf hrs
                go_wp2_with fail
                have hS0 : (W7.iter ⟨#[48, 49, 50, 51, 52, 53, 54, 55, 56, 57]⟩ pos).drew.cell? ⟨w.heap.size, 7, none⟩ = some (.string ⟨#[48, 49, 50, 51, 52, 53, 54, 55, 56, 57]⟩) := by
                  show (W7.alloc _).cell? _ = _
                  rw [World.cell?_alloc_lt _ _ _ (by simp; omega)]
                  exact a7
                refine wp_region_takes (fun W' : World => W'.cell? ⟨w.heap.size, 7, none⟩ = some (.string ⟨#[48, 49, 50, 51, 52, 53, 54, 55, 56, 57]⟩)) [0, 1, 2, 3, 4, 5] 2 (by intro _ _ d _ _ h; cases d <;> exact h) (by kernel_rfl) (by kernel_rfl) hS0 ?_
                (iterate 6 (first | (refine takes_yes (v := ?_) rfl (by rfl) ?_ ?_; rotate_left; (focus ((intro w' hS'; (try dsimp only at hS'); go_simp; try (with_reducible rfl)); done)); (try simp only [Act.put, List.setIfInBounds_toArray, List.set_cons_zero, List.set_cons_succ])) | (refine takes_no rfl (by rfl) ?_; (try simp only [Act.put, List.setIfInBounds_toArray, List.set_cons_zero, List.set_cons_succ]))))
                refine takes_nil ?_
                refine wpAnyH_only 6 (by kernel_rfl) rfl (fun K hK => ?_)
                go_simp
                refine hK.out _ _ ?_ (fun _ => ?_)
                · show ((W7.iter ⟨#[48, 49, 50, 51, 52, 53, 54, 55, 56, 57]⟩ pos).alloc _).cell? _ = _
                  rw [cell_old (by show _ < (W7.alloc _).heap.size; simp; omega)]
                  exact hS0
                clear hK K
                refine wpAnyH_only 7 (by kernel_rfl) rfl (fun K hK => ?_)
                go_simp
                have hVB0 : (((W7.iter ⟨#[48, 49, 50, 51, 52, 53, 54, 55, 56, 57]⟩ pos).alloc (.cells ((rs.map (Value.int .i32)).toArray ++ Array.replicate (grownCap (W7.iter ⟨#[48, 49, 50, 51, 52, 53, 54, 55, 56, 57]⟩ pos).drew 10 0 21 - 10) (.int .i32 0)) 21)).drew.drew).heap[w.heap.size + 1]? = W7.heap[w.heap.size + 1]? := by
                  show ((W7.alloc _).alloc _).heap[w.heap.size + 1]? = _
                  rw [Below.heap_alloc _ _ _ (by simp; omega), Below.heap_alloc _ _ _ (by omega)]
                have hVB := hVB0.trans hR7.hB
                have hcopy := copy_run (W7.iter ⟨#[48, 49, 50, 51, 52, 53, 54, 55, 56, 57]⟩ pos) rs (Array.replicate (grownCap (W7.iter ⟨#[48, 49, 50, 51, 52, 53, 54, 55, 56, 57]⟩ pos).drew 10 0 21 - 10) (.int .i32 0)) (grownCap (W7.iter ⟨#[48, 49, 50, 51, 52, 53, 54, 55, 56, 57]⟩ pos).drew 10 0 21) (w.heap.size + 1) hrl hVB (by simp)
                rw [hcopy]
                simp only [Result.andThen]
                refine hK.out _ _ ?_ (fun _ => ?_)
                · rw [World.cell?_setCells_out _ _ _ _ _ (fun h => absurd h (by simp))]
                  show ((W7.iter ⟨#[48, 49, 50, 51, 52, 53, 54, 55, 56, 57]⟩ pos).alloc _).cell? _ = _
                  rw [cell_old (by show _ < (W7.alloc _).heap.size; simp; omega)]
                  exact hS0
                clear hK K
                refine wpAnyH_done (by kernel_rfl) ?_ _
                go_wp2
                refine bodyPost_ret (v := .pointer (some ⟨w.heap.size + 1, 0, none⟩)) ?_ rfl ?_
                · simp [results, Tryz.results26, go_sem]
                · have HD : (⟨#[48, 49, 50, 51, 52, 53, 54, 55, 56, 57]⟩ : ByteArray).data.toList = digL dg.data.toList := by rw [d0]; rfl
                  have HK := kn_true (fi := fi) (ne := ne) HD r3 r4 r5 (p1 (by omega)) (p2 (by omega)) (p3 (by omega)) HPT.out HCNT.out
                  rw [show ra = true from r1, show rb = true from r2]
                  exact read_fin (nx := fi) hR7 hb07 hz7 hrl (by rw [if_pos n0]) HRS.out HD HK (s13.trans s37) s37 HZW.out hz2 hz1 hz3 HQ1.out HQ3.out
              · exact absurd (HCNT.out.symm.trans ten_count) h10
          · have d0' : dg.toList.isEmpty = false := by rw [toList_eq]; simpa using d0
            obtain ⟨g0, g1, g2, g3, g4, g5, g6⟩ := hR4.b
            obtain ⟨a0, a1', a2, a3, a4, a5, a6, a7, a8⟩ := hR4.a
            go_wp2_with fail
            refine calls_gen ?_
            intro W6 hW6
            have hR6 : RW w.heap.size (.slice ca cn ck) (.slice oa on ok) (.slice a1 n1 k1) (.slice a9 n9 k9) mi po gr fi ne ((fi : Nat) : Int) dg W6 := by rw [hW6]; exact (hR4.set6 _)
            have hb46 : Below w.heap.size wr W6 := by rw [hW6]; (repeat (first | (with_reducible exact Below.refl _ _) | (with_reducible refine Below.setCell ?_ ?_ _; rotate_left; focus (first | (simp; done) | (simp; omega)))))
            have s46 : Sam w.heap.size wr W6 := by rw [hW6]; exact ((Sam.refl _ _).set _ _ (.inr rfl))
            have hz6 : w.heap.size + 2 ≤ W6.heap.size := by have := hb46.size; omega
            clear a0 a1' a2 a3 a4 a5 a6 a7 a8 g0 g1 g2 g3 g4 g5 g6 hW6
            have hb06 := hb04.trans hb46
            have hT6 := tabs_later hT hb06
            refine (Tryz.utf8_ValidString dg W6 (by first | omega | decide) hT6).mono ?_
            rintro e W7 ⟨rfl, hb7⟩
            cases hv : Lib.validD (dg : ByteArray).data.toList
            · have HF := Lib.hid (kn_false3 (ra := ra) (rb := rb) (fi := fi) (ne := ne) (mi := mi) (po := po) (gr := gr) hv)
              clear hv
              go_wp2
              go_ret
              refine ⟨hb06.trans (hb7.mono (by omega)), ?_⟩
              rw [HF.out]
              exact rfl
            · have HVL := Lib.hid hv
              clear hv
              have hR7 := hR6.below hb7 (by omega)
              have hb07 : Below w.heap.size w W7 := hb06.trans (hb7.mono (by omega))
              have s37 : Sam w.heap.size W3 W7 := (s34.trans s46).trans (Sam.below hb7)
              have hz7 : w.heap.size + 2 ≤ W7.heap.size := by have := hb7.size; omega
              obtain ⟨a0, a1', a2, a3, a4, a5, a6, a7, a8⟩ := hR7.a
              go_wp2_with fail
              refine (Tryz.utf8_RuneCountInString dg W7 (by first | omega | decide)).mono ?_
              rintro e W8 ⟨rfl, pos, rfl⟩
              have hpt : (ptsL (dg : ByteArray).data.toList).2 = (dg : ByteArray).data.toList.length := (valid_pts _).1 HVL.out
              have hcp := count_pts dg (dg : ByteArray).size 0 (by omega) (by omega) (by rw [List.drop_zero, hpt, size_toList]; simp)
              rw [List.drop_zero] at hcp
              rw [show Lib.runeCount dg = (ptsL (dg : ByteArray).data.toList).1.length from hcp.1]
              have HCP := Lib.hid hcp
              have HPT := Lib.hid hpt
              clear hcp hpt
              obtain ⟨cnt, hcnt⟩ : ∃ n, (ptsL (dg : ByteArray).data.toList).1.length = n := ⟨_, rfl⟩
              rw [hcnt]
              have HCNT := Lib.hid hcnt
              clear hcnt
              by_cases h10 : cnt = 10
              · subst h10
                have hrf : Conv.runesFrom dg (dg : ByteArray).size 0 #[] = ((runesL (dg : ByteArray).data.toList).map (Value.int .i32)).toArray := by have := HCP.out.2 #[]; simpa using this
                have hrl : (runesL (dg : ByteArray).data.toList).length = 10 := by
                  have := congrArg List.length (runes_enc _ (dg : ByteArray).data.toList (Nat.le_refl _))
                  rw [List.length_map, HCNT.out] at this
                  exact this
                obtain ⟨rs, hrs⟩ : ∃ r : List Int, r = runesL (dg : ByteArray).data.toList := ⟨_, rfl⟩
                rw [← hrs] at hrf hrl
                have hcv : ∀ W : World, (convert 9 86 (.string dg)).run Tryz.prog W = .ok (.slice (some ⟨W.heap.size, 0, none⟩) 10 (grownCap W 10 0 21)) (W.drew.alloc (.cells ((rs.map (Value.int .i32)).toArray ++ Array.replicate (grownCap W 10 0 21 - 10) (.int .i32 0)) 21)) := by
                  intro W
                  have := run_runes_of_string (P := Tryz.prog) W 9 86 21 dg Tryz.underlying9 Tryz.underlying86 Tryz.underlying21 (by rw [hrf]; simp; omega)
                  rw [hrf] at this
                  simpa [hrl] using this
                have HRF := Lib.hid hrf
                have HRS := Lib.hid hrs
                clear hrf hrs
                go_wp2_with fail
                have hS0 : (W7.iter dg pos).drew.cell? ⟨w.heap.size, 7, none⟩ = some (.string dg) := by
                  show (W7.alloc _).cell? _ = _
                  rw [World.cell?_alloc_lt _ _ _ (by simp; omega)]
                  exact a7
                refine wp_region_takes (fun W' : World => W'.cell? ⟨w.heap.size, 7, none⟩ = some (.string dg)) [0, 1, 2, 3, 4, 5] 2 (by intro _ _ d _ _ h; cases d <;> exact h) (by kernel_rfl) (by kernel_rfl) hS0 ?_
                (iterate 6 (first | (refine takes_yes (v := ?_) rfl (by rfl) ?_ ?_; rotate_left; (focus ((intro w' hS'; (try dsimp only at hS'); go_simp; try (with_reducible rfl)); done)); (try simp only [Act.put, List.setIfInBounds_toArray, List.set_cons_zero, List.set_cons_succ])) | (refine takes_no rfl (by rfl) ?_; (try simp only [Act.put, List.setIfInBounds_toArray, List.set_cons_zero, List.set_cons_succ]))))
                refine takes_nil ?_
                refine wpAnyH_only 6 (by kernel_rfl) rfl (fun K hK => ?_)
                go_simp
                refine hK.out _ _ ?_ (fun _ => ?_)
                · show ((W7.iter dg pos).alloc _).cell? _ = _
                  rw [cell_old (by show _ < (W7.alloc _).heap.size; simp; omega)]
                  exact hS0
                clear hK K
                refine wpAnyH_only 7 (by kernel_rfl) rfl (fun K hK => ?_)
                go_simp
                have hVB0 : (((W7.iter dg pos).alloc (.cells ((rs.map (Value.int .i32)).toArray ++ Array.replicate (grownCap (W7.iter dg pos).drew 10 0 21 - 10) (.int .i32 0)) 21)).drew.drew).heap[w.heap.size + 1]? = W7.heap[w.heap.size + 1]? := by
                  show ((W7.alloc _).alloc _).heap[w.heap.size + 1]? = _
                  rw [Below.heap_alloc _ _ _ (by simp; omega), Below.heap_alloc _ _ _ (by omega)]
                have hVB := hVB0.trans hR7.hB
                have hcopy := copy_run (W7.iter dg pos) rs (Array.replicate (grownCap (W7.iter dg pos).drew 10 0 21 - 10) (.int .i32 0)) (grownCap (W7.iter dg pos).drew 10 0 21) (w.heap.size + 1) hrl hVB (by simp)
                rw [hcopy]
                simp only [Result.andThen]
                refine hK.out _ _ ?_ (fun _ => ?_)
                · rw [World.cell?_setCells_out _ _ _ _ _ (fun h => absurd h (by simp))]
                  show ((W7.iter dg pos).alloc _).cell? _ = _
                  rw [cell_old (by show _ < (W7.alloc _).heap.size; simp; omega)]
                  exact hS0
                clear hK K
                refine wpAnyH_done (by kernel_rfl) ?_ _
                go_wp2
                refine bodyPost_ret (v := .pointer (some ⟨w.heap.size + 1, 0, none⟩)) ?_ rfl ?_
                · simp [results, Tryz.results26, go_sem]
                · have HD : (dg : ByteArray).data.toList = digL dg.data.toList := by unfold digL; rw [if_neg d0]
                  have HK := kn_true (fi := fi) (ne := ne) HD r3 r4 r5 (p1 (by omega)) (p2 (by omega)) (p3 (by omega)) HPT.out HCNT.out
                  rw [show ra = true from r1, show rb = true from r2]
                  exact read_fin (nx := fi) hR7 hb07 hz7 hrl (by rw [if_pos n0]) HRS.out HD HK (s13.trans s37) s37 HZW.out hz2 hz1 hz3 HQ1.out HQ3.out
              · have h10' : ((cnt : Int) != 10) = true := by simp; omega
                have HF := Lib.hid (kn_false4 (ra := ra) (rb := rb) (fi := fi) (ne := ne) (mi := mi) (po := po) (gr := gr) d0 (fun h => h10 (HCNT.out.symm.trans h)))
                go_wp2
                go_ret
                refine ⟨hb07.trans (below_iter _ _ _ _ (by omega)), ?_⟩
                rw [HF.out]
                exact rfl
        · have n0' : ((ne : Int) == 0) = false := by simpa using n0
          by_cases d0 : dg.data.toList = []
          · have d0' : dg.toList.isEmpty = true := by rw [toList_eq, d0]; rfl
            obtain ⟨g0, g1, g2, g3, g4, g5, g6⟩ := hR4.b
            obtain ⟨a0, a1', a2, a3, a4, a5, a6, a7, a8⟩ := hR4.a
            go_wp2_with fail
            refine calls_gen ?_
            intro W6 hW6
            have hR6 : RW w.heap.size (.slice ca cn ck) (.slice oa on ok) (.slice a1 n1 k1) (.slice a9 n9 k9) mi po gr fi ne ((ne : Nat) : Int) ⟨#[48, 49, 50, 51, 52, 53, 54, 55, 56, 57]⟩ W6 := by rw [hW6]; exact (hR4.setd _)
            have hb46 : Below w.heap.size wr W6 := by rw [hW6]; (repeat (first | (with_reducible exact Below.refl _ _) | (with_reducible refine Below.setCell ?_ ?_ _; rotate_left; focus (first | (simp; done) | (simp; omega)))))
            have s46 : Sam w.heap.size wr W6 := by rw [hW6]; exact ((Sam.refl _ _).set _ _ (.inl rfl))
            have hz6 : w.heap.size + 2 ≤ W6.heap.size := by have := hb46.size; omega
            clear a0 a1' a2 a3 a4 a5 a6 a7 a8 g0 g1 g2 g3 g4 g5 g6 hW6
            have hb06 := hb04.trans hb46
            have hT6 := tabs_later hT hb06
            refine (Tryz.utf8_ValidString ⟨#[48, 49, 50, 51, 52, 53, 54, 55, 56, 57]⟩ W6 (by first | omega | decide) hT6).mono ?_
            rintro e W7 ⟨rfl, hb7⟩
            cases hv : Lib.validD (⟨#[48, 49, 50, 51, 52, 53, 54, 55, 56, 57]⟩ : ByteArray).data.toList
            · exact absurd hv (by decide)
            · have HVL := Lib.hid hv
              clear hv
              have hR7 := hR6.below hb7 (by omega)
              have hb07 : Below w.heap.size w W7 := hb06.trans (hb7.mono (by omega))
              have s37 : Sam w.heap.size W3 W7 := (s34.trans s46).trans (Sam.below hb7)
              have hz7 : w.heap.size + 2 ≤ W7.heap.size := by have := hb7.size; omega
              obtain ⟨a0, a1', a2, a3, a4, a5, a6, a7, a8⟩ := hR7.a
              go_wp2_with fail
              refine (Tryz.utf8_RuneCountInString ⟨#[48, 49, 50, 51, 52, 53, 54, 55, 56, 57]⟩ W7 (by first | omega | decide)).mono ?_
              rintro e W8 ⟨rfl, pos, rfl⟩
              have hpt : (ptsL (⟨#[48, 49, 50, 51, 52, 53, 54, 55, 56, 57]⟩ : ByteArray).data.toList).2 = (⟨#[48, 49, 50, 51, 52, 53, 54, 55, 56, 57]⟩ : ByteArray).data.toList.length := (valid_pts _).1 HVL.out
              have hcp := count_pts ⟨#[48, 49, 50, 51, 52, 53, 54, 55, 56, 57]⟩ (⟨#[48, 49, 50, 51, 52, 53, 54, 55, 56, 57]⟩ : ByteArray).size 0 (by omega) (by omega) (by rw [List.drop_zero, hpt, size_toList]; simp)
              rw [List.drop_zero] at hcp
              rw [show Lib.runeCount ⟨#[48, 49, 50, 51, 52, 53, 54, 55, 56, 57]⟩ = (ptsL (⟨#[48, 49, 50, 51, 52, 53, 54, 55, 56, 57]⟩ : ByteArray).data.toList).1.length from hcp.1]
              have HCP := Lib.hid hcp
              have HPT := Lib.hid hpt
              clear hcp hpt
              obtain ⟨cnt, hcnt⟩ : ∃ n, (ptsL (⟨#[48, 49, 50, 51, 52, 53, 54, 55, 56, 57]⟩ : ByteArray).data.toList).1.length = n := ⟨_, rfl⟩
              rw [hcnt]
              have HCNT := Lib.hid hcnt
              clear hcnt
              by_cases h10 : cnt = 10
              · subst h10
                have hrf : Conv.runesFrom ⟨#[48, 49, 50, 51, 52, 53, 54, 55, 56, 57]⟩ (⟨#[48, 49, 50, 51, 52, 53, 54, 55, 56, 57]⟩ : ByteArray).size 0 #[] = ((runesL (⟨#[48, 49, 50, 51, 52, 53, 54, 55, 56, 57]⟩ : ByteArray).data.toList).map (Value.int .i32)).toArray := by have := HCP.out.2 #[]; simpa using this
                have hrl : (runesL (⟨#[48, 49, 50, 51, 52, 53, 54, 55, 56, 57]⟩ : ByteArray).data.toList).length = 10 := by
                  have := congrArg List.length (runes_enc _ (⟨#[48, 49, 50, 51, 52, 53, 54, 55, 56, 57]⟩ : ByteArray).data.toList (Nat.le_refl _))
                  rw [List.length_map, HCNT.out] at this
                  exact this
                obtain ⟨rs, hrs⟩ : ∃ r : List Int, r = runesL (⟨#[48, 49, 50, 51, 52, 53, 54, 55, 56, 57]⟩ : ByteArray).data.toList := ⟨_, rfl⟩
                rw [← hrs] at hrf hrl
                have hcv : ∀ W : World, (convert 9 86 (.string ⟨#[48, 49, 50, 51, 52, 53, 54, 55, 56, 57]⟩)).run Tryz.prog W = .ok (.slice (some ⟨W.heap.size, 0, none⟩) 10 (grownCap W 10 0 21)) (W.drew.alloc (.cells ((rs.map (Value.int .i32)).toArray ++ Array.replicate (grownCap W 10 0 21 - 10) (.int .i32 0)) 21)) := by
                  intro W
                  have := run_runes_of_string (P := Tryz.prog) W 9 86 21 ⟨#[48, 49, 50, 51, 52, 53, 54, 55, 56, 57]⟩ Tryz.underlying9 Tryz.underlying86 Tryz.underlying21 (by rw [hrf]; simp; omega)
                  rw [hrf] at this
                  simpa [hrl] using this
                have HRF := Lib.hid hrf
                have HRS := Lib.hid hrs
                clear hrf hrs
                go_wp2_with fail
                have hS0 : (W7.iter ⟨#[48, 49, 50, 51, 52, 53, 54, 55, 56, 57]⟩ pos).drew.cell? ⟨w.heap.size, 7, none⟩ = some (.string ⟨#[48, 49, 50, 51, 52, 53, 54, 55, 56, 57]⟩) := by
                  show (W7.alloc _).cell? _ = _
                  rw [World.cell?_alloc_lt _ _ _ (by simp; omega)]
                  exact a7
                refine wp_region_takes (fun W' : World => W'.cell? ⟨w.heap.size, 7, none⟩ = some (.string ⟨#[48, 49, 50, 51, 52, 53, 54, 55, 56, 57]⟩)) [0, 1, 2, 3, 4, 5] 2 (by intro _ _ d _ _ h; cases d <;> exact h) (by kernel_rfl) (by kernel_rfl) hS0 ?_
                (iterate 6 (first | (refine takes_yes (v := ?_) rfl (by rfl) ?_ ?_; rotate_left; (focus ((intro w' hS'; (try dsimp only at hS'); go_simp; try (with_reducible rfl)); done)); (try simp only [Act.put, List.setIfInBounds_toArray, List.set_cons_zero, List.set_cons_succ])) | (refine takes_no rfl (by rfl) ?_; (try simp only [Act.put, List.setIfInBounds_toArray, List.set_cons_zero, List.set_cons_succ]))))
                refine takes_nil ?_
                refine wpAnyH_only 6 (by kernel_rfl) rfl (fun K hK => ?_)
                go_simp
                refine hK.out _ _ ?_ (fun _ => ?_)
                · show ((W7.iter ⟨#[48, 49, 50, 51, 52, 53, 54, 55, 56, 57]⟩ pos).alloc _).cell? _ = _
                  rw [cell_old (by show _ < (W7.alloc _).heap.size; simp; omega)]
                  exact hS0
                clear hK K
                refine wpAnyH_only 7 (by kernel_rfl) rfl (fun K hK => ?_)
                go_simp
                have hVB0 : (((W7.iter ⟨#[48, 49, 50, 51, 52, 53, 54, 55, 56, 57]⟩ pos).alloc (.cells ((rs.map (Value.int .i32)).toArray ++ Array.replicate (grownCap (W7.iter ⟨#[48, 49, 50, 51, 52, 53, 54, 55, 56, 57]⟩ pos).drew 10 0 21 - 10) (.int .i32 0)) 21)).drew.drew).heap[w.heap.size + 1]? = W7.heap[w.heap.size + 1]? := by
                  show ((W7.alloc _).alloc _).heap[w.heap.size + 1]? = _
                  rw [Below.heap_alloc _ _ _ (by simp; omega), Below.heap_alloc _ _ _ (by omega)]
                have hVB := hVB0.trans hR7.hB
                have hcopy := copy_run (W7.iter ⟨#[48, 49, 50, 51, 52, 53, 54, 55, 56, 57]⟩ pos) rs (Array.replicate (grownCap (W7.iter ⟨#[48, 49, 50, 51, 52, 53, 54, 55, 56, 57]⟩ pos).drew 10 0 21 - 10) (.int .i32 0)) (grownCap (W7.iter ⟨#[48, 49, 50, 51, 52, 53, 54, 55, 56, 57]⟩ pos).drew 10 0 21) (w.heap.size + 1) hrl hVB (by simp)
                rw [hcopy]
                simp only [Result.andThen]
                refine hK.out _ _ ?_ (fun _ => ?_)
                · rw [World.cell?_setCells_out _ _ _ _ _ (fun h => absurd h (by simp))]
                  show ((W7.iter ⟨#[48, 49, 50, 51, 52, 53, 54, 55, 56, 57]⟩ pos).alloc _).cell? _ = _
                  rw [cell_old (by show _ < (W7.alloc _).heap.size; simp; omega)]
                  exact hS0
                clear hK K
                refine wpAnyH_done (by kernel_rfl) ?_ _
                go_wp2
                refine bodyPost_ret (v := .pointer (some ⟨w.heap.size + 1, 0, none⟩)) ?_ rfl ?_
                · simp [results, Tryz.results26, go_sem]
                · have HD : (⟨#[48, 49, 50, 51, 52, 53, 54, 55, 56, 57]⟩ : ByteArray).data.toList = digL dg.data.toList := by rw [d0]; rfl
                  have HK := kn_true (fi := fi) (ne := ne) HD r3 r4 r5 (p1 (by omega)) (p2 (by omega)) (p3 (by omega)) HPT.out HCNT.out
                  rw [show ra = true from r1, show rb = true from r2]
                  exact read_fin (nx := ne) hR7 hb07 hz7 hrl (by rw [if_neg n0]) HRS.out HD HK (s13.trans s37) s37 HZW.out hz2 hz1 hz3 HQ1.out HQ3.out
              · exact absurd (HCNT.out.symm.trans ten_count) h10
          · have d0' : dg.toList.isEmpty = false := by rw [toList_eq]; simpa using d0
            obtain ⟨g0, g1, g2, g3, g4, g5, g6⟩ := hR4.b
            obtain ⟨a0, a1', a2, a3, a4, a5, a6, a7, a8⟩ := hR4.a
            go_wp2_with fail
            refine calls_gen ?_
            intro W6 hW6
            have hR6 : RW w.heap.size (.slice ca cn ck) (.slice oa on ok) (.slice a1 n1 k1) (.slice a9 n9 k9) mi po gr fi ne ((ne : Nat) : Int) dg W6 := by rw [hW6]; exact hR4
            have hb46 : Below w.heap.size wr W6 := by rw [hW6]; (repeat (first | (with_reducible exact Below.refl _ _) | (with_reducible refine Below.setCell ?_ ?_ _; rotate_left; focus (first | (simp; done) | (simp; omega)))))
            have s46 : Sam w.heap.size wr W6 := by rw [hW6]; exact (Sam.refl _ _)
            have hz6 : w.heap.size + 2 ≤ W6.heap.size := by have := hb46.size; omega
            clear a0 a1' a2 a3 a4 a5 a6 a7 a8 g0 g1 g2 g3 g4 g5 g6 hW6
            have hb06 := hb04.trans hb46
            have hT6 := tabs_later hT hb06
            refine (Tryz.utf8_ValidString dg W6 (by first | omega | decide) hT6).mono ?_
            rintro e W7 ⟨rfl, hb7⟩
            cases hv : Lib.validD (dg : ByteArray).data.toList
            · have HF := Lib.hid (kn_false3 (ra := ra) (rb := rb) (fi := fi) (ne := ne) (mi := mi) (po := po) (gr := gr) hv)
              clear hv
              go_wp2
              go_ret
              refine ⟨hb06.trans (hb7.mono (by omega)), ?_⟩
              rw [HF.out]
              exact rfl
            · have HVL := Lib.hid hv
              clear hv
              have hR7 := hR6.below hb7 (by omega)
              have hb07 : Below w.heap.size w W7 := hb06.trans (hb7.mono (by omega))
              have s37 : Sam w.heap.size W3 W7 := (s34.trans s46).trans (Sam.below hb7)
              have hz7 : w.heap.size + 2 ≤ W7.heap.size := by have := hb7.size; omega
              obtain ⟨a0, a1', a2, a3, a4, a5, a6, a7, a8⟩ := hR7.a
              go_wp2_with fail
              refine (Tryz.utf8_RuneCountInString dg W7 (by first | omega | decide)).mono ?_
              rintro e W8 ⟨rfl, pos, rfl⟩
              have hpt : (ptsL (dg : ByteArray).data.toList).2 = (dg : ByteArray).data.toList.length := (valid_pts _).1 HVL.out
              have hcp := count_pts dg (dg : ByteArray).size 0 (by omega) (by omega) (by rw [List.drop_zero, hpt, size_toList]; simp)
              rw [List.drop_zero] at hcp
              rw [show Lib.runeCount dg = (ptsL (dg : ByteArray).data.toList).1.length from hcp.1]
              have HCP := Lib.hid hcp
              have HPT := Lib.hid hpt
              clear hcp hpt
              obtain ⟨cnt, hcnt⟩ : ∃ n, (ptsL (dg : ByteArray).data.toList).1.length = n := ⟨_, rfl⟩
              rw [hcnt]
              have HCNT := Lib.hid hcnt
              clear hcnt
              by_cases h10 : cnt = 10
              · subst h10
                have hrf : Conv.runesFrom dg (dg : ByteArray).size 0 #[] = ((runesL (dg : ByteArray).data.toList).map (Value.int .i32)).toArray := by have := HCP.out.2 #[]; simpa using this
                have hrl : (runesL (dg : ByteArray).data.toList).length = 10 := by
                  have := congrArg List.length (runes_enc _ (dg : ByteArray).data.toList (Nat.le_refl _))
                  rw [List.length_map, HCNT.out] at this
                  exact this
                obtain ⟨rs, hrs⟩ : ∃ r : List Int, r = runesL (dg : ByteArray).data.toList := ⟨_, rfl⟩
                rw [← hrs] at hrf hrl
                have hcv : ∀ W : World, (convert 9 86 (.string dg)).run Tryz.prog W = .ok (.slice (some ⟨W.heap.size, 0, none⟩) 10 (grownCap W 10 0 21)) (W.drew.alloc (.cells ((rs.map (Value.int .i32)).toArray ++ Array.replicate (grownCap W 10 0 21 - 10) (.int .i32 0)) 21)) := by
                  intro W
                  have := run_runes_of_string (P := Tryz.prog) W 9 86 21 dg Tryz.underlying9 Tryz.underlying86 Tryz.underlying21 (by rw [hrf]; simp; omega)
                  rw [hrf] at this
                  simpa [hrl] using this
                have HRF := Lib.hid hrf
                have HRS := Lib.hid hrs
                clear hrf hrs
                go_wp2_with fail
                have hS0 : (W7.iter dg pos).drew.cell? ⟨w.heap.size, 7, none⟩ = some (.string dg) := by
                  show (W7.alloc _).cell? _ = _
                  rw [World.cell?_alloc_lt _ _ _ (by simp; omega)]
                  exact a7
                refine wp_region_takes (fun W' : World => W'.cell? ⟨w.heap.size, 7, none⟩ = some (.string dg)) [0, 1, 2, 3, 4, 5] 2 (by intro _ _ d _ _ h; cases d <;> exact h) (by kernel_rfl) (by kernel_rfl) hS0 ?_
                (iterate 6 (first | (refine takes_yes (v := ?_) rfl (by rfl) ?_ ?_; rotate_left; (focus ((intro w' hS'; (try dsimp only at hS'); go_simp; try (with_reducible rfl)); done)); (try simp only [Act.put, List.setIfInBounds_toArray, List.set_cons_zero, List.set_cons_succ])) | (refine takes_no rfl (by rfl) ?_; (try simp only [Act.put, List.setIfInBounds_toArray, List.set_cons_zero, List.set_cons_succ]))))
                refine takes_nil ?_
                refine wpAnyH_only 6 (by kernel_rfl) rfl (fun K hK => ?_)
                go_simp
                refine hK.out _ _ ?_ (fun _ => ?_)
                · show ((W7.iter dg pos).alloc _).cell? _ = _
                  rw [cell_old (by show _ < (W7.alloc _).heap.size; simp; omega)]
                  exact hS0
                clear hK K
                refine wpAnyH_only 7 (by kernel_rfl) rfl (fun K hK => ?_)
                go_simp
                have hVB0 : (((W7.iter dg pos).alloc (.cells ((rs.map (Value.int .i32)).toArray ++ Array.replicate (grownCap (W7.iter dg pos).drew 10 0 21 - 10) (.int .i32 0)) 21)).drew.drew).heap[w.heap.size + 1]? = W7.heap[w.heap.size + 1]? := by
                  show ((W7.alloc _).alloc _).heap[w.heap.size + 1]? = _
                  rw [Below.heap_alloc _ _ _ (by simp; omega), Below.heap_alloc _ _ _ (by omega)]
                have hVB := hVB0.trans hR7.hB
                have hcopy := copy_run (W7.iter dg pos) rs (Array.replicate (grownCap (W7.iter dg pos).drew 10 0 21 - 10) (.int .i32 0)) (grownCap (W7.iter dg pos).drew 10 0 21) (w.heap.size + 1) hrl hVB (by simp)
                rw [hcopy]
                simp only [Result.andThen]
                refine hK.out _ _ ?_ (fun _ => ?_)
                · rw [World.cell?_setCells_out _ _ _ _ _ (fun h => absurd h (by simp))]
                  show ((W7.iter dg pos).alloc _).cell? _ = _
                  rw [cell_old (by show _ < (W7.alloc _).heap.size; simp; omega)]
                  exact hS0
                clear hK K
                refine wpAnyH_done (by kernel_rfl) ?_ _
                go_wp2
                refine bodyPost_ret (v := .pointer (some ⟨w.heap.size + 1, 0, none⟩)) ?_ rfl ?_
                · simp [results, Tryz.results26, go_sem]
                · have HD : (dg : ByteArray).data.toList = digL dg.data.toList := by unfold digL; rw [if_neg d0]
                  have HK := kn_true (fi := fi) (ne := ne) HD r3 r4 r5 (p1 (by omega)) (p2 (by omega)) (p3 (by omega)) HPT.out HCNT.out
                  rw [show ra = true from r1, show rb = true from r2]
                  exact read_fin (nx := ne) hR7 hb07 hz7 hrl (by rw [if_neg n0]) HRS.out HD HK (s13.trans s37) s37 HZW.out hz2 hz1 hz3 HQ1.out HQ3.out
              · have h10' : ((cnt : Int) != 10) = true := by simp; omega
                have HF := Lib.hid (kn_false4 (ra := ra) (rb := rb) (fi := fi) (ne := ne) (mi := mi) (po := po) (gr := gr) d0 (fun h => h10 (HCNT.out.symm.trans h)))
                go_wp2
                go_ret
                refine ⟨hb07.trans (below_iter _ _ _ _ (by omega)), ?_⟩
                rw [HF.out]
                exact rfl
  · have HF := Lib.hid (kn_false (gr := gr) (dg := dg.data.toList) hgood)
    go_wp2
    all_goals first
      | (exfalso; refine hgood ⟨by assumption, by assumption, by assumption, by assumption, ?_⟩; rename_i hh; simp_all; done)
      | (refine bodyPost_ret (v := .pointer none) ?_ rfl ?_
         focus (simp [results, Tryz.results26, go_sem, *])
         refine ⟨hb03.trans ((Below.refl _ _).setCell (p := ⟨w.heap.size + 1, 1, none⟩) (by simp) _), ?_⟩
         first
           | rw [HF.out]
           | (have hf := HF.out; rw [‹ra = true›, ‹rb = true›] at hf; rw [hf])
         exact rfl)
end Go.Proofs.YtpepgmccbkkaaaaGreatDoor
