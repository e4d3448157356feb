import Derived.Test.YtpepgmccbkkaaaaGreatDoorJ3
import Derived.Test.YtpepgmccbkkaaaaGreatDoorCards
import Derived.Test.YtpepgmccbkkaaaaGreatDoorTie
import Derived.ProofKit
import Derived.OpenShut
import Derived.Deep.DeepHandedRow
import Derived.Deep.DeepWitnessRowRef
import Derived.Lib.LaidU8
import Derived.Lib.LaidIn
import Derived.LaidHandle
import Derived.LaidLaws
import Derived.PinnedBridge
import Derived.Deep.QuietTactic
import Derived.BigQuiet
import Derived.StillTailTactics

/- numfmt.Read: which locales the program takes. -/
namespace Go.Proofs.YtpepgmccbkkaaaaGreatDoor
open Go Go.RowKit
set_option maxRecDepth 10000

set_option maxHeartbeats 4000000 in
theorem read_any (c o : Value) (ra rb : Bool) (mi po gr : Int) (fi ne : Nat) (dg : ByteArray) (Qc Qo : World → Value → Prop) (w : World) (hd : dg.size ≤ 1000000) (hfi : fi ≤ 255) (hne : ne ≤ 255)
    (hc : PReadAt w c ra Qc) (ho : PReadAt w o rb Qo) (hco : (∃ a n k, c = .slice a n k) ∧ ∃ a n k, o = .slice a n k) (hT : Lib.Utf8Tabs 2 3 w) :
    Calls Tryz.prog 26 #[locv c o mi po gr fi ne dg] w (ReadPost ra rb mi po gr fi ne dg.data.toList Qc Qo w) := by
  obtain ⟨⟨ca, cn, ck, rfl⟩, oa, on, ok, rfl⟩ := hco
  have hix0 : ∀ W : World, (Instr.index 85 (.agg #[.int .i32 mi, .int .i32 po, .int .i32 gr]) (.int .i64 0)).run Tryz.prog W = .ok (.int .i32 mi) W := fun W => by kernel_rfl
  have hix1 : ∀ W : World, (Instr.index 85 (.agg #[.int .i32 mi, .int .i32 po, .int .i32 gr]) (.int .i64 1)).run Tryz.prog W = .ok (.int .i32 po) W := fun W => by kernel_rfl
  have hix2 : ∀ W : World, (Instr.index 85 (.agg #[.int .i32 mi, .int .i32 po, .int .i32 gr]) (.int .i64 2)).run Tryz.prog W = .ok (.int .i32 gr) W := fun W => by kernel_rfl
  have HC := Lib.hid hc
  have HO := Lib.hid ho
  clear hc ho
  go_enter Tryz.func26, Tryz.ntmps26
  go_wp2_with fail
  refine calls_gen ?_
  intro W hW
  have hR : RW w.heap.size (.slice ca cn ck) (.slice oa on ok) (.slice none 0 0) (.slice none 0 0) mi po gr fi ne ne dg W := by
    rw [hW]
    refine ⟨?_, ?_⟩
    · rw [Below.heap_alloc _ _ _ (by simp)]
      show (w.heap.push _)[w.heap.size]? = _
      simp
    · show ((w.heap.push _).push _)[w.heap.size + 1]? = _
      exact push_last _ _ _
  have hbW : Below w.heap.size w W := by rw [hW]; exact ((Below.refl _ _).alloc (Nat.le_refl _) _).alloc (by simp) _
  have hzW : w.heap.size + 2 ≤ W.heap.size := by rw [hW]; simp
  clear hW
  have HZW := Lib.hid hzW
  refine (HC.out W hbW).mono ?_
  rintro e W1 ⟨⟨a1, n1, k1, rfl, hQ1⟩, hb1⟩
  have hR1 := hR.below hb1 (by omega)
  have hb01 : Below w.heap.size w W1 := hbW.trans (hb1.mono (by omega))
  have hz1 : w.heap.size + 2 ≤ W1.heap.size := by have := hb1.size; omega
  clear hR hbW hzW hb1
  obtain ⟨g0, g1, g2, g3, g4, g5, g6⟩ := hR1.b
  obtain ⟨a0, a1', a2, a3, a4, a5, a6, a7, a8⟩ := hR1.a
  have HQ1 := Lib.hid hQ1
  clear hQ1
  go_wp2_with fail
  refine calls_gen ?_
  intro W2 hW2
  have hR2 : RW w.heap.size (.slice ca cn ck) (.slice oa on ok) (.slice a1 n1 k1) (.slice none 0 0) mi po gr fi ne ne dg W2 := by rw [hW2]; exact hR1.set0 _
  have hb02 : Below w.heap.size w W2 := by rw [hW2]; exact hb01.setCell (p := ⟨w.heap.size + 1, 0, none⟩) (by simp) _
  have hb12 : Below w.heap.size W1 W2 := by rw [hW2]; exact (Below.refl _ _).setCell (p := ⟨w.heap.size + 1, 0, none⟩) (by simp) _
  have hz2 : w.heap.size + 2 ≤ W2.heap.size := by rw [hW2]; simpa using hz1
  have s12 : Sam w.heap.size W1 W2 := by rw [hW2]; exact (Sam.refl _ _).set _ _ (.inr rfl)
  clear hW2
  refine (HO.out W2 hb02).mono ?_
  rintro e W3 ⟨⟨a9, n9, k9, rfl, hQ3⟩, hb3⟩
  have hR3 := hR2.below hb3 (by omega)
  have hb03 : Below w.heap.size w W3 := hb02.trans (hb3.mono (by omega))
  have hz3 : w.heap.size + 2 ≤ W3.heap.size := by have := hb3.size; omega
  have s13 := s12.trans (Sam.below (b := w.heap.size) hb3)
  clear a0 a1' a2 a3 a4 a5 a6 a7 a8 g0 g1 g2 g3 g4 g5 g6
  obtain ⟨g0, g1, g2, g3, g4, g5, g6⟩ := hR3.b
  obtain ⟨a0, a1', a2, a3, a4, a5, a6, a7, a8⟩ := hR3.a
  have HQ3 := Lib.hid hQ3
  clear hQ3
  by_cases hgood : ra = true ∧ rb = true ∧ max (fi : Int) (ne : Int) ≤ 9 ∧ ¬ mi = 0 ∧ ¬ po = 0
  · obtain ⟨r1, r2, r3, r4, r5⟩ := hgood
    have hmi : (mi == 0) = false := by simpa using r4
    have hpo : (po == 0) = false := by simpa using r5
    go_wp2_with fail
    refine wp_gen ?_
    intro W4 hW4
    have hR4 : RW w.heap.size (.slice ca cn ck) (.slice oa on ok) (.slice a1 n1 k1) (.slice a9 n9 k9) mi po gr fi ne ne dg W4 := by rw [hW4]; exact hR3.set1 _
    have hb04 : Below w.heap.size w W4 := by rw [hW4]; exact hb03.setCell (p := ⟨w.heap.size + 1, 1, none⟩) (by simp) _
    have hb34 : Below (w.heap.size + 1) W3 W4 := by rw [hW4]; exact (Below.refl _ _).setCell (p := ⟨w.heap.size + 1, 1, none⟩) (by simp) _
    have hz4 : w.heap.size + 2 ≤ W4.heap.size := by rw [hW4]; simpa using hz3
    have s34 : Sam w.heap.size W3 W4 := by rw [hW4]; exact (Sam.refl _ _).set _ _ (.inr rfl)
    have HW4 := Lib.hid hW4
    clear hW4
    clear a0 a1' a2 a3 a4 a5 a6 a7 a8 g0 g1 g2 g3 g4 g5 g6
    go_loopw [71] (fun i wr => ∃ k : Nat, k ≤ 3 ∧ i = .int .i64 k ∧ wr = W4 ∧ (0 < k → isPt mi = true) ∧ (1 < k → isPt po = true) ∧ (2 < k → isPt gr = true)) (fun i _ => 3 - (intOf i).toNat)
    case atStart => exact ⟨0, by omega, rfl, rfl, fun h => by omega, fun h => by omega, fun h => by omega⟩
    case round =>
      obtain ⟨k, hk, rfl, hwr, p1, p2, p3⟩ := hrel
      subst hwr
      have hk4 : k = 0 ∨ k = 1 ∨ k = 2 ∨ k = 3 := by omega
      rcases hk4 with hk0 | hk1 | hk2 | hk3
      · subst hk0
        go_wp2_with fail
        refine (Tryz.utf8_ValidRune mi _).mono ?_
        rintro e w' ⟨rfl, rfl⟩
        rw [valid_isPt]
        cases hp : isPt mi
        · have HF := Lib.hid (kn_false2 (ra := ra) (rb := rb) (fi := fi) (ne := ne) (dg := dg.data.toList) (mi := mi) (po := po) (gr := gr) (.inl hp))
          clear hp
          go_wp2
          go_ret
          refine ⟨hb04, ?_⟩
          rw [HF.out]
          exact rfl
        · have HP := Lib.hid hp
          clear hp
          go_wp2
          go_roundw
          case rel => exact ⟨1, by omega, by go_num, by first | rfl | trivial, fun _ => HP.out, fun h => by omega, fun h => by omega⟩
          case measure => simp [intOf]
      · subst hk1
        go_wp2_with fail
        refine (Tryz.utf8_ValidRune po _).mono ?_
        rintro e w' ⟨rfl, rfl⟩
        rw [valid_isPt]
        cases hp : isPt po
        · have HF := Lib.hid (kn_false2 (ra := ra) (rb := rb) (fi := fi) (ne := ne) (dg := dg.data.toList) (mi := mi) (po := po) (gr := gr) (.inr (.inl hp)))
          clear hp
          go_wp2
          go_ret
          refine ⟨hb04, ?_⟩
          rw [HF.out]
          exact rfl
        · have HP := Lib.hid hp
          clear hp
          go_wp2
          go_roundw
          case rel => exact ⟨2, by omega, by go_num, by first | rfl | trivial, fun _ => p1 (by omega), fun _ => HP.out, fun h => by omega⟩
          case measure => simp [intOf]
      · subst hk2
        go_wp2_with fail
        refine (Tryz.utf8_ValidRune gr _).mono ?_
        rintro e w' ⟨rfl, rfl⟩
        rw [valid_isPt]
        cases hp : isPt gr
        · have HF := Lib.hid (kn_false2 (ra := ra) (rb := rb) (fi := fi) (ne := ne) (dg := dg.data.toList) (mi := mi) (po := po) (gr := gr) (.inr (.inr hp)))
          clear hp
          go_wp2
          go_ret
          refine ⟨hb04, ?_⟩
          rw [HF.out]
          exact rfl
        · have HP := Lib.hid hp
          clear hp
          go_wp2
          go_roundw
          case rel => exact ⟨3, by omega, by go_num, by first | rfl | trivial, fun _ => p1 (by omega), fun _ => p2 (by omega), fun _ => HP.out⟩
          case measure => simp [intOf]
      · subst hk3
        -- ARMS
        by_cases n0 : ne = 0
        · have n0' : ((ne : Int) == 0) = true := by simp [n0]
          by_cases d0 : dg.data.toList = []
          · have d0' : dg.toList.isEmpty = true := by rw [toList_eq, d0]; rfl
            obtain ⟨g0, g1, g2, g3, g4, g5, g6⟩ := hR4.b
            obtain ⟨a0, a1', a2, a3, a4, a5, a6, a7, a8⟩ := hR4.a
            go_wp2_with fail
            refine calls_gen ?_
            intro W6 hW6
            have hR6 : RW w.heap.size (.slice ca cn ck) (.slice oa on ok) (.slice a1 n1 k1) (.slice a9 n9 k9) mi po gr fi ne ((fi : Nat) : Int) ⟨#[48, 49, 50, 51, 52, 53, 54, 55, 56, 57]⟩ W6 := by rw [hW6]; exact ((hR4.set6 _).setd _)
            have hb46 : Below w.heap.size wr W6 := by rw [hW6]; (repeat (first | (with_reducible exact Below.refl _ _) | (with_reducible refine Below.setCell ?_ ?_ _; rotate_left; focus (first | (simp; done) | (simp; omega)))))
            have s46 : Sam w.heap.size wr W6 := by rw [hW6]; exact (((Sam.refl _ _).set _ _ (.inr rfl)).set _ _ (.inl rfl))
            have hz6 : w.heap.size + 2 ≤ W6.heap.size := by have := hb46.size; omega
            clear a0 a1' a2 a3 a4 a5 a6 a7 a8 g0 g1 g2 g3 g4 g5 g6 hW6
            have hb06 := hb04.trans hb46
            have hT6 := tabs_later hT hb06
            refine (Tryz.utf8_ValidString ⟨#[48, 49, 50, 51, 52, 53, 54, 55, 56, 57]⟩ W6 (by first | omega | decide) hT6).mono ?_
            rintro e W7 ⟨rfl, hb7⟩
            cases hv : Lib.validD (⟨#[48, 49, 50, 51, 52, 53, 54, 55, 56, 57]⟩ : ByteArray).data.toList
            · exact absurd hv (by decide)
            · have HVL := Lib.hid hv
              clear hv
              have hR7 := hR6.below hb7 (by omega)
              have hb07 : Below w.heap.size w W7 := hb06.trans (hb7.mono (by omega))
              have s37 : Sam w.heap.size W3 W7 := (s34.trans s46).trans (Sam.below hb7)
              have hz7 : w.heap.size + 2 ≤ W7.heap.size := by have := hb7.size; omega
              obtain ⟨a0, a1', a2, a3, a4, a5, a6, a7, a8⟩ := hR7.a
              go_wp2_with fail
              refine (Tryz.utf8_RuneCountInString ⟨#[48, 49, 50, 51, 52, 53, 54, 55, 56, 57]⟩ W7 (by first | omega | decide)).mono ?_
              rintro e W8 ⟨rfl, pos, rfl⟩
              have hpt : (ptsL (⟨#[48, 49, 50, 51, 52, 53, 54, 55, 56, 57]⟩ : ByteArray).data.toList).2 = (⟨#[48, 49, 50, 51, 52, 53, 54, 55, 56, 57]⟩ : ByteArray).data.toList.length := (valid_pts _).1 HVL.out
              have hcp := count_pts ⟨#[48, 49, 50, 51, 52, 53, 54, 55, 56, 57]⟩ (⟨#[48, 49, 50, 51, 52, 53, 54, 55, 56, 57]⟩ : ByteArray).size 0 (by omega) (by omega) (by rw [List.drop_zero, hpt, size_toList]; simp)
              rw [List.drop_zero] at hcp
              rw [show Lib.runeCount ⟨#[48, 49, 50, 51, 52, 53, 54, 55, 56, 57]⟩ = (ptsL (⟨#[48, 49, 50, 51, 52, 53, 54, 55, 56, 57]⟩ : ByteArray).data.toList).1.length from hcp.1]
              have HCP := Lib.hid hcp
              have HPT := Lib.hid hpt
              clear hcp hpt
              obtain ⟨cnt, hcnt⟩ : ∃ n, (ptsL (⟨#[48, 49, 50, 51, 52, 53, 54, 55, 56, 57]⟩ : ByteArray).data.toList).1.length = n := ⟨_, rfl⟩
              rw [hcnt]
              have HCNT := Lib.hid hcnt
              clear hcnt
              by_cases h10 : cnt = 10
              · subst h10
                have hrf : Conv.runesFrom ⟨#[48, 49, 50, 51, 52, 53, 54, 55, 56, 57]⟩ (⟨#[48, 49, 50, 51, 52, 53, 54, 55, 56, 57]⟩ : ByteArray).size 0 #[] = ((runesL (⟨#[48, 49, 50, 51, 52, 53, 54, 55, 56, 57]⟩ : ByteArray).data.toList).map (Value.int .i32)).toArray := by have := HCP.out.2 #[]; simpa using this
                have hrl : (runesL (⟨#[48, 49, 50, 51, 52, 53, 54, 55, 56, 57]⟩ : ByteArray).data.toList).length = 10 := by
                  have := congrArg List.length (runes_enc _ (⟨#[48, 49, 50, 51, 52, 53, 54, 55, 56, 57]⟩ : ByteArray).data.toList (Nat.le_refl _))
                  rw [List.length_map, HCNT.out] at this
                  exact this
                obtain ⟨rs, hrs⟩ : ∃ r : List Int, r = runesL (⟨#[48, 49, 50, 51, 52, 53, 54, 55, 56, 57]⟩ : ByteArray).data.toList := ⟨_, rfl⟩
                rw [← hrs] at hrf hrl
                have hcv : ∀ W : World, (convert 9 86 (.string ⟨#[48, 49, 50, 51, 52, 53, 54, 55, 56, 57]⟩)).run Tryz.prog W = .ok (.slice (some ⟨W.heap.size, 0, none⟩) 10 (grownCap W 10 0 21)) (W.drew.alloc (.cells ((rs.map (Value.int .i32)).toArray ++ Array.replicate (grownCap W 10 0 21 - 10) (.int .i32 0)) 21)) := by
                  intro W
                  have := run_runes_of_string (P := Tryz.prog) W 9 86 21 ⟨#[48, 49, 50, 51, 52, 53, 54, 55, 56, 57]⟩ Tryz.underlying9 Tryz.underlying86 Tryz.underlying21 (by rw [hrf]; simp; omega)
                  rw [hrf] at this
                  simpa [hrl] using this
                have HRF := Lib.hid hrf
                have HRS := Lib.hid hrs
                clear hrf hrs
                go_wp2_with fail
                have hS0 : (W7.iter ⟨#[48, 49, 50, 51, 52, 53, 54, 55, 56, 57]⟩ pos).drew.cell? ⟨w.heap.size, 7, none⟩ = some (.string ⟨#[48, 49, 50, 51, 52, 53, 54, 55, 56, 57]⟩) := by
                  show (W7.alloc _).cell? _ = _
                  rw [World.cell?_alloc_lt _ _ _ (by simp; omega)]
                  exact a7
                refine wp_region_takes (fun W' : World => W'.cell? ⟨w.heap.size, 7, none⟩ = some (.string ⟨#[48, 49, 50, 51, 52, 53, 54, 55, 56, 57]⟩)) [0, 1, 2, 3, 4, 5] 2 (by intro _ _ d _ _ h; cases d <;> exact h) (by kernel_rfl) (by kernel_rfl) hS0 ?_
                (iterate 6 (first | (refine takes_yes (v := ?_) rfl (by rfl) ?_ ?_; rotate_left; (focus ((intro w' hS'; (try dsimp only at hS'); go_simp; try (with_reducible rfl)); done)); (try simp only [Act.put, List.setIfInBounds_toArray, List.set_cons_zero, List.set_cons_succ])) | (refine takes_no rfl (by rfl) ?_; (try simp only [Act.put, List.setIfInBounds_toArray, List.set_cons_zero, List.set_cons_succ]))))
                refine takes_nil ?_
                refine wpAnyH_only 6 (by kernel_rfl) rfl (fun K hK => ?_)
                go_simp
                refine hK.out _ _ ?_ (fun _ => ?_)
                · show ((W7.iter ⟨#[48, 49, 50, 51, 52, 53, 54, 55, 56, 57]⟩ pos).alloc _).cell? _ = _
                  rw [cell_old (by show _ < (W7.alloc _).heap.size; simp; omega)]
                  exact hS0
                clear hK K
                refine wpAnyH_only 7 (by kernel_rfl) rfl (fun K hK => ?_)
                go_simp
                have hVB0 : (((W7.iter ⟨#[48, 49, 50, 51, 52, 53, 54, 55, 56, 57]⟩ pos).alloc (.cells ((rs.map (Value.int .i32)).toArray ++ Array.replicate (grownCap (W7.iter ⟨#[48, 49, 50, 51, 52, 53, 54, 55, 56, 57]⟩ pos).drew 10 0 21 - 10) (.int .i32 0)) 21)).drew.drew).heap[w.heap.size + 1]? = W7.heap[w.heap.size + 1]? := by
                  show ((W7.alloc _).alloc _).heap[w.heap.size + 1]? = _
                  rw [Below.heap_alloc _ _ _ (by simp; omega), Below.heap_alloc _ _ _ (by omega)]
                have hVB := hVB0.trans hR7.hB
                have hcopy := copy_run (W7.iter ⟨#[48, 49, 50, 51, 52, 53, 54, 55, 56, 57]⟩ pos) rs (Array.replicate (grownCap (W7.iter ⟨#[48, 49, 50, 51, 52, 53, 54, 55, 56, 57]⟩ pos).drew 10 0 21 - 10) (.int .i32 0)) (grownCap (W7.iter ⟨#[48, 49, 50, 51, 52, 53, 54, 55, 56, 57]⟩ pos).drew 10 0 21) (w.heap.size + 1) hrl hVB (by simp)
                rw [hcopy]
                simp only [Result.andThen]
                refine hK.out _ _ ?_ (fun _ => ?_)
                · rw [World.cell?_setCells_out _ _ _ _ _ (fun h => absurd h (by simp))]
                  show ((W7.iter ⟨#[48, 49, 50, 51, 52, 53, 54, 55, 56, 57]⟩ pos).alloc _).cell? _ = _
                  rw [cell_old (by show _ < (W7.alloc _).heap.size; simp; omega)]
                  exact hS0
                clear hK K
                refine wpAnyH_done (by kernel_rfl) ?_ _
                go_wp2
                refine bodyPost_ret (v := .pointer (some ⟨w.heap.size + 1, 0, none⟩)) ?_ rfl ?_
                · simp [results, Tryz.results26, go_sem]
                · have HD : (⟨#[48, 49, 50, 51, 52, 53, 54, 55, 56, 57]⟩ : ByteArray).data.toList = digL dg.data.toList := by rw [d0]; rfl
                  have HK := kn_true (fi := fi) (ne := ne) HD r3 r4 r5 (p1 (by omega)) (p2 (by omega)) (p3 (by omega)) HPT.out HCNT.out
                  rw [show ra = true from r1, show rb = true from r2]
                  exact read_fin (nx := fi) hR7 hb07 hz7 hrl (by rw [if_pos n0]) HRS.out HD HK (s13.trans s37) s37 HZW.out hz2 hz1 hz3 HQ1.out HQ3.out
              · exact absurd (HCNT.out.symm.trans ten_count) h10
          · have d0' : dg.toList.isEmpty = false := by rw [toList_eq]; simpa using d0
            obtain ⟨g0, g1, g2, g3, g4, g5, g6⟩ := hR4.b
            obtain ⟨a0, a1', a2, a3, a4, a5, a6, a7, a8⟩ := hR4.a
            go_wp2_with fail
            refine calls_gen ?_
            intro W6 hW6
            have hR6 : RW w.heap.size (.slice ca cn ck) (.slice oa on ok) (.slice a1 n1 k1) (.slice a9 n9 k9) mi po gr fi ne ((fi : Nat) : Int) dg W6 := by rw [hW6]; exact (hR4.set6 _)
            have hb46 : Below w.heap.size wr W6 := by rw [hW6]; (repeat (first | (with_reducible exact Below.refl _ _) | (with_reducible refine Below.setCell ?_ ?_ _; rotate_left; focus (first | (simp; done) | (simp; omega)))))
            have s46 : Sam w.heap.size wr W6 := by rw [hW6]; exact ((Sam.refl _ _).set _ _ (.inr rfl))
            have hz6 : w.heap.size + 2 ≤ W6.heap.size := by have := hb46.size; omega
            clear a0 a1' a2 a3 a4 a5 a6 a7 a8 g0 g1 g2 g3 g4 g5 g6 hW6
            have hb06 := hb04.trans hb46
            have hT6 := tabs_later hT hb06
            refine (Tryz.utf8_ValidString dg W6 (by first | omega | decide) hT6).mono ?_
            rintro e W7 ⟨rfl, hb7⟩
            cases hv : Lib.validD (dg : ByteArray).data.toList
            · have HF := Lib.hid (kn_false3 (ra := ra) (rb := rb) (fi := fi) (ne := ne) (mi := mi) (po := po) (gr := gr) hv)
              clear hv
              go_wp2
              go_ret
              refine ⟨hb06.trans (hb7.mono (by omega)), ?_⟩
              rw [HF.out]
              exact rfl
            · have HVL := Lib.hid hv
              clear hv
              have hR7 := hR6.below hb7 (by omega)
              have hb07 : Below w.heap.size w W7 := hb06.trans (hb7.mono (by omega))
              have s37 : Sam w.heap.size W3 W7 := (s34.trans s46).trans (Sam.below hb7)
              have hz7 : w.heap.size + 2 ≤ W7.heap.size := by have := hb7.size; omega
              obtain ⟨a0, a1', a2, a3, a4, a5, a6, a7, a8⟩ := hR7.a
              go_wp2_with fail
              refine (Tryz.utf8_RuneCountInString dg W7 (by first | omega | decide)).mono ?_
              rintro e W8 ⟨rfl, pos, rfl⟩
              have hpt : (ptsL (dg : ByteArray).data.toList).2 = (dg : ByteArray).data.toList.length := (valid_pts _).1 HVL.out
              have hcp := count_pts dg (dg : ByteArray).size 0 (by omega) (by omega) (by rw [List.drop_zero, hpt, size_toList]; simp)
              rw [List.drop_zero] at hcp
              rw [show Lib.runeCount dg = (ptsL (dg : ByteArray).data.toList).1.length from hcp.1]
              have HCP := Lib.hid hcp
              have HPT := Lib.hid hpt
              clear hcp hpt
              obtain ⟨cnt, hcnt⟩ : ∃ n, (ptsL (dg : ByteArray).data.toList).1.length = n := ⟨_, rfl⟩
              rw [hcnt]
              have HCNT := Lib.hid hcnt
              clear hcnt
              by_cases h10 : cnt = 10
              · subst h10
                have hrf : Conv.runesFrom dg (dg : ByteArray).size 0 #[] = ((runesL (dg : ByteArray).data.toList).map (Value.int .i32)).toArray := by have := HCP.out.2 #[]; simpa using this
                have hrl : (runesL (dg : ByteArray).data.toList).length = 10 := by
                  have := congrArg List.length (runes_enc _ (dg : ByteArray).data.toList (Nat.le_refl _))
                  rw [List.length_map, HCNT.out] at this
                  exact this
                obtain ⟨rs, hrs⟩ : ∃ r : List Int, r = runesL (dg : ByteArray).data.toList := ⟨_, rfl⟩
                rw [← hrs] at hrf hrl
                have hcv : ∀ W : World, (convert 9 86 (.string dg)).run Tryz.prog W = .ok (.slice (some ⟨W.heap.size, 0, none⟩) 10 (grownCap W 10 0 21)) (W.drew.alloc (.cells ((rs.map (Value.int .i32)).toArray ++ Array.replicate (grownCap W 10 0 21 - 10) (.int .i32 0)) 21)) := by
                  intro W
                  have := run_runes_of_string (P := Tryz.prog) W 9 86 21 dg Tryz.underlying9 Tryz.underlying86 Tryz.underlying21 (by rw [hrf]; simp; omega)
                  rw [hrf] at this
                  simpa [hrl] using this
                have HRF := Lib.hid hrf
                have HRS := Lib.hid hrs
                clear hrf hrs
                go_wp2_with fail
                have hS0 : (W7.iter dg pos).drew.cell? ⟨w.heap.size, 7, none⟩ = some (.string dg) := by
                  show (W7.alloc _).cell? _ = _
                  rw [World.cell?_alloc_lt _ _ _ (by simp; omega)]
                  exact a7
                refine wp_region_takes (fun W' : World => W'.cell? ⟨w.heap.size, 7, none⟩ = some (.string dg)) [0, 1, 2, 3, 4, 5] 2 (by intro _ _ d _ _ h; cases d <;> exact h) (by kernel_rfl) (by kernel_rfl) hS0 ?_
                (iterate 6 (first | (refine takes_yes (v := ?_) rfl (by rfl) ?_ ?_; rotate_left; (focus ((intro w' hS'; (try dsimp only at hS'); go_simp; try (with_reducible rfl)); done)); (try simp only [Act.put, List.setIfInBounds_toArray, List.set_cons_zero, List.set_cons_succ])) | (refine takes_no rfl (by rfl) ?_; (try simp only [Act.put, List.setIfInBounds_toArray, List.set_cons_zero, List.set_cons_succ]))))
                refine takes_nil ?_
                refine wpAnyH_only 6 (by kernel_rfl) rfl (fun K hK => ?_)
                go_simp
                refine hK.out _ _ ?_ (fun _ => ?_)
                · show ((W7.iter dg pos).alloc _).cell? _ = _
                  rw [cell_old (by show _ < (W7.alloc _).heap.size; simp; omega)]
                  exact hS0
                clear hK K
                refine wpAnyH_only 7 (by kernel_rfl) rfl (fun K hK => ?_)
                go_simp
                have hVB0 : (((W7.iter dg pos).alloc (.cells ((rs.map (Value.int .i32)).toArray ++ Array.replicate (grownCap (W7.iter dg pos).drew 10 0 21 - 10) (.int .i32 0)) 21)).drew.drew).heap[w.heap.size + 1]? = W7.heap[w.heap.size + 1]? := by
                  show ((W7.alloc _).alloc _).heap[w.heap.size + 1]? = _
                  rw [Below.heap_alloc _ _ _ (by simp; omega), Below.heap_alloc _ _ _ (by omega)]
                have hVB := hVB0.trans hR7.hB
                have hcopy := copy_run (W7.iter dg pos) rs (Array.replicate (grownCap (W7.iter dg pos).drew 10 0 21 - 10) (.int .i32 0)) (grownCap (W7.iter dg pos).drew 10 0 21) (w.heap.size + 1) hrl hVB (by simp)
                rw [hcopy]
                simp only [Result.andThen]
                refine hK.out _ _ ?_ (fun _ => ?_)
                · rw [World.cell?_setCells_out _ _ _ _ _ (fun h => absurd h (by simp))]
                  show ((W7.iter dg pos).alloc _).cell? _ = _
                  rw [cell_old (by show _ < (W7.alloc _).heap.size; simp; omega)]
                  exact hS0
                clear hK K
                refine wpAnyH_done (by kernel_rfl) ?_ _
                go_wp2
                refine bodyPost_ret (v := .pointer (some ⟨w.heap.size + 1, 0, none⟩)) ?_ rfl ?_
                · simp [results, Tryz.results26, go_sem]
                · have HD : (dg : ByteArray).data.toList = digL dg.data.toList := by unfold digL; rw [if_neg d0]
                  have HK := kn_true (fi := fi) (ne := ne) HD r3 r4 r5 (p1 (by omega)) (p2 (by omega)) (p3 (by omega)) HPT.out HCNT.out
                  rw [show ra = true from r1, show rb = true from r2]
                  exact read_fin (nx := fi) hR7 hb07 hz7 hrl (by rw [if_pos n0]) HRS.out HD HK (s13.trans s37) s37 HZW.out hz2 hz1 hz3 HQ1.out HQ3.out
              · have h10' : ((cnt : Int) != 10) = true := by simp; omega
                have HF := Lib.hid (kn_false4 (ra := ra) (rb := rb) (fi := fi) (ne := ne) (mi := mi) (po := po) (gr := gr) d0 (fun h => h10 (HCNT.out.symm.trans h)))
                go_wp2
                go_ret
                refine ⟨hb07.trans (below_iter _ _ _ _ (by omega)), ?_⟩
                rw [HF.out]
                exact rfl
        · have n0' : ((ne : Int) == 0) = false := by simpa using n0
          by_cases d0 : dg.data.toList = []
          · have d0' : dg.toList.isEmpty = true := by rw [toList_eq, d0]; rfl
            obtain ⟨g0, g1, g2, g3, g4, g5, g6⟩ := hR4.b
            obtain ⟨a0, a1', a2, a3, a4, a5, a6, a7, a8⟩ := hR4.a
            go_wp2_with fail
            refine calls_gen ?_
            intro W6 hW6
            have hR6 : RW w.heap.size (.slice ca cn ck) (.slice oa on ok) (.slice a1 n1 k1) (.slice a9 n9 k9) mi po gr fi ne ((ne : Nat) : Int) ⟨#[48, 49, 50, 51, 52, 53, 54, 55, 56, 57]⟩ W6 := by rw [hW6]; exact (hR4.setd _)
            have hb46 : Below w.heap.size wr W6 := by rw [hW6]; (repeat (first | (with_reducible exact Below.refl _ _) | (with_reducible refine Below.setCell ?_ ?_ _; rotate_left; focus (first | (simp; done) | (simp; omega)))))
            have s46 : Sam w.heap.size wr W6 := by rw [hW6]; exact ((Sam.refl _ _).set _ _ (.inl rfl))
            have hz6 : w.heap.size + 2 ≤ W6.heap.size := by have := hb46.size; omega
            clear a0 a1' a2 a3 a4 a5 a6 a7 a8 g0 g1 g2 g3 g4 g5 g6 hW6
            have hb06 := hb04.trans hb46
            have hT6 := tabs_later hT hb06
            refine (Tryz.utf8_ValidString ⟨#[48, 49, 50, 51, 52, 53, 54, 55, 56, 57]⟩ W6 (by first | omega | decide) hT6).mono ?_
            rintro e W7 ⟨rfl, hb7⟩
            cases hv : Lib.validD (⟨#[48, 49, 50, 51, 52, 53, 54, 55, 56, 57]⟩ : ByteArray).data.toList
            · exact absurd hv (by decide)
            · have HVL := Lib.hid hv
              clear hv
              have hR7 := hR6.below hb7 (by omega)
              have hb07 : Below w.heap.size w W7 := hb06.trans (hb7.mono (by omega))
              have s37 : Sam w.heap.size W3 W7 := (s34.trans s46).trans (Sam.below hb7)
              have hz7 : w.heap.size + 2 ≤ W7.heap.size := by have := hb7.size; omega
              obtain ⟨a0, a1', a2, a3, a4, a5, a6, a7, a8⟩ := hR7.a
              go_wp2_with fail
              refine (Tryz.utf8_RuneCountInString ⟨#[48, 49, 50, 51, 52, 53, 54, 55, 56, 57]⟩ W7 (by first | omega | decide)).mono ?_
              rintro e W8 ⟨rfl, pos, rfl⟩
              have hpt : (ptsL (⟨#[48, 49, 50, 51, 52, 53, 54, 55, 56, 57]⟩ : ByteArray).data.toList).2 = (⟨#[48, 49, 50, 51, 52, 53, 54, 55, 56, 57]⟩ : ByteArray).data.toList.length := (valid_pts _).1 HVL.out
              have hcp := count_pts ⟨#[48, 49, 50, 51, 52, 53, 54, 55, 56, 57]⟩ (⟨#[48, 49, 50, 51, 52, 53, 54, 55, 56, 57]⟩ : ByteArray).size 0 (by omega) (by omega) (by rw [List.drop_zero, hpt, size_toList]; simp)
              rw [List.drop_zero] at hcp
              rw [show Lib.runeCount ⟨#[48, 49, 50, 51, 52, 53, 54, 55, 56, 57]⟩ = (ptsL (⟨#[48, 49, 50, 51, 52, 53, 54, 55, 56, 57]⟩ : ByteArray).data.toList).1.length from hcp.1]
              have HCP := Lib.hid hcp
              have HPT := Lib.hid hpt
              clear hcp hpt
              obtain ⟨cnt, hcnt⟩ : ∃ n, (ptsL (⟨#[48, 49, 50, 51, 52, 53, 54, 55, 56, 57]⟩ : ByteArray).data.toList).1.length = n := ⟨_, rfl⟩
              rw [hcnt]
              have HCNT := Lib.hid hcnt
              clear hcnt
              by_cases h10 : cnt = 10
              · subst h10
                have hrf : Conv.runesFrom ⟨#[48, 49, 50, 51, 52, 53, 54, 55, 56, 57]⟩ (⟨#[48, 49, 50, 51, 52, 53, 54, 55, 56, 57]⟩ : ByteArray).size 0 #[] = ((runesL (⟨#[48, 49, 50, 51, 52, 53, 54, 55, 56, 57]⟩ : ByteArray).data.toList).map (Value.int .i32)).toArray := by have := HCP.out.2 #[]; simpa using this
                have hrl : (runesL (⟨#[48, 49, 50, 51, 52, 53, 54, 55, 56, 57]⟩ : ByteArray).data.toList).length = 10 := by
                  have := congrArg List.length (runes_enc _ (⟨#[48, 49, 50, 51, 52, 53, 54, 55, 56, 57]⟩ : ByteArray).data.toList (Nat.le_refl _))
                  rw [List.length_map, HCNT.out] at this
                  exact this
                obtain ⟨rs, hrs⟩ : ∃ r : List Int, r = runesL (⟨#[48, 49, 50, 51, 52, 53, 54, 55, 56, 57]⟩ : ByteArray).data.toList := ⟨_, rfl⟩
                rw [← hrs] at hrf hrl
                have hcv : ∀ W : World, (convert 9 86 (.string ⟨#[48, 49, 50, 51, 52, 53, 54, 55, 56, 57]⟩)).run Tryz.prog W = .ok (.slice (some ⟨W.heap.size, 0, none⟩) 10 (grownCap W 10 0 21)) (W.drew.alloc (.cells ((rs.map (Value.int .i32)).toArray ++ Array.replicate (grownCap W 10 0 21 - 10) (.int .i32 0)) 21)) := by
                  intro W
                  have := run_runes_of_string (P := Tryz.prog) W 9 86 21 ⟨#[48, 49, 50, 51, 52, 53, 54, 55, 56, 57]⟩ Tryz.underlying9 Tryz.underlying86 Tryz.underlying21 (by rw [hrf]; simp; omega)
                  rw [hrf] at this
                  simpa [hrl] using this
                have HRF := Lib.hid hrf
                have HRS := Lib.hid hrs
                clear hrf hrs
                go_wp2_with fail
                have hS0 : (W7.iter ⟨#[48, 49, 50, 51, 52, 53, 54, 55, 56, 57]⟩ pos).drew.cell? ⟨w.heap.size, 7, none⟩ = some (.string ⟨#[48, 49, 50, 51, 52, 53, 54, 55, 56, 57]⟩) := by
                  show (W7.alloc _).cell? _ = _
                  rw [World.cell?_alloc_lt _ _ _ (by simp; omega)]
                  exact a7
                refine wp_region_takes (fun W' : World => W'.cell? ⟨w.heap.size, 7, none⟩ = some (.string ⟨#[48, 49, 50, 51, 52, 53, 54, 55, 56, 57]⟩)) [0, 1, 2, 3, 4, 5] 2 (by intro _ _ d _ _ h; cases d <;> exact h) (by kernel_rfl) (by kernel_rfl) hS0 ?_
                (iterate 6 (first | (refine takes_yes (v := ?_) rfl (by rfl) ?_ ?_; rotate_left; (focus ((intro w' hS'; (try dsimp only at hS'); go_simp; try (with_reducible rfl)); done)); (try simp only [Act.put, List.setIfInBounds_toArray, List.set_cons_zero, List.set_cons_succ])) | (refine takes_no rfl (by rfl) ?_; (try simp only [Act.put, List.setIfInBounds_toArray, List.set_cons_zero, List.set_cons_succ]))))
                refine takes_nil ?_
                refine wpAnyH_only 6 (by kernel_rfl) rfl (fun K hK => ?_)
                go_simp
                refine hK.out _ _ ?_ (fun _ => ?_)
                · show ((W7.iter ⟨#[48, 49, 50, 51, 52, 53, 54, 55, 56, 57]⟩ pos).alloc _).cell? _ = _
                  rw [cell_old (by show _ < (W7.alloc _).heap.size; simp; omega)]
                  exact hS0
                clear hK K
                refine wpAnyH_only 7 (by kernel_rfl) rfl (fun K hK => ?_)
                go_simp
                have hVB0 : (((W7.iter ⟨#[48, 49, 50, 51, 52, 53, 54, 55, 56, 57]⟩ pos).alloc (.cells ((rs.map (Value.int .i32)).toArray ++ Array.replicate (grownCap (W7.iter ⟨#[48, 49, 50, 51, 52, 53, 54, 55, 56, 57]⟩ pos).drew 10 0 21 - 10) (.int .i32 0)) 21)).drew.drew).heap[w.heap.size + 1]? = W7.heap[w.heap.size + 1]? := by
                  show ((W7.alloc _).alloc _).heap[w.heap.size + 1]? = _
                  rw [Below.heap_alloc _ _ _ (by simp; omega), Below.heap_alloc _ _ _ (by omega)]
                have hVB := hVB0.trans hR7.hB
                have hcopy := copy_run (W7.iter ⟨#[48, 49, 50, 51, 52, 53, 54, 55, 56, 57]⟩ pos) rs (Array.replicate (grownCap (W7.iter ⟨#[48, 49, 50, 51, 52, 53, 54, 55, 56, 57]⟩ pos).drew 10 0 21 - 10) (.int .i32 0)) (grownCap (W7.iter ⟨#[48, 49, 50, 51, 52, 53, 54, 55, 56, 57]⟩ pos).drew 10 0 21) (w.heap.size + 1) hrl hVB (by simp)
                rw [hcopy]
                simp only [Result.andThen]
                refine hK.out _ _ ?_ (fun _ => ?_)
                · rw [World.cell?_setCells_out _ _ _ _ _ (fun h => absurd h (by simp))]
                  show ((W7.iter ⟨#[48, 49, 50, 51, 52, 53, 54, 55, 56, 57]⟩ pos).alloc _).cell? _ = _
                  rw [cell_old (by show _ < (W7.alloc _).heap.size; simp; omega)]
                  exact hS0
                clear hK K
                refine wpAnyH_done (by kernel_rfl) ?_ _
                go_wp2
                refine bodyPost_ret (v := .pointer (some ⟨w.heap.size + 1, 0, none⟩)) ?_ rfl ?_
                · simp [results, Tryz.results26, go_sem]
                · have HD : (⟨#[48, 49, 50, 51, 52, 53, 54, 55, 56, 57]⟩ : ByteArray).data.toList = digL dg.data.toList := by rw [d0]; rfl
                  have HK := kn_true (fi := fi) (ne := ne) HD r3 r4 r5 (p1 (by omega)) (p2 (by omega)) (p3 (by omega)) HPT.out HCNT.out
                  rw [show ra = true from r1, show rb = true from r2]
                  exact read_fin (nx := ne) hR7 hb07 hz7 hrl (by rw [if_neg n0]) HRS.out HD HK (s13.trans s37) s37 HZW.out hz2 hz1 hz3 HQ1.out HQ3.out
              · exact absurd (HCNT.out.symm.trans ten_count) h10
          · have d0' : dg.toList.isEmpty = false := by rw [toList_eq]; simpa using d0
            obtain ⟨g0, g1, g2, g3, g4, g5, g6⟩ := hR4.b
            obtain ⟨a0, a1', a2, a3, a4, a5, a6, a7, a8⟩ := hR4.a
            go_wp2_with fail
            refine calls_gen ?_
            intro W6 hW6
            have hR6 : RW w.heap.size (.slice ca cn ck) (.slice oa on ok) (.slice a1 n1 k1) (.slice a9 n9 k9) mi po gr fi ne ((ne : Nat) : Int) dg W6 := by rw [hW6]; exact hR4
            have hb46 : Below w.heap.size wr W6 := by rw [hW6]; (repeat (first | (with_reducible exact Below.refl _ _) | (with_reducible refine Below.setCell ?_ ?_ _; rotate_left; focus (first | (simp; done) | (simp; omega)))))
            have s46 : Sam w.heap.size wr W6 := by rw [hW6]; exact (Sam.refl _ _)
            have hz6 : w.heap.size + 2 ≤ W6.heap.size := by have := hb46.size; omega
            clear a0 a1' a2 a3 a4 a5 a6 a7 a8 g0 g1 g2 g3 g4 g5 g6 hW6
            have hb06 := hb04.trans hb46
            have hT6 := tabs_later hT hb06
            refine (Tryz.utf8_ValidString dg W6 (by first | omega | decide) hT6).mono ?_
            rintro e W7 ⟨rfl, hb7⟩
            cases hv : Lib.validD (dg : ByteArray).data.toList
            · have HF := Lib.hid (kn_false3 (ra := ra) (rb := rb) (fi := fi) (ne := ne) (mi := mi) (po := po) (gr := gr) hv)
              clear hv
              go_wp2
              go_ret
              refine ⟨hb06.trans (hb7.mono (by omega)), ?_⟩
              rw [HF.out]
              exact rfl
            · have HVL := Lib.hid hv
              clear hv
              have hR7 := hR6.below hb7 (by omega)
              have hb07 : Below w.heap.size w W7 := hb06.trans (hb7.mono (by omega))
              have s37 : Sam w.heap.size W3 W7 := (s34.trans s46).trans (Sam.below hb7)
              have hz7 : w.heap.size + 2 ≤ W7.heap.size := by have := hb7.size; omega
              obtain ⟨a0, a1', a2, a3, a4, a5, a6, a7, a8⟩ := hR7.a
              go_wp2_with fail
              refine (Tryz.utf8_RuneCountInString dg W7 (by first | omega | decide)).mono ?_
              rintro e W8 ⟨rfl, pos, rfl⟩
              have hpt : (ptsL (dg : ByteArray).data.toList).2 = (dg : ByteArray).data.toList.length := (valid_pts _).1 HVL.out
              have hcp := count_pts dg (dg : ByteArray).size 0 (by omega) (by omega) (by rw [List.drop_zero, hpt, size_toList]; simp)
              rw [List.drop_zero] at hcp
              rw [show Lib.runeCount dg = (ptsL (dg : ByteArray).data.toList).1.length from hcp.1]
              have HCP := Lib.hid hcp
              have HPT := Lib.hid hpt
              clear hcp hpt
              obtain ⟨cnt, hcnt⟩ : ∃ n, (ptsL (dg : ByteArray).data.toList).1.length = n := ⟨_, rfl⟩
              rw [hcnt]
              have HCNT := Lib.hid hcnt
              clear hcnt
              by_cases h10 : cnt = 10
              · subst h10
                have hrf : Conv.runesFrom dg (dg : ByteArray).size 0 #[] = ((runesL (dg : ByteArray).data.toList).map (Value.int .i32)).toArray := by have := HCP.out.2 #[]; simpa using this
                have hrl : (runesL (dg : ByteArray).data.toList).length = 10 := by
                  have := congrArg List.length (runes_enc _ (dg : ByteArray).data.toList (Nat.le_refl _))
                  rw [List.length_map, HCNT.out] at this
                  exact this
                obtain ⟨rs, hrs⟩ : ∃ r : List Int, r = runesL (dg : ByteArray).data.toList := ⟨_, rfl⟩
                rw [← hrs] at hrf hrl
                have hcv : ∀ W : World, (convert 9 86 (.string dg)).run Tryz.prog W = .ok (.slice (some ⟨W.heap.size, 0, none⟩) 10 (grownCap W 10 0 21)) (W.drew.alloc (.cells ((rs.map (Value.int .i32)).toArray ++ Array.replicate (grownCap W 10 0 21 - 10) (.int .i32 0)) 21)) := by
                  intro W
                  have := run_runes_of_string (P := Tryz.prog) W 9 86 21 dg Tryz.underlying9 Tryz.underlying86 Tryz.underlying21 (by rw [hrf]; simp; omega)
                  rw [hrf] at this
                  simpa [hrl] using this
                have HRF := Lib.hid hrf
                have HRS := Lib.hid hrs
                clear hrf hrs
                go_wp2_with fail
                have hS0 : (W7.iter dg pos).drew.cell? ⟨w.heap.size, 7, none⟩ = some (.string dg) := by
                  show (W7.alloc _).cell? _ = _
                  rw [World.cell?_alloc_lt _ _ _ (by simp; omega)]
                  exact a7
                refine wp_region_takes (fun W' : World => W'.cell? ⟨w.heap.size, 7, none⟩ = some (.string dg)) [0, 1, 2, 3, 4, 5] 2 (by intro _ _ d _ _ h; cases d <;> exact h) (by kernel_rfl) (by kernel_rfl) hS0 ?_
                (iterate 6 (first | (refine takes_yes (v := ?_) rfl (by rfl) ?_ ?_; rotate_left; (focus ((intro w' hS'; (try dsimp only at hS'); go_simp; try (with_reducible rfl)); done)); (try simp only [Act.put, List.setIfInBounds_toArray, List.set_cons_zero, List.set_cons_succ])) | (refine takes_no rfl (by rfl) ?_; (try simp only [Act.put, List.setIfInBounds_toArray, List.set_cons_zero, List.set_cons_succ]))))
                refine takes_nil ?_
                refine wpAnyH_only 6 (by kernel_rfl) rfl (fun K hK => ?_)
                go_simp
                refine hK.out _ _ ?_ (fun _ => ?_)
                · show ((W7.iter dg pos).alloc _).cell? _ = _
                  rw [cell_old (by show _ < (W7.alloc _).heap.size; simp; omega)]
                  exact hS0
                clear hK K
                refine wpAnyH_only 7 (by kernel_rfl) rfl (fun K hK => ?_)
                go_simp
                have hVB0 : (((W7.iter dg pos).alloc (.cells ((rs.map (Value.int .i32)).toArray ++ Array.replicate (grownCap (W7.iter dg pos).drew 10 0 21 - 10) (.int .i32 0)) 21)).drew.drew).heap[w.heap.size + 1]? = W7.heap[w.heap.size + 1]? := by
                  show ((W7.alloc _).alloc _).heap[w.heap.size + 1]? = _
                  rw [Below.heap_alloc _ _ _ (by simp; omega), Below.heap_alloc _ _ _ (by omega)]
                have hVB := hVB0.trans hR7.hB
                have hcopy := copy_run (W7.iter dg pos) rs (Array.replicate (grownCap (W7.iter dg pos).drew 10 0 21 - 10) (.int .i32 0)) (grownCap (W7.iter dg pos).drew 10 0 21) (w.heap.size + 1) hrl hVB (by simp)
                rw [hcopy]
                simp only [Result.andThen]
                refine hK.out _ _ ?_ (fun _ => ?_)
                · rw [World.cell?_setCells_out _ _ _ _ _ (fun h => absurd h (by simp))]
                  show ((W7.iter dg pos).alloc _).cell? _ = _
                  rw [cell_old (by show _ < (W7.alloc _).heap.size; simp; omega)]
                  exact hS0
                clear hK K
                refine wpAnyH_done (by kernel_rfl) ?_ _
                go_wp2
                refine bodyPost_ret (v := .pointer (some ⟨w.heap.size + 1, 0, none⟩)) ?_ rfl ?_
                · simp [results, Tryz.results26, go_sem]
                · have HD : (dg : ByteArray).data.toList = digL dg.data.toList := by unfold digL; rw [if_neg d0]
                  have HK := kn_true (fi := fi) (ne := ne) HD r3 r4 r5 (p1 (by omega)) (p2 (by omega)) (p3 (by omega)) HPT.out HCNT.out
                  rw [show ra = true from r1, show rb = true from r2]
                  exact read_fin (nx := ne) hR7 hb07 hz7 hrl (by rw [if_neg n0]) HRS.out HD HK (s13.trans s37) s37 HZW.out hz2 hz1 hz3 HQ1.out HQ3.out
              · have h10' : ((cnt : Int) != 10) = true := by simp; omega
                have HF := Lib.hid (kn_false4 (ra := ra) (rb := rb) (fi := fi) (ne := ne) (mi := mi) (po := po) (gr := gr) d0 (fun h => h10 (HCNT.out.symm.trans h)))
                go_wp2
                go_ret
                refine ⟨hb07.trans (below_iter _ _ _ _ (by omega)), ?_⟩
                rw [HF.out]
                exact rfl
  · have HF := Lib.hid (kn_false (gr := gr) (dg := dg.data.toList) hgood)
    go_wp2
    all_goals first
      | (exfalso; refine hgood ⟨by assumption, by assumption, by assumption, by assumption, ?_⟩; rename_i hh; simp_all; done)
      | (refine bodyPost_ret (v := .pointer none) ?_ rfl ?_
         focus (simp [results, Tryz.results26, go_sem, *])
         refine ⟨hb03.trans ((Below.refl _ _).setCell (p := ⟨w.heap.size + 1, 1, none⟩) (by simp) _), ?_⟩
         first
           | rw [HF.out]
           | (have hf := HF.out; rw [‹ra = true›, ‹rb = true›] at hf; rw [hf])
         exact rfl)
end Go.Proofs.YtpepgmccbkkaaaaGreatDoor

/- The plain law of numbers: what the program writes is what the document writes. -/
namespace Go.Proofs.YtpepgmccbkkaaaaGreatDoor
open Go Go.RowKit
set_option maxRecDepth 10000

theorem enc_rune (r : Int) (h : isPt r = true) : enc r = Lib.encodeRune r := by
  have h1 : (0 ≤ r ∧ r ≤ 1114111) ∧ (r < 55296 ∨ 57343 < r) := by unfold isPt at h; simp at h; omega
  obtain ⟨⟨ha, hb⟩, hc⟩ := h1
  obtain ⟨n, rfl⟩ : ∃ n : Nat, r = n := ⟨r.toNat, by omega⟩
  have hv : Utf8.valid (n : Int) = true := by unfold Utf8.valid; simp; omega
  have t : ∀ x : Int, ∀ k : Nat, x = (k : Int) → x.toNat.toUInt8 = UInt8.ofNat k := fun x k h => by rw [h]; rfl
  unfold enc Utf8.encode Lib.encodeRune
  simp only [hv, if_true, Int.toNat_natCast]
  by_cases c1 : n < 128
  · rw [if_pos (show n < 0x80 from c1), Lib.encodeRuneZ_one (by omega) (by omega)]
    simp only [List.map_cons, List.map_nil]
    rw [t _ n rfl]
  rw [if_neg (show ¬ n < 0x80 from c1)]
  by_cases c2 : n < 2048
  · rw [if_pos (show n < 0x800 from c2), Lib.encodeRuneZ_two (by omega) (by omega)]
    simp only [List.map_cons, List.map_nil]
    rw [t _ (192 + n / 64) (by omega), t _ (128 + n % 64) (by omega)]
  rw [if_neg (show ¬ n < 0x800 from c2)]
  by_cases c3 : n < 65536
  · rw [if_pos (show n < 0x10000 from c3), Lib.encodeRuneZ_three (by omega)]
    simp only [List.map_cons, List.map_nil]
    rw [t _ (224 + n / 4096) (by omega), t _ (128 + n / 64 % 64) (by omega), t _ (128 + n % 64) (by omega)]
  · rw [if_neg (show ¬ n < 0x10000 from c3), Lib.encodeRuneZ_four (by omega) (by omega)]
    simp only [List.map_cons, List.map_nil]
    rw [t _ (240 + n / 262144) (by omega), t _ (128 + n / 4096 % 64) (by omega), t _ (128 + n / 64 % 64) (by omega), t _ (128 + n % 64) (by omega)]

theorem decN_le (l : List UInt8) : (decN l).1 ≤ 1114111 := by
  have hb := (l.getD 0 0).toNat_lt
  unfold decN Lib.decodeN
  repeat' split
  all_goals (simp only []; omega)

theorem runesL_i32 : ∀ (n : Nat) (l : List UInt8), l.length ≤ n → ∀ x ∈ runesL l, I32 x
  | 0, l, h, x, hx => by
    have : l = [] := List.eq_nil_of_length_eq_zero (by omega)
    subst this
    rw [runesL_nil] at hx; cases hx
  | n + 1, l, h, x, hx => by
    by_cases hl : l = [] ∨ sizeL l = 0
    · rw [runesL, dif_pos hl] at hx; cases hx
    · simp only [not_or] at hl
      rw [runesL_step hl.1 hl.2] at hx
      have hp := List.length_pos_iff.2 hl.1
      rcases List.mem_cons.1 hx with rfl | hx
      · have := decN_le l
        exact ⟨by omega, by omega⟩
      · exact runesL_i32 n _ (by simp; omega) x hx

theorem flat_congr {f g : Nat → List UInt8} : ∀ (l : List Nat), (∀ i ∈ l, f i = g i) → l.flatMap f = l.flatMap g
  | [], _ => rfl
  | a :: l, h => by rw [List.flatMap_cons, List.flatMap_cons, h a (by simp), flat_congr l (fun i hi => h i (by simp [hi]))]

theorem range_head (f : Nat → List UInt8) (g : List UInt8) (n : Nat) (h : 0 < n) : (List.range n).flatMap (fun i => (if i = 0 then g else []) ++ f i) = g ++ (List.range n).flatMap f := by
  match n, h with
  | n + 1, _ =>
    rw [List.range_succ_eq_map, List.flatMap_cons, List.flatMap_cons, List.flatMap_map, List.flatMap_map]
    simp

theorem range_sh (sh : UInt8 → List UInt8) : ∀ w : List UInt8, (List.range w.length).flatMap (fun i => sh (w.getD i 0)) = w.flatMap sh
  | [] => rfl
  | c :: t => by
    rw [List.length_cons, List.range_succ_eq_map, List.flatMap_cons, List.flatMap_map, List.flatMap_cons, ← range_sh sh t]
    rfl

/-- does a group end where so many digits are left? -/
def endB (m nx left : Nat) : Bool := decide (m ≤ left) && (left - m) % nx == 0

theorem endB_back (m nx left : Nat) (h0 : 0 < left) (hn : 0 < nx) : endB m nx (left + m) = endB nx nx left := by
  unfold endB
  rw [Nat.add_sub_cancel]
  by_cases h : nx ≤ left
  · obtain ⟨k, rfl⟩ : ∃ k, left = k + nx := ⟨left - nx, by omega⟩
    simp
  · rw [Nat.mod_eq_of_lt (by omega)]
    have : (left == 0) = false := by simp; omega
    simp [h, this]

theorem grp_eq (sh : UInt8 → List UInt8) (pts : List (List UInt8)) (g : List UInt8) (nx : Nat) (hnx : 0 < nx) (hsh : ∀ w : List UInt8, w.all isDig = true → shownL pts w = w.flatMap sh) :
    ∀ (n : Nat) (w : List UInt8) (m : Nat), w.length ≤ n → 0 < m → w.all isDig = true →
      (List.range w.length).flatMap (fun i => (if 0 < i && endB m nx (w.length - i) then g else []) ++ sh (w.getD i 0)) = grpL pts g nx w m
  | 0, w, m, hn, hm, hd => by
    have : w = [] := List.eq_nil_of_length_eq_zero (by omega)
    subst this
    rw [grpL_end (by simp), hsh _ hd]
    rfl
  | n + 1, w, m, hn, hm, hd => by
    by_cases h : m < w.length
    · have e1 : w = w.take (w.length - m) ++ w.drop (w.length - m) := (List.take_append_drop _ _).symm
      have hA : (w.take (w.length - m)).length = w.length - m := by simp
      have hB : (w.drop (w.length - m)).length = m := by simp; omega
      have dA : (w.take (w.length - m)).all isDig = true := by rw [e1, List.all_append, Bool.and_eq_true] at hd; exact hd.1
      have dB : (w.drop (w.length - m)).all isDig = true := by rw [e1, List.all_append, Bool.and_eq_true] at hd; exact hd.2
      rw [grpL_step ⟨hm, h⟩, ← grp_eq sh pts g nx hnx hsh n _ nx (by omega) hnx dA, hsh _ dB, ← range_sh sh (w.drop _), hA, hB]
      have hlen : w.length = (w.length - m) + m := by omega
      generalize hp : w.length - m = p at *
      have hr : List.range w.length = List.range p ++ (List.range m).map (p + ·) := by rw [hlen, List.range_add]
      rw [hr, List.flatMap_append, List.flatMap_map, List.append_assoc, ← range_head _ g m hm]
      congr 1
      · refine flat_congr _ (fun i hi => ?_)
        have hi := List.mem_range.1 hi
        rw [show w.length - i = (p - i) + m by omega, endB_back m nx (p - i) (by omega) hnx]
        rw [show (w.take p).getD i 0 = w.getD i 0 from by simp [List.getD_eq_getElem?_getD, List.getElem?_take, hi]]
      · refine flat_congr _ (fun i hi => ?_)
        have hi := List.mem_range.1 hi
        rw [show (w.drop p).getD i 0 = w.getD (p + i) 0 from by simp [List.getD_eq_getElem?_getD, List.getElem?_drop]]
        congr 1
        by_cases h0 : i = 0
        · subst h0
          have : endB m nx (w.length - (p + 0)) = true := by
            rw [show w.length - (p + 0) = m by omega]
            simp [endB]
          rw [this, if_pos rfl, if_pos (by simp; omega)]
        · have : endB m nx (w.length - (p + i)) = false := by
            simp [endB]; intro; omega
          rw [this, if_neg h0, if_neg (by simp)]
    · rw [grpL_end (by omega), hsh _ hd, ← range_sh sh w]
      refine flat_congr _ (fun i hi => ?_)
      have hi := List.mem_range.1 hi
      by_cases h0 : 0 < i
      · have : endB m nx (w.length - i) = false := by simp [endB]; intro; omega
        rw [this]; simp
      · simp [h0]

theorem flat_none (sh : UInt8 → List UInt8) (pts : List (List UInt8)) (g : List UInt8) (nx : Nat) (hsh : ∀ w : List UInt8, w.all isDig = true → shownL pts w = w.flatMap sh) (w : List UInt8) (hd : w.all isDig = true) :
    (List.range w.length).flatMap (fun i => sh (w.getD i 0)) = grpL pts g nx w 0 := by
  rw [grpL_end (by simp), hsh _ hd, range_sh]

theorem partB_nat (gr : Int) (fi nx left : Nat) (h1 : ¬ gr = 0) (h2 : 0 < fi) : partB gr (fi : Int) (nx : Int) left = endB fi nx left := by
  have e1 : (gr != 0) = true := by simpa using h1
  unfold partB endB
  rw [e1]
  by_cases h : fi ≤ left
  · have e2 : ((left : Int) - (fi : Int)) = ((left - fi : Nat) : Int) := by omega
    have e3 : (((left - fi : Nat) : Int) % (nx : Int) == 0) = ((left - fi) % nx == 0) := by
      rw [Bool.eq_iff_iff, beq_iff_eq, beq_iff_eq]
      omega
    rw [e2, e3]
    simp [h2, h]
  · simp [h]

theorem ten_pts : (ptsL tenL).1 = tenL.map (fun c => [c]) := by
  have h := runes_enc 10 tenL (by decide)
  rw [← h]
  have e : runesL tenL = [48, 49, 50, 51, 52, 53, 54, 55, 56, 57] := by
    have s : ∀ (a : UInt8) (r : List UInt8) (k : Int), sizeL (a :: r) = 1 → ((decN (a :: r)).1 : Int) = k → runesL (a :: r) = k :: runesL r := by
      intro a r k h1 h2
      rw [runesL_step (by simp) (by omega), h2, h1]
      rfl
    unfold tenL
    rw [s _ _ 48 (by decide) (by decide), s _ _ 49 (by decide) (by decide), s _ _ 50 (by decide) (by decide), s _ _ 51 (by decide) (by decide), s _ _ 52 (by decide) (by decide),
      s _ _ 53 (by decide) (by decide), s _ _ 54 (by decide) (by decide), s _ _ 55 (by decide) (by decide), s _ _ 56 (by decide) (by decide), s _ _ 57 (by decide) (by decide), runesL_nil]
  rw [e]
  decide

/-- a digit as a locale has it -/
def shX (ds : List Int) (c : UInt8) : List UInt8 := Lib.encodeRune (ds.getD (c.toNat - 48) 0)

theorem getD_map {α β : Type} (f : α → β) (l : List α) (k : Nat) (d : α) (e : β) (h : k < l.length) : (l.map f).getD k e = f (l.getD k d) := by
  simp [List.getD_eq_getElem?_getD, h]

theorem dig_range (c : UInt8) (h : isDig c = true) : 48 ≤ c.toNat ∧ c.toNat ≤ 57 := by
  have := (isDig_iff c).1 h
  omega

/-- the digits of a locale, by its points -/
theorem shown_flat (dg : List UInt8) (h : dg = [] ∨ (ptsL dg).1.length = 10) (w : List UInt8) (hw : w.all isDig = true) : shownL (ptsL dg).1 w = w.flatMap (shX (runesL (digL dg))) := by
  by_cases hd : dg = []
  · subst hd
    rw [ptsL_nil]
    show w = _
    have e : ∀ c, isDig c = true → shX (runesL (digL [])) c = [c] := by
      intro c hc
      have hr := dig_range c hc
      unfold shX digL
      rw [if_pos rfl]
      have h1 := runes_enc 10 tenL (by decide)
      rw [ten_pts] at h1
      have hlen : (runesL tenL).length = 10 := by
        have := congrArg List.length h1
        simpa [tenL] using this
      rw [← getD_map Lib.encodeRune (runesL tenL) (c.toNat - 48) 0 [] (by omega), h1]
      obtain ⟨k, hk⟩ : ∃ k, k = c.toNat - 48 := ⟨_, rfl⟩
      have hc2 : c = UInt8.ofNat (48 + k) := by rw [hk, show 48 + (c.toNat - 48) = c.toNat by omega]; simp
      rw [← hk, hc2]
      have hk9 : k < 10 := by omega
      clear hc2 hk hr hc h1 hlen
      match k, hk9 with
      | 0, _ => rfl
      | 1, _ => rfl
      | 2, _ => rfl
      | 3, _ => rfl
      | 4, _ => rfl
      | 5, _ => rfl
      | 6, _ => rfl
      | 7, _ => rfl
      | 8, _ => rfl
      | 9, _ => rfl
    induction w with
    | nil => rfl
    | cons c t ih =>
      simp only [List.all_cons, Bool.and_eq_true] at hw
      rw [List.flatMap_cons, e c hw.1, ← ih hw.2]
      rfl
  · have hl : (ptsL dg).1.length = 10 := h.resolve_left hd
    have hne : (ptsL dg).1 ≠ [] := fun q => by rw [q] at hl; cases hl
    unfold shownL
    rw [if_neg hne]
    have h1 := runes_enc dg.length dg (Nat.le_refl _)
    have hlen : (runesL dg).length = 10 := by
      have := congrArg List.length h1
      simpa [hl] using this
    induction w with
    | nil => rfl
    | cons c t ih =>
      simp only [List.all_cons, Bool.and_eq_true] at hw
      have hr := dig_range c hw.1
      rw [List.flatMap_cons, List.flatMap_cons, ih hw.2]
      congr 1
      unfold shX digL
      rw [if_neg hd, ← getD_map Lib.encodeRune (runesL dg) (c.toNat - 48) 0 [] (by omega), h1]

theorem digX_vals (ds : List Int) (w : List UInt8) (i : Nat) (h : i < w.length) : digX ds (vals w) i = shX ds (w.getD i 0) := by
  unfold digX shX vals
  rw [getD_map (fun c : UInt8 => (c.toNat : Int) - 48) w i 0 0 h]
  congr 2
  omega

/-- what the program writes is what the document writes -/
theorem write_law (neg : Bool) (wh fr : List UInt8) (mi po gr : Int) (fi ne : Nat) (dg : List UInt8) (hd : dg = [] ∨ (ptsL dg).1.length = 10) (p1 : isPt mi = true) (p2 : isPt po = true) (p3 : isPt gr = true)
    (h1 : wh.all isDig = true) (h2 : fr.all isDig = true) :
    writeX neg (vals (wh ++ fr)) fr.length mi po gr fi (if ne = 0 then fi else ne) (runesL (digL dg)) = writtenL neg wh fr (ptsL dg).1 mi po gr fi ne := by
  obtain ⟨nx, hnx⟩ : ∃ nx, nx = if ne = 0 then fi else ne := ⟨_, rfl⟩
  have hl : (vals (wh ++ fr)).length - fr.length = wh.length := by simp [vals]
  have ht : (vals (wh ++ fr)).take wh.length = vals wh := by simp [vals]
  have hdr : (vals (wh ++ fr)).drop wh.length = vals fr := by simp [vals]
  unfold writeX writtenL
  rw [hl, ht, hdr, ← hnx, enc_rune mi p1, enc_rune po p2, enc_rune gr p3]
  have hsh := shown_flat dg hd
  generalize runesL (digL dg) = ds at *
  congr 1
  · congr 1
    unfold intX
    by_cases hg : gr = 0 ∨ fi = 0
    · have e : (if gr = 0 then 0 else fi) = 0 := by rcases hg with h | h <;> simp [h]
      rw [e, ← flat_none (shX ds) (ptsL dg).1 (Lib.encodeRune gr) nx hsh wh h1]
      refine flat_congr _ (fun i hi => ?_)
      have hi := List.mem_range.1 hi
      rw [digX_vals ds wh i hi]
      have : partB gr (fi : Int) (nx : Int) ((vals wh).length - i) = false := by
        unfold partB
        rcases hg with h | h <;> simp [h]
      rw [this]; simp
    · simp only [not_or] at hg
      rw [if_neg hg.1]
      have hfi : 0 < fi := by omega
      have hnx0 : 0 < nx := by rw [hnx]; split <;> omega
      rw [← grp_eq (shX ds) (ptsL dg).1 (Lib.encodeRune gr) nx hnx0 hsh wh.length wh fi (Nat.le_refl _) hfi h1]
      refine flat_congr _ (fun i hi => ?_)
      have hi := List.mem_range.1 hi
      rw [digX_vals ds wh i hi, partB_nat gr fi nx _ hg.1 hfi]
      simp [vals]
  · unfold fracX
    by_cases hf : fr = []
    · subst hf; simp
    · rw [if_neg hf, hsh fr h2, ← range_sh (shX ds) fr, ← range_head _ _ _ (List.length_pos_iff.2 hf)]
      refine flat_congr _ (fun i hi => ?_)
      have hi := List.mem_range.1 hi
      rw [digX_vals ds fr i hi]
      congr 1
      by_cases h0 : i = 0 <;> simp [h0]
end Go.Proofs.YtpepgmccbkkaaaaGreatDoor

/- phrases.Number and plain.Number: a number as a locale writes it. -/
namespace Go.Proofs.YtpepgmccbkkaaaaGreatDoor
open Go Go.RowKit
set_option maxRecDepth 10000

theorem PReadAt.later {w w1 : World} {c : Value} {r : Bool} {Q : World → Value → Prop} (h : PReadAt w c r Q) (hb : Below w.heap.size w w1) : PReadAt w1 c r Q := by
  intro W hW
  refine (h W (hb.trans (hW.mono hb.size))).mono ?_
  rintro e W2 ⟨⟨a, n, k, he, hQ⟩, hb2⟩
  exact ⟨⟨a, n, k, he, fun W3 h3 => hQ W3 ⟨h3.1, fun j hj => h3.2 j (hj.imp (fun q => Nat.lt_of_lt_of_le q hb.size) id)⟩⟩, hb2⟩

/-- what a number's text is in a locale; its error -/
def textL (kn : Bool) (l : List UInt8) (mi po gr : Int) (fi ne : Nat) (dg : List UInt8) : List UInt8 :=
  if kn && isNumL l then writtenL (negL l) (wholeL l) (fracL l) (ptsL dg).1 mi po gr fi ne else []
def codeL (kn : Bool) (l : List UInt8) : Int := if kn then if isNumL l then 0 else 10 else 8

theorem own_row {w : World} {base size n : Nat} {e : TypeId} {v : Value} {xs : List Value} (h : w.ownsRow base e size v n xs) (hn : 0 < n) :
    ∃ g cap, v = .slice (some ⟨g, 0, none⟩) n cap ∧ base ≤ g ∧ g < w.heap.size ∧ n ≤ cap ∧ ∀ j, j < n * size → w.cell? ⟨g, j, none⟩ = xs[j]? := by
  have hlt := h.lt
  rcases h.2 with ⟨_, h0⟩ | ⟨g, cap, cur, hv, hg, hh, h1, _, _, ht⟩
  · omega
  · subst hv
    exact ⟨g, cap, rfl, hg, (hlt g rfl).2, h1, fun j hj => h.cellAt j hj⟩

theorem vals_dig (l : List UInt8) (h : l.all isDig = true) : ∀ x ∈ vals l, 0 ≤ x ∧ x ≤ 9 := by
  intro x hx
  obtain ⟨c, hc, rfl⟩ := List.mem_map.1 hx
  have := dig_range c (List.all_eq_true.1 h c hc)
  omega

theorem num_parts {l : List UInt8} (h : isNumL l = true) : (wholeL l).all isDig = true ∧ (fracL l).all isDig = true ∧ 0 < (wholeL l).length ∧ (wholeL l).length + (fracL l).length ≤ 30 := by
  simp only [isNumL, formL, Bool.and_eq_true, Bool.or_eq_true, decide_eq_true_eq] at h
  have hw := h.1.1.1.1
  have hf := h.1.1.1.2
  simp only [numeralsL, Bool.and_eq_true] at hw
  refine ⟨hw.1, ?_, ?_, h.1.1.2⟩
  · rcases hf with hf | hf
    · have hp : ¬ (absL l).idxOf 46 < (absL l).length := by simpa [pointL] using hf
      have : fracL l = [] := by unfold fracL; exact List.drop_of_length_le (by omega)
      rw [this]; rfl
    · simp only [numeralsL, Bool.and_eq_true] at hf
      exact hf.1
  · have := hw.2
    cases hl : wholeL l with
    | nil => rw [hl] at this; cases this
    | cons a b => simp

theorem known_parts {ra rb : Bool} {mi po gr : Int} {fi ne : Nat} {dg : List UInt8} (h : knownL ra rb mi po gr fi ne dg = true) :
    isPt mi = true ∧ isPt po = true ∧ isPt gr = true ∧ (dg = [] ∨ (ptsL dg).1.length = 10) ∧ fi ≤ 9 ∧ ne ≤ 9 := by
  simp only [knownL, Bool.and_eq_true, Bool.or_eq_true, decide_eq_true_eq] at h
  refine ⟨h.2.2.1, h.2.2.2.1, h.2.2.2.2.1, ?_, by omega, by omega⟩
  rcases h.2.2.2.2.2.2.2.2.1 with h1 | h1
  · exact .inl (List.eq_nil_of_length_eq_zero (by omega))
  · refine .inr ?_
    simp at h1
    omega

theorem pt_i32 {r : Int} (h : isPt r = true) : I32 r := by
  have h1 : (0 ≤ r ∧ r ≤ 1114111) ∧ (r < 55296 ∨ 57343 < r) := by unfold isPt at h; simp at h; omega
  exact ⟨by omega, by omega⟩

/-- Write, of a number that was read, in a locale that was read -/
theorem write_read (g : Nat) (v : Value) (l : List UInt8) (mi po gr : Int) (fi ne : Nat) (dg : List UInt8) (w : World) (B : Nat) (ra rb : Bool)
    (hk : knownL ra rb mi po gr fi ne dg = true) (hn : isNumL l = true) (hX : LocX w g mi po gr fi ((if ne = 0 then fi else ne : Nat) : Int) (runesL (digL dg))) (hg : g < w.heap.size)
    (ho : w.ownsRow B 5 1 v ((wholeL l).length + (fracL l).length) (digs (wholeL l ++ fracL l))) :
    Calls Tryz.prog 28 #[.pointer (some ⟨g, 0, none⟩), .agg #[.bool (negL l), v, .int .i64 ((fracL l).length : Int)]] w fun e w' =>
      e = .returned (strv (writtenL (negL l) (wholeL l) (fracL l) (ptsL dg).1 mi po gr fi ne)) ∧ Below w.heap.size w w' := by
  obtain ⟨p1, p2, p3, hd, f1, f2⟩ := known_parts hk
  obtain ⟨d1, d2, hw, h30⟩ := num_parts hn
  obtain ⟨gd, cap, rfl, _, hgd, hcap, hc⟩ := own_row ho (by omega)
  rw [← write_law (negL l) (wholeL l) (fracL l) mi po gr fi ne dg hd p1 p2 p3 d1 d2]
  have hall : (wholeL l ++ fracL l).all isDig = true := by rw [List.all_append, d1, d2]; rfl
  refine write_any g gd cap (fracL l).length _ (negL l) (vals (wholeL l ++ fracL l)) mi po gr fi (if ne = 0 then fi else ne) (runesL (digL dg)) w hX hg ?_ hgd (by simp [vals]) (by omega) hcap (by omega)
    (vals_dig _ hall) ⟨pt_i32 p1, pt_i32 p2, pt_i32 p3, fun x hx => runesL_i32 _ _ (Nat.le_refl _) x hx⟩ (by omega) (by intro h; split <;> omega) (by split <;> omega)
  intro j hj
  refine ⟨_, rfl, ?_⟩
  have hj2 : j < (wholeL l ++ fracL l).length := by simpa [vals] using hj
  rw [addr_add0, hc j (by simp at hj2; omega)]
  have hj3 : j < (vals (wholeL l ++ fracL l)).length := hj
  simp only [digs, vals, List.getElem?_map, List.getElem_map]
  rw [List.getElem?_eq_getElem hj2]
  rfl

def NumberPost (t : List UInt8) (v : Value) (w : World) (e : Ending) (w' : World) : Prop := e = .returned (.tuple #[strv t, v]) ∧ Below w.heap.size w w'

/-- the heads of Go's tables that lie in the heap -/
structure Tabs (w : World) : Prop where
  utf8 : Lib.Utf8Tabs 2 3 w
  err : ErrT w

theorem Tabs.below {w w' : World} (h : Tabs w) (hb : Below w.heap.size w w') : Tabs w' := ⟨tabs_later h.utf8 hb, h.err.below hb⟩

set_option maxHeartbeats 2000000 in
theorem lnumber_any (s : ByteArray) (c o : Value) (ra rb : Bool) (mi po gr : Int) (fi ne : Nat) (dg : ByteArray) (Qc Qo : World → Value → Prop) (w : World) (hs : s.size ≤ 1000000) (hd : dg.size ≤ 1000000) (hfi : fi ≤ 255) (hne : ne ≤ 255)
    (hc : PReadAt w c ra Qc) (ho : PReadAt w o rb Qo) (hco : (∃ a n k, c = .slice a n k) ∧ ∃ a n k, o = .slice a n k) (hT : Tabs w) :
    Calls Tryz.prog 17 #[.string s, locv c o mi po gr fi ne dg] w
      (NumberPost (textL (knownL ra rb mi po gr fi ne dg.data.toList) s.data.toList mi po gr fi ne dg.data.toList) (errV (codeL (knownL ra rb mi po gr fi ne dg.data.toList) s.data.toList)) w) := by
  have HC := Lib.hid hc
  have HO := Lib.hid ho
  have HCO := Lib.hid hco
  have HT := Lib.hid hT
  clear hc ho hco hT
  go_enter Tryz.func17, Tryz.ntmps17
  go_wp2_with fail
  refine calls_gen ?_
  intro W hW
  have hb : Below w.heap.size w W := by rw [hW]; exact (Below.refl _ _).alloc (Nat.le_refl _) _
  clear hW
  refine (read_any c o ra rb mi po gr fi ne dg Qc Qo W hd hfi hne (HC.out.later hb) (HO.out.later hb) HCO.out (HT.out.below hb).utf8).mono ?_
  rintro e w1 ⟨hb1, hres⟩
  have hb01 : Below w.heap.size w w1 := hb.trans (hb1.mono hb.size)
  cases hk : knownL ra rb mi po gr fi ne dg.data.toList
  · rw [hk, if_neg (by simp)] at hres
    subst hres
    have ht : textL (knownL ra rb mi po gr fi ne dg.data.toList) s.data.toList mi po gr fi ne dg.data.toList = [] := by rw [hk]; rfl
    have hcd : codeL (knownL ra rb mi po gr fi ne dg.data.toList) s.data.toList = 8 := by rw [hk]; rfl
    have HTX := Lib.hid ht
    have HCD := Lib.hid hcd
    clear ht hcd hk hb hb1
    go_wp2
    go_ret2
    refine ⟨?_, hb01⟩
    rw [HTX.out, HCD.out]
    rfl
  · rw [hk, if_pos rfl] at hres
    obtain ⟨g, cv, ov, rfl, hg0, hg1, hX, -⟩ := hres
    have HX := Lib.hid hX
    have HK := Lib.hid hk
    clear hX hk
    go_wp2_with fail
    refine (parse_any s _ hs).mono ?_
    rintro e w2 ⟨b, v, k, rfl, ⟨va, vn, vk, rfl⟩, hb2, hres⟩
    have hb02 := hb01.trans (hb2.mono hb01.size)
    have hX2 := HX.out.below hb2 hg1
    have hg2 : g < w2.heap.size := Nat.lt_of_lt_of_le hg1 hb2.size
    cases hn : isNumL s.data.toList
    · have ht : textL (knownL ra rb mi po gr fi ne dg.data.toList) s.data.toList mi po gr fi ne dg.data.toList = [] := by unfold textL; rw [HK.out, hn]; rfl
      have hcd : codeL (knownL ra rb mi po gr fi ne dg.data.toList) s.data.toList = 10 := by unfold codeL; rw [HK.out, hn]; rfl
      have HTX := Lib.hid ht
      have HCD := Lib.hid hcd
      clear ht hcd hn hres hb2 hb hb1 hX2
      go_wp2
      go_ret2
      refine ⟨?_, hb02.alloc (hb02.size) _⟩
      rw [HTX.out, HCD.out]
      rfl
    · have ht : textL (knownL ra rb mi po gr fi ne dg.data.toList) s.data.toList mi po gr fi ne dg.data.toList = writtenL (negL s.data.toList) (wholeL s.data.toList) (fracL s.data.toList) (ptsL dg.data.toList).1 mi po gr fi ne := by unfold textL; rw [HK.out, hn]; rfl
      have hcd : codeL (knownL ra rb mi po gr fi ne dg.data.toList) s.data.toList = 0 := by unfold codeL; rw [HK.out, hn]; rfl
      have HTX := Lib.hid ht
      have HCD := Lib.hid hcd
      obtain ⟨rfl, rfl, hown⟩ := hres hn
      have HN := Lib.hid hn
      have HO2 := Lib.hid hown
      have HX2 := Lib.hid hX2
      clear ht hcd hn hres hb hb1 hX2 hown
      go_wp2_with fail
      refine calls_gen ?_
      intro W3 hW3
      have hb23 : Below w2.heap.size w2 W3 := by rw [hW3]; exact (Below.refl _ _).alloc (Nat.le_refl _) _
      clear hW3
      refine (write_read g (.slice va vn vk) s.data.toList mi po gr fi ne dg.data.toList W3 _ ra rb HK.out HN.out (HX2.out.below hb23 hg2) (Nat.lt_of_lt_of_le hg2 hb23.size) (own_below HO2.out hb23)).mono ?_
      rintro e w4 ⟨rfl, hb34⟩
      have hb04 := (hb02.trans (hb23.mono hb02.size)).trans (hb34.mono (Nat.le_trans hb02.size hb23.size))
      clear hb23 hb34 hb02 hb2
      go_wp2
      go_ret2
      refine ⟨?_, hb04⟩
      rw [HTX.out, HCD.out]
      rfl

set_option maxHeartbeats 2000000 in
theorem pnumber_any (s : ByteArray) (c o : Value) (ra rb : Bool) (mi po gr : Int) (fi ne : Nat) (dg : ByteArray) (Qc Qo : World → Value → Prop) (w : World) (hs : s.size ≤ 1000000) (hd : dg.size ≤ 1000000) (hfi : fi ≤ 255) (hne : ne ≤ 255)
    (hc : PReadAt w c ra Qc) (ho : PReadAt w o rb Qo) (hco : (∃ a n k, c = .slice a n k) ∧ ∃ a n k, o = .slice a n k) (hT : Tabs w) :
    Calls Tryz.prog 8 #[.string s, locv c o mi po gr fi ne dg] w
      (NumberPost (textL (knownL ra rb mi po gr fi ne dg.data.toList) s.data.toList mi po gr fi ne dg.data.toList) (.int .i64 (codeL (knownL ra rb mi po gr fi ne dg.data.toList) s.data.toList)) w) := by
  have hcall := fun W h1 h2 h3 => lnumber_any s c o ra rb mi po gr fi ne dg Qc Qo W hs hd hfi hne h1 h2 hco h3
  generalize textL (knownL ra rb mi po gr fi ne dg.data.toList) s.data.toList mi po gr fi ne dg.data.toList = tx at *
  generalize codeL (knownL ra rb mi po gr fi ne dg.data.toList) s.data.toList = cd at *
  have HCALL := Lib.hid hcall
  clear hcall
  have HC := Lib.hid hc
  have HO := Lib.hid ho
  have HCO := Lib.hid hco
  have HT := Lib.hid hT
  clear hc ho hco hT
  go_enter Tryz.func8, Tryz.ntmps8
  go_wp2_with fail
  refine calls_gen ?_
  intro W hW
  have hb : Below w.heap.size w W := by rw [hW]; exact (Below.refl _ _).alloc (Nat.le_refl _) _
  clear hW
  refine (HCALL.out W (HC.out.later hb) (HO.out.later hb) (HT.out.below hb)).mono ?_
  rintro e w1 ⟨rfl, hb1⟩
  have hb01 : Below w.heap.size w w1 := hb.trans (hb1.mono hb.size)
  clear hb hb1
  go_wp2_with fail
  refine (tell_e cd _ (HT.out.below hb01).err).mono ?_
  rintro e w2 ⟨rfl, hb2⟩
  have hb02 := hb01.trans (hb2.mono hb01.size)
  clear hb2 hb01
  go_wp2
  go_ret2
  exact ⟨rfl, hb02⟩
end Go.Proofs.YtpepgmccbkkaaaaGreatDoor

/- What the rows' lists of package-level variables give: the tables' cells; a world that holds them (for the witness). -/
namespace Go.Proofs.YtpepgmccbkkaaaaGreatDoor
open Go.ChangeShapes Go.WideShapes Go.ChangeAt Go.RowKit Go.Lib

theorem own : ownKnob Tryz.prog.godebug = none := by kernel_rfl
theorem etG : Tryz.prog.globalNamed "errors.errorType" = some 0 := by kernel_rfl
theorem rtT : (Tryz.prog.cutTypes.find? (·.1 == "internal/reflectlite.rtype")).map (·.2) = some 132 := by kernel_rfl
theorem errRow : ((List.range Tryz.prog.types.size).filter fun t => Tryz.prog.rowNamed t [101, 114, 114, 111, 114]) = [48] := by kernel_rfl

/-- what all rows of this seat list -/
abbrev listed : List (String × DataW Unit) := Rows.numbersRow.laid
/-- the list without the handle -/
abbrev laidL : List (String × DataW Unit) := listed.filter fun x => x.2.handleName?.isNone

theorem met_parts {W : World} (h : laidMetH Tryz.prog listed W) : laidMet Tryz.prog laidL W ∧ handlesMet Tryz.prog [("errors.errorType", Rows.laid_errors_errorType)] W := h

theorem errT_of {W : World} (h : laidMetH Tryz.prog listed W) : ErrT W := by
  obtain ⟨name, u, ty, e1, e2, e3, e4, e5⟩ := (met_parts h).2 _ (List.mem_singleton.2 rfl)
  have en : name = [101, 114, 114, 111, 114] := (Option.some.inj e1).symm
  subst en
  obtain rfl := Option.some.inj (rtT.symm.trans e2)
  have hm : ty ∈ (List.range Tryz.prog.types.size).filter fun t => Tryz.prog.rowNamed t [101, 114, 114, 111, 114] := List.mem_filter.2 ⟨List.mem_range.2 e3, e4⟩
  rw [errRow] at hm
  obtain rfl := List.mem_singleton.1 hm
  have hh : typeHandle Tryz.prog 48 = hdl 48 := by kernel_rfl
  rw [hh] at e5
  unfold ErrT
  simpa using World.var?_cell etG e5 0

theorem mem_first : ("unicode/utf8.first", Rows.laid_unicode_utf8_first) ∈ laidL := List.mem_filter.2 ⟨.tail _ (.tail _ (.tail _ (.tail _ (.tail _ (.tail _ (.tail _ (.tail _ (.head _)))))))), by kernel_rfl⟩
theorem mem_accept : ("unicode/utf8.acceptRanges", Rows.laid_unicode_utf8_acceptRanges) ∈ laidL := List.mem_filter.2 ⟨.tail _ (.tail _ (.tail _ (.head _))), by kernel_rfl⟩
theorem first_eq : Rows.laid_unicode_utf8_first = firstData := Pinned.utf8First_eq
theorem accept_eq : (Rows.laid_unicode_utf8_acceptRanges : DataW Unit) = acceptData := by kernel_rfl
theorem gFirst : Tryz.prog.globalNamed "unicode/utf8.first" = some 2 := by kernel_rfl
theorem gFirstT : (Tryz.prog.globals[2]?).map (·.type) = some 122 := by kernel_rfl
theorem gAccept : Tryz.prog.globalNamed "unicode/utf8.acceptRanges" = some 3 := by kernel_rfl
theorem gAcceptT : (Tryz.prog.globals[3]?).map (·.type) = some 125 := by kernel_rfl
theorem cU8 : Tryz.prog.cellsOf 5 = 1 := by kernel_rfl
theorem cFirst : Tryz.prog.cellsOf 122 = 256 := by kernel_rfl
theorem cRange : Tryz.prog.cellsOf 124 = 2 := by kernel_rfl

theorem utf8_of {W : World} (h : laidMetH Tryz.prog listed W) : Lib.Utf8Tabs 2 3 W := by
  have hm := (met_parts h).1
  have h3 := Lib.laidMet.reads hm mem_first
  rw [first_eq] at h3
  have h4 := Lib.laidMet.reads hm mem_accept
  rw [accept_eq] at h4
  constructor
  · intro c hc
    obtain ⟨g, t, cs, fuel, p, hg, hty, hvar, hd⟩ := h3
    obtain rfl := Option.some.inj (gFirst.symm.trans hg)
    obtain rfl := Option.some.inj (gFirstT.symm.trans hty)
    have hcs := cells_of_tab Tryz.underlying122 Tryz.underlying5 cU8 cFirst hd
    rw [World.var?_cell hg hvar c, ← Array.getElem?_toList, hcs]
    simp [firstTab, hc]
  · intro i hi
    obtain ⟨g, t, cs, fuel, p, hg, hty, hvar, hd⟩ := h4
    obtain rfl := Option.some.inj (gAccept.symm.trans hg)
    obtain rfl := Option.some.inj (gAcceptT.symm.trans hty)
    obtain ⟨fuel2, d, q, hdi, he⟩ := array_elem Tryz.underlying125 hd i hi
    simp only [List.getElem?_map, List.getElem?_range hi, Option.map_some, Option.some.injEq] at hdi
    subst hdi
    rw [cRange] at he
    have hcs := ints_of_struct Tryz.underlying124 (fun j f hj => by
      match j, hj with
      | 0, hj => simp at hj; subst hj; exact ⟨Tryz.underlying5, rfl, cU8⟩
      | 1, hj => simp at hj; subst hj; exact ⟨Tryz.underlying5, rfl, cU8⟩
      | j + 2, hj => simp at hj) (by rw [cRange]; rfl) he
    have e0 := congrArg (·[0]?) hcs
    have e1 := congrArg (·[1]?) hcs
    simp only [List.getElem?_take, List.getElem?_drop] at e0 e1
    refine ⟨?_, ?_⟩
    · rw [World.var?_cell hg hvar (2 * i), ← Array.getElem?_toList]
      simpa [Nat.mul_comm] using e0
    · rw [World.var?_cell hg hvar (2 * i + 1), ← Array.getElem?_toList]
      simpa [Nat.mul_comm] using e1

theorem tabs_of {W : World} (h : laidMetH Tryz.prog listed W) : Tabs W := ⟨utf8_of h, errT_of h⟩

/-- a datum's cells -/
def flatD : Nat → DataW Unit → List Value
  | 0, _ => []
  | _ + 1, .lit (.int k z) => [.int k z]
  | _ + 1, .lit (.string b) => [.string ⟨b.toArray⟩]
  | n + 1, .agg parts => parts.flatMap (flatD n)
  | _, _ => []

/-- A world for the witness: the settled one, each listed variable holding what its initialiser lays, and the two sentinels' own blocks. -/
noncomputable def laidWorld (os : Os) : World :=
  let N := (World.settled Tryz.prog os).heap.size
  let w0 := World.holding Tryz.prog os ⟨#[.cells #[.string ⟨#[118, 97, 108, 117, 101, 32, 111, 117, 116, 32, 111, 102, 32, 114, 97, 110, 103, 101]⟩] 226, .cells #[.string ⟨#[105, 110, 118, 97, 108, 105, 100, 32, 115, 121, 110, 116, 97, 120]⟩] 226], #[], []⟩
  let put (h : Array Obj) (g : Nat) (cs : List Value) : Array Obj := h.modify g fun
    | .cells _ t frozen => .cells cs.toArray t frozen
    | o => o
  let h1 := put w0.heap 0 [.iface 132 (.agg #[hdl 48])]
  let h2 := put h1 1 (flatD 3 Rows.laid_phrases_plural_Names)
  let h3 := put h2 2 (flatD 3 Rows.laid_unicode_utf8_first)
  let h4 := put h3 3 (flatD 3 Rows.laid_unicode_utf8_acceptRanges)
  let h5 := put h4 6 [.iface 224 (.pointer (some ⟨N, 0, none⟩))]
  let h6 := put h5 5 [.iface 224 (.pointer (some ⟨N + 1, 0, none⟩))]
  let h7 := put h6 7 (flatD 3 Rows.laid_internal_strconv_uint64pow10)
  let h8 := put h7 8 (flatD 3 Rows.laid_math_bits_deBruijn32tab)
  let h9 := put h8 9 (flatD 3 Rows.laid_math_bits_deBruijn64tab)
  { w0 with heap := h9 }

set_option maxRecDepth 1000000 in
theorem laid_met (os : Os) (args : Array Value) : laidMetH Tryz.prog listed ((laidWorld os).forCall (fun _ _ => 0) ⟨#[], args, []⟩).memory :=
  laidMetH_of_parts (laidMet_of_run' 8 (by kernel_rfl) (by kernel_rfl)) (by kernel_rfl)
end Go.Proofs.YtpepgmccbkkaaaaGreatDoor

/- The document's rules: kinds of bytes, figures, small numbers; lists of words in memory. -/
namespace Go.Proofs.YtpepgmccbkkaaaaGreatDoor
open Go Go.RowKit
set_option maxRecDepth 10000

/-- a byte's kind: 1 a small letter, 2 a digit, 3 a blank, 0 any other -/
def kindL (c : UInt8) : Nat := if 97 ≤ c.toNat ∧ c.toNat ≤ 122 then 1 else if 48 ≤ c.toNat ∧ c.toNat ≤ 57 then 2 else if c.toNat = 32 then 3 else 0

set_option maxHeartbeats 1000000 in
theorem kind_any (c : UInt8) (w : World) : Calls Tryz.prog 79 #[.int .u8 c.toNat] w fun e w' => e = .returned (.int .i64 (kindL c)) ∧ w = w' := by
  have hlt := c.toNat_lt
  obtain ⟨n, hn⟩ : ∃ n, n = c.toNat := ⟨_, rfl⟩
  have HN := Lib.hid hn
  rw [← hn] at hlt ⊢
  by_cases h1 : 97 ≤ n ∧ n ≤ 122
  · have hf : kindL c = 1 := by unfold kindL; rw [← hn, if_pos h1]
    have HF := Lib.hid hf
    have a1 : decide ((97 : Int) ≤ (n : Int)) = true := by simp; omega
    have a2 : decide ((n : Int) ≤ (122 : Int)) = true := by simp; omega
    clear hn hf
    go_enter Tryz.func79, Tryz.ntmps79
    go_wp2
    all_goals (first | (exfalso; omega) | (go_ret; exact ⟨by rw [HF.out]; rfl, rfl⟩))
  · by_cases h2 : 48 ≤ n ∧ n ≤ 57
    · have hf : kindL c = 2 := by unfold kindL; rw [← hn, if_neg h1, if_pos h2]
      have HF := Lib.hid hf
      clear hn hf
      go_enter Tryz.func79, Tryz.ntmps79
      go_wp2
      all_goals (first | (exfalso; omega) | (go_ret; exact ⟨by rw [HF.out]; rfl, rfl⟩))
    · by_cases h3 : n = 32
      · have hf : kindL c = 3 := by unfold kindL; rw [← hn, if_neg h1, if_neg h2, if_pos h3]
        have HF := Lib.hid hf
        subst h3
        clear hn hf
        go_enter Tryz.func79, Tryz.ntmps79
        go_wp2
        all_goals (first | (exfalso; omega) | (go_ret; exact ⟨by rw [HF.out]; rfl, rfl⟩))
      · have hf : kindL c = 0 := by unfold kindL; rw [← hn, if_neg h1, if_neg h2, if_neg h3]
        have HF := Lib.hid hf
        have a3 : ((n : Int) == 32) = false := by simp; omega
        clear hn hf
        go_enter Tryz.func79, Tryz.ntmps79
        go_wp2
        all_goals (first | (exfalso; omega) | (go_ret; exact ⟨by rw [HF.out]; rfl, rfl⟩))

/-- is it a rule's number? -/
def figB (l : List UInt8) : Bool := numeralsL l && (decide (l.length ≤ 9) && (decide (l.length = 1) || decide (l.headD 0 ≠ 48)))

/-- the value of digits -/
def valL (l : List UInt8) : Nat := l.foldl (fun v c => 10 * v + (c.toNat - 48)) 0

theorem valL_snoc (l : List UInt8) (c : UInt8) : valL (l ++ [c]) = 10 * valL l + (c.toNat - 48) := by simp [valL]

theorem valL_lt : ∀ (l : List UInt8), l.all isDig = true → valL l < 10 ^ l.length := by
  intro l
  induction hn : l.length generalizing l with
  | zero => intro _; have := List.eq_nil_of_length_eq_zero hn; subst this; simp [valL]
  | succ n ih =>
    intro h
    have hne : l ≠ [] := fun q => by rw [q] at hn; cases hn
    obtain ⟨t, c, rfl⟩ : ∃ t c, l = t ++ [c] := ⟨l.dropLast, l.getLast hne, by rw [List.dropLast_concat_getLast]⟩
    rw [List.all_append, Bool.and_eq_true] at h
    have hc : isDig c = true := by simpa using h.2
    have hd := (isDig_iff c).1 hc
    have hl : t.length = n := by simpa using hn
    have := ih t hl h.1
    rw [valL_snoc, Nat.pow_succ]
    omega

/-- a list of texts in memory -/
def StrsAt (w : World) (v : Value) (ws : List (List UInt8)) : Prop := ∃ a cap, v = .slice a ws.length cap ∧ ws.length ≤ cap ∧ cap ≤ maxLen ∧ (a = none → cap = 0) ∧ ∀ j (h : j < ws.length), ∃ b, a = some b ∧ w.cell? (b.add j) = some (strv ws[j])

theorem StrsAt.below {w w' : World} {v : Value} {ws : List (List UInt8)} (h : StrsAt w v ws) (hb : Below w.heap.size w w') : StrsAt w' v ws := by
  obtain ⟨a, cap, hv, hl, hm, h0, hc⟩ := h
  refine ⟨a, cap, hv, hl, hm, h0, fun j hj => ?_⟩
  obtain ⟨b, hb1, hb2⟩ := hc j hj
  refine ⟨b, hb1, ?_⟩
  rw [hb.cell (World.block_lt_of_cell? w _ hb2)]
  exact hb2

theorem StrsAt.of_own {w : World} {base n : Nat} {e : TypeId} {v : Value} {ws : List (List UInt8)} (h : w.ownsRow base e 1 v n (ws.map strv)) : StrsAt w v ws := by
  have hlen : ws.length = n := by have := h.1; simpa using this
  rcases h.2 with ⟨hv, h0⟩ | ⟨g, cap, cur, hv, _, hh, h1, h2, _, ht⟩
  · subst h0
    have : ws = [] := List.eq_nil_of_length_eq_zero hlen
    subst this
    exact ⟨none, 0, hv, Nat.le_refl _, Nat.zero_le _, fun _ => rfl, fun j h => absurd h (Nat.not_lt_zero j)⟩
  · refine ⟨some ⟨g, 0, none⟩, cap, by rw [hv, hlen], by omega, h2, (fun h => by cases h), fun j hj => ⟨_, rfl, ?_⟩⟩
    subst hv
    rw [addr_add0, h.cellAt j (by omega)]
    simp [hj]

/-- a cell of a row of the call's own is written -/
theorem own_put {w : World} {base n : Nat} {e : TypeId} {g cap : Nat} {xs : List Value} (h : w.ownsRow base e 1 (.slice (some ⟨g, 0, none⟩) n cap) n xs) (j : Nat) (hj : j < n) (u : Value) :
    (w.setCell ⟨g, j, none⟩ u).ownsRow base e 1 (.slice (some ⟨g, 0, none⟩) n cap) n (xs.set j u) := by
  have hx : xs.length = n := by have := h.1; simpa using this
  refine ⟨by simp [hx], ?_⟩
  rcases h.2 with ⟨hv, _⟩ | ⟨g2, cap2, cur, hv, hg, hh, h1, h2, h3, ht⟩
  · cases hv
  · simp only [Value.slice.injEq, Option.some.injEq, Addr.mk.injEq] at hv
    obtain ⟨⟨rfl, -⟩, -, rfl⟩ := hv
    refine .inr ⟨g, cap, cur.setIfInBounds j u, rfl, hg, ?_, h1, h2, by simpa using h3, ?_⟩
    · simp [World.setCell, Array.getElem?_modify, hh]
    · rw [Array.toList_setIfInBounds, ← ht, List.take_set]
end Go.Proofs.YtpepgmccbkkaaaaGreatDoor

/- The document's rules: figures, small numbers, words. -/
namespace Go.Proofs.YtpepgmccbkkaaaaGreatDoor
open Go Go.RowKit
set_option maxRecDepth 10000

theorem figB_eq (s : ByteArray) (h0 : 0 < s.size) : figB s.data.toList = (numeralsL s.data.toList && (decide (s.size ≤ 9) && (decide (s.size = 1) || decide (s[0] ≠ 48)))) := by
  unfold figB
  rw [size_toList]
  have : s.data.toList.headD 0 = s[0] := by
    have hl : 0 < s.data.toList.length := by simpa using h0
    rw [← getElem_toList s 0 h0, List.headD_eq_head?_getD, List.head?_eq_getElem?, List.getElem?_eq_getElem hl]
    rfl
  rw [this]

set_option maxHeartbeats 2000000 in
theorem figure_any (s : ByteArray) (w : World) (hs : s.size ≤ 1000000) : Calls Tryz.prog 81 #[.string s] w fun e w' => e = .returned (.tuple #[.string s, .bool (figB s.data.toList)]) ∧ ∃ n, w' = w.drewN n := by
  cases hn : numeralsL s.data.toList
  · have hf : figB s.data.toList = false := by unfold figB; rw [hn]; rfl
    have HF := Lib.hid hf
    have HN := Lib.hid hn
    clear hf hn
    go_enter Tryz.func81, Tryz.ntmps81
    go_wp2_with fail
    refine (numerals_any s _ (by omega)).mono ?_
    rw [HN.out]
    rintro e w1 ⟨rfl, rfl⟩
    go_wp2_with fail
    go_quiet (fail)
    go_wp2
    go_ret2
    exact ⟨by rw [HF.out]; rfl, nq, rfl⟩
  · have h0 : 0 < s.size := by
      simp only [numeralsL, Bool.and_eq_true] at hn
      have := hn.2
      rw [isEmpty_toList] at this
      rcases Nat.eq_zero_or_pos s.size with h | h
      · rw [h] at this; cases this
      · exact h
    have hf := figB_eq s h0
    rw [hn] at hf
    by_cases h9 : s.size ≤ 9
    · have h9' : decide ((s.size : Int) ≤ 9) = true := by simp; omega
      by_cases h1 : s.size = 1
      · have hf2 : figB s.data.toList = true := by rw [hf]; simp [h9, h1]
        have HF := Lib.hid hf2
        have HN := Lib.hid hn
        have h1' : ((s.size : Int) == 1) = true := by simp; omega
        clear hf hf2 hn h1
        go_enter Tryz.func81, Tryz.ntmps81
        go_wp2_with fail
        refine (numerals_any s _ (by omega)).mono ?_
        rw [HN.out]
        rintro e w1 ⟨rfl, rfl⟩
        go_wp2_with fail
        go_quiet (fail)
        go_wp2
        go_ret2
        exact ⟨by rw [HF.out]; rfl, nq, rfl⟩
      · have h1' : ((s.size : Int) == 1) = false := by simp; omega
        have hne : ((s[0].toNat : Int) != 48) = decide (s[0] ≠ 48) := by
          have := toNat_beq s[0] 48
          rw [bne, show ((48 : Int)) = (((48 : UInt8).toNat : Nat) : Int) from rfl, this]
          simp
        have hf2 : figB s.data.toList = decide (s[0] ≠ 48) := by rw [hf]; simp [h9, h1]
        rw [← hne] at hf2
        have HF := Lib.hid hf2
        have HN := Lib.hid hn
        clear hf hf2 hn h1 hne
        go_enter Tryz.func81, Tryz.ntmps81
        go_wp2_with fail
        refine (numerals_any s _ (by omega)).mono ?_
        rw [HN.out]
        rintro e w1 ⟨rfl, rfl⟩
        go_wp2_with fail
        go_quiet (fail)
        go_wp2
        go_ret2
        exact ⟨by rw [HF.out]; rfl, nq, rfl⟩
    · have h9' : decide ((s.size : Int) ≤ 9) = false := by simp; omega
      have hf2 : figB s.data.toList = false := by rw [hf]; simp [h9]
      have HF := Lib.hid hf2
      have HN := Lib.hid hn
      clear hf hf2 hn
      go_enter Tryz.func81, Tryz.ntmps81
      go_wp2_with fail
      refine (numerals_any s _ (by omega)).mono ?_
      rw [HN.out]
      rintro e w1 ⟨rfl, rfl⟩
      go_wp2_with fail
      go_quiet (fail)
      go_wp2
      go_ret2
      exact ⟨by rw [HF.out]; rfl, nq, rfl⟩

theorem all_dig_at {s : ByteArray} (h : s.data.toList.all isDig = true) (k : Nat) (hk : k < s.size) : isDig s[k] = true := by
  rw [← getElem_toList s k hk]
  exact List.all_eq_true.1 h _ (List.getElem_mem _)

theorem take_all_dig {l : List UInt8} (h : l.all isDig = true) (k : Nat) : (l.take k).all isDig = true := by
  rw [List.all_eq_true] at h ⊢
  exact fun c hc => h c (List.mem_of_mem_take hc)

theorem valL_small (l : List UInt8) (k : Nat) (h : l.all isDig = true) (hl : l.length ≤ 9) : valL (l.take k) < 1000000000 := by
  have h1 := valL_lt (l.take k) (take_all_dig h k)
  have h2 : (l.take k).length ≤ 9 := by simp; omega
  have : 10 ^ (l.take k).length ≤ 10 ^ 9 := Nat.pow_le_pow_right (by decide) h2
  omega

set_option maxHeartbeats 1000000 in
theorem small_any (s : ByteArray) (w : World) (hs : s.size ≤ 9) (hd : s.data.toList.all isDig = true) : Calls Tryz.prog 82 #[.string s] w fun e w' => e = .returned (.int .i64 (valL s.data.toList)) ∧ w = w' := by
  have HV := Lib.hid (fun k => valL_small s.data.toList k hd (by rw [size_toList]; exact hs))
  go_enter Tryz.func82, Tryz.ntmps82
  go_wp2
  go_loop [3, 4] (fun v i => ∃ k : Nat, k ≤ s.size ∧ i = .int .i64 k ∧ v = .int .i64 (valL (s.data.toList.take k))) (fun _ i => s.size - (intOf i).toNat)
  case atStart => exact ⟨0, by omega, rfl, rfl⟩
  case round =>
    obtain ⟨k, hk, rfl, rfl⟩ := hrel
    have hv := HV.out k
    by_cases hlt : k < s.size
    · have hc := (isDig_iff _).1 (all_dig_at hd k hlt)
      have hsn : valL (s.data.toList.take (k + 1)) = 10 * valL (s.data.toList.take k) + (s[k].toNat - 48) := by rw [take_snoc s k hlt, valL_snoc]
      have HS := Lib.hid hsn
      clear hsn
      obtain ⟨x, hx⟩ : ∃ x, x = valL (s.data.toList.take k) := ⟨_, rfl⟩
      rw [← hx] at hv HS ⊢
      clear hx
      go_wp2
      go_round
      case rel => exact ⟨k + 1, by omega, by go_num, by rw [HS.out]; go_num⟩
      case measure => simp [intOf]; omega
    · obtain rfl : k = s.size := by omega
      go_wp2
      go_ret
      rw [take_all]
      exact ⟨rfl, rfl⟩
end Go.Proofs.YtpepgmccbkkaaaaGreatDoor
