import Derived.Test.YtdelpialeajajaaGreatDoorJC3
import Derived.Deep.DeepCutAuto
import Derived.Deep.CutBlock

/- The document's reader: whole. -/
namespace Go.Proofs.YtdelpialeajajaaGreatDoor
open Go Go.RowKit
set_option maxRecDepth 10000

/-- how many bytes ahead are a whole number, behind n that are; f: the first -/
def whGo (f : UInt8) : Nat → List UInt8 → Nat
  | n, [] => n
  | n, c :: t => if n < 9 ∧ digB c = true ∧ ¬(n = 1 ∧ f = 48) then whGo f (n + 1) t else n
def whB (l : List UInt8) : Nat := whGo (l.headD 0) 0 l
def wholeT (s : ByteArray) (k : Nat) : Wd := (s.data.toList.drop k).take (whB (s.data.toList.drop k))
def wholeS (s : ByteArray) (x : Sc) : Sc :=
  { (if whB (s.data.toList.drop x.i) = 0 then faultS x 3 x.i else x) with i := x.i + whB (s.data.toList.drop x.i) }

theorem whGo_stop {f : UInt8} {n : Nat} {c : UInt8} {t : List UInt8} (h : ¬(n < 9 ∧ digB c = true ∧ ¬(n = 1 ∧ f = 48))) : whGo f n (c :: t) = n := by rw [whGo, if_neg h]
theorem whGo_more {f : UInt8} {n : Nat} {c : UInt8} {t : List UInt8} (h : n < 9 ∧ digB c = true ∧ ¬(n = 1 ∧ f = 48)) : whGo f n (c :: t) = whGo f (n + 1) t := by rw [whGo, if_pos h]

set_option maxHeartbeats 8000000 in
theorem scan_whole (p : Nat) (s : ByteArray) (x : Sc) (w : World) (h : ScanAt p s x w) :
    Calls Tryz.prog 107 #[.pointer (some ⟨p, 0, none⟩)] w (ScanB p s (strv (wholeT s x.i)) (wholeS s x) w) := by
  have HH := Lib.hid h
  have hsz := h.size
  obtain ⟨k, hk⟩ : ∃ k, x.i = k := ⟨_, rfl⟩
  have hh := h.here
  rw [hk] at hh ⊢
  have HXI := Lib.hid hk
  obtain ⟨f, hf⟩ : ∃ f, (s.data.toList.drop k).headD 0 = f := ⟨_, rfl⟩
  have HFF := Lib.hid hf
  clear h hk hf
  go_enter Tryz.func107, Tryz.ntmps107
  go_upto_block 0 with fail
  go_cut [3] (fun nv wc => ∃ n, nv = .int .i64 (n : Nat) ∧ k + n ≤ s.size ∧ n ≤ 9 ∧ ScanAt p s x wc ∧ Fr p w wc ∧ n = whB (s.data.toList.drop k))
  case rest =>
    obtain ⟨n, rfl, hkn, hn9, hs, hBwc, he⟩ := hcut
    have HSwc := Lib.hid hs
    have HE := Lib.hid he
    clear hs he
    have hfin : whB (s.data.toList.drop k) = n := HE.out.symm
    have HT := Lib.hid (show wholeT s k = (s.data.toList.drop k).take n by unfold wholeT; rw [hfin])
    obtain ⟨j, hj⟩ : ∃ j, k + n = j := ⟨_, rfl⟩
    have HNS := Lib.hid (show wholeS s x = { (if n = 0 then faultS x 3 k else x) with i := j } by unfold wholeS; rw [HXI.out, hfin, hj])
    have HPC := Lib.hid (show s.extract k j = ⟨((s.data.toList.drop k).take n).toArray⟩ by rw [← hj]; exact extract_piece s k n)
    have q1 : (j : Int) - (n : Int) = (k : Int) := by omega
    have q2 : (k : Int) + (n : Int) = (j : Int) := by omega
    have q3 : (j : Int) ≤ (s.size : Int) := by omega
    have q4 : (k : Int) ≤ (j : Int) := by omega
    have q5 : IntKind.i64.wrap (k : Int) = (k : Int) := by simp [IntKind.wrap, IntKind.signed, IntKind.bits]; omega
    have u1 := HSwc.out.c1
    rw [HXI.out] at u1
    have q6 : IntKind.i64.wrap (j : Int) = (j : Int) := by simp [IntKind.wrap, IntKind.signed, IntKind.bits]; omega
    clear hfin
    by_cases hn0 : n = 0
    · have j1 : ((n : Int) == 0) = true := by simp [hn0]
      have HY := Lib.hid (show wholeS s x = { faultS x 3 k with i := j } by rw [HNS.out, if_pos hn0])
      have HN0 := Lib.hid hn0
      clear hn0
      go_wp2_with fail
      refine (scan_fault p s x 3 k wc HSwc.out).mono ?_
      rintro e w2 ⟨rfl, hs2, hb2⟩
      have HSA := Lib.hid hs2
      have HBA := Lib.hid (Fr.trans hBwc hb2)
      have HYI := Lib.hid (show (faultS x 3 k).i = k by rw [faultS_i]; exact HXI.out)
      clear hs2 hb2 u1
      have a1 := HSA.out.c1
      have az := HSA.out.z 1
      rw [HYI.out] at a1
      have hst := HSA.out.put1 j (by omega)
      have HST := Lib.hid hst
      have b0 := hst.c0
      have b1 := hst.c1
      dsimp only at b1
      have hbst : Fr p w (w2.setCell ⟨p, 1, none⟩ (.int .i64 (j : Nat))) := fr_put HBA.out
      obtain ⟨wb, hwb⟩ : ∃ wb, w2.setCell ⟨p, 1, none⟩ (.int .i64 (j : Nat)) = wb := ⟨_, rfl⟩
      rw [hwb] at HST b0 b1 hbst
      have hS2 : wb.drew.cell? ⟨p, 0, none⟩ = some (.string s) ∧ wb.drew.cell? ⟨p, 1, none⟩ = some (.int .i64 (j : Nat)) := ⟨b0, b1⟩
      clear hst
      go_wp2_with fail
      try rw [hwb]
      clear hwb
      refine wp_region_takes (fun W' : World => W'.cell? ⟨p, 0, none⟩ = some (.string s) ∧ W'.cell? ⟨p, 1, none⟩ = some (.int .i64 (j : Nat))) [0, 1, 2, 3, 4, 5, 6, 7, 8, 9, 10, 11, 12, 13, 14, 15] 0 (by intro _ _ d _ _ h; cases d <;> exact h) (by kernel_rfl) (by kernel_rfl) hS2 ?_
      (iterate 16 (first | (refine takes_yes (v := ?_) rfl (by rfl) ?_ ?_; rotate_left; (focus ((intro w' hS'; (try dsimp only at hS'); go_simp; try (with_reducible rfl)); done)); (try simp only [Act.put, List.setIfInBounds_toArray, List.set_cons_zero, List.set_cons_succ])) | (refine takes_no rfl (by rfl) ?_; (try simp only [Act.put, List.setIfInBounds_toArray, List.set_cons_zero, List.set_cons_succ]))))
      refine takes_nil ?_
      refine wpAnyH_done (by kernel_rfl) ?_ _
      go_wp2
      go_ret
      refine ⟨?_, ?_, hbst.drew⟩
      · rw [HT.out]
        show Ending.returned (Value.string (s.extract k j)) = _
        rw [HPC.out]
      · rw [HY.out]
        exact HST.out.below (Below.refl _ _).drew
    · have j1 : ((n : Int) == 0) = false := by simp; omega
      have HY := Lib.hid (show wholeS s x = { x with i := j } by rw [HNS.out, if_neg hn0])
      clear hn0
      have HSA := HSwc
      have HBA := Lib.hid hBwc
      have HYI := HXI
      clear u1
      have a1 := HSA.out.c1
      have az := HSA.out.z 1
      rw [HYI.out] at a1
      have hst := HSA.out.put1 j (by omega)
      have HST := Lib.hid hst
      have b0 := hst.c0
      have b1 := hst.c1
      dsimp only at b1
      have hbst : Fr p w (wc.setCell ⟨p, 1, none⟩ (.int .i64 (j : Nat))) := fr_put HBA.out
      obtain ⟨wb, hwb⟩ : ∃ wb, wc.setCell ⟨p, 1, none⟩ (.int .i64 (j : Nat)) = wb := ⟨_, rfl⟩
      rw [hwb] at HST b0 b1 hbst
      have hS2 : wb.drew.cell? ⟨p, 0, none⟩ = some (.string s) ∧ wb.drew.cell? ⟨p, 1, none⟩ = some (.int .i64 (j : Nat)) := ⟨b0, b1⟩
      clear hst
      go_wp2_with fail
      try rw [hwb]
      clear hwb
      refine wp_region_takes (fun W' : World => W'.cell? ⟨p, 0, none⟩ = some (.string s) ∧ W'.cell? ⟨p, 1, none⟩ = some (.int .i64 (j : Nat))) [0, 1, 2, 3, 4, 5, 6, 7, 8, 9, 10, 11, 12, 13, 14, 15] 0 (by intro _ _ d _ _ h; cases d <;> exact h) (by kernel_rfl) (by kernel_rfl) hS2 ?_
      (iterate 16 (first | (refine takes_yes (v := ?_) rfl (by rfl) ?_ ?_; rotate_left; (focus ((intro w' hS'; (try dsimp only at hS'); go_simp; try (with_reducible rfl)); done)); (try simp only [Act.put, List.setIfInBounds_toArray, List.set_cons_zero, List.set_cons_succ])) | (refine takes_no rfl (by rfl) ?_; (try simp only [Act.put, List.setIfInBounds_toArray, List.set_cons_zero, List.set_cons_succ]))))
      refine takes_nil ?_
      refine wpAnyH_done (by kernel_rfl) ?_ _
      go_wp2
      go_ret
      refine ⟨?_, ?_, hbst.drew⟩
      · rw [HT.out]
        show Ending.returned (Value.string (s.extract k j)) = _
        rw [HPC.out]
      · rw [HY.out]
        exact HST.out.below (Below.refl _ _).drew

  go_wp2_with fail
  go_loopw [3] (fun nv wr => ∃ n, nv = .int .i64 (n : Nat) ∧ k + n ≤ s.size ∧ n ≤ 9 ∧ ScanAt p s x wr ∧ Fr p w wr ∧ whGo f n (s.data.toList.drop (k + n)) = whB (s.data.toList.drop k)) (fun nv _ => 9 - (intOf nv).toNat)
  case atStart => exact ⟨0, rfl, hh, by omega, HH.out, Fr.refl _ _, by rw [Nat.add_zero]; unfold whB; rw [HFF.out]⟩
  case round =>
    obtain ⟨n, rfl, hkn, hn9, hs, hBwr, hg⟩ := hrel
    have HSwr := Lib.hid hs
    have HG := Lib.hid hg
    clear hs hg
    obtain ⟨m, hm⟩ : ∃ m, k + n = m := ⟨_, rfl⟩
    have qm : (k : Int) + (n : Int) = (m : Int) := by omega
    have qw : IntKind.i64.wrap (m : Int) = (m : Int) := by simp [IntKind.wrap, IntKind.signed, IntKind.bits]; omega
    have HSw3 := Lib.hid (HSwr.out.below (Below.refl _ _).drew)
    have hBw3 : Fr p w wr.drew := Fr.drew hBwr
    have e0w3 : wr.drew.cell? ⟨p, 0, none⟩ = some (.string s) := HSw3.out.c0
    have e1w3 : wr.drew.cell? ⟨p, 1, none⟩ = some (.int .i64 (k : Nat)) := by have h := HSw3.out.c1; rw [HXI.out] at h; exact h
    have hSw3 := And.intro e0w3 e1w3
    by_cases hlt : m < s.size
    · have k1 : decide ((m : Int) < (s.size : Int)) = true := by simp; omega
      have k1' : (m : Int) < (s.size : Int) := by omega
      have k1n : decide (m < s.size) = true := by simp; omega
      by_cases h9 : n < 9
      · have k2 : decide ((n : Int) < 9) = true := by simp; omega
        have k2n : decide (n < 9) = true := by simp; omega
        have hdr := drop_at s m hlt
        obtain ⟨c, hc⟩ : ∃ c, s[m] = c := ⟨_, rfl⟩
        rw [hc] at hdr
        have HDR := Lib.hid hdr
        have hkl : k < s.size := by omega
        have hfk : s[k] = f := by
          have h := HFF.out
          rw [drop_at s k hkl] at h
          exact h
        have c255 := c.toNat_lt
        have hkk : (k : Int) < (s.size : Int) := by omega
        clear hdr
        go_wp2_with fail
        refine wp_region_takes (fun W' : World => W'.cell? ⟨p, 0, none⟩ = some (.string s) ∧ W'.cell? ⟨p, 1, none⟩ = some (.int .i64 (k : Nat))) [0, 1, 2, 3, 4, 5, 6, 7, 8, 9, 10, 11, 12, 13, 14, 15] 0 (by intro _ _ d _ _ h; cases d <;> exact h) (by kernel_rfl) (by kernel_rfl) hSw3 ?_
        (iterate 16 (first | (refine takes_yes (v := ?_) rfl (by rfl) ?_ ?_; rotate_left; (focus ((intro w' hS'; (try dsimp only at hS'); go_simp; try (with_reducible rfl)); done)); (try simp only [Act.put, List.setIfInBounds_toArray, List.set_cons_zero, List.set_cons_succ])) | (refine takes_no rfl (by rfl) ?_; (try simp only [Act.put, List.setIfInBounds_toArray, List.set_cons_zero, List.set_cons_succ]))))
        refine takes_nil ?_
        refine wpAnyH_done (by kernel_rfl) ?_ _
        obtain ⟨w3, hw3⟩ : ∃ X, wr.drew = X := ⟨_, rfl⟩
        rw [hw3] at HSw3 hBw3 e0w3 e1w3 hSw3
        try rw [hw3]
        clear hw3
        have HSw4 := Lib.hid (HSw3.out.below (Below.refl _ _).drew)
        have hBw4 : Fr p w w3.drew := Fr.drew hBw3
        have e0w4 : w3.drew.cell? ⟨p, 0, none⟩ = some (.string s) := HSw4.out.c0
        have e1w4 : w3.drew.cell? ⟨p, 1, none⟩ = some (.int .i64 (k : Nat)) := by have h := HSw4.out.c1; rw [HXI.out] at h; exact h
        have hSw4 := And.intro e0w4 e1w4
        clear e0w3 e1w3 hSw3
        go_wp2_with fail
        refine wp_region_takes (fun W' : World => W'.cell? ⟨p, 0, none⟩ = some (.string s) ∧ W'.cell? ⟨p, 1, none⟩ = some (.int .i64 (k : Nat))) [0, 1, 2, 3, 4, 5, 6, 7, 8, 9, 10, 11] 0 (by intro _ _ d _ _ h; cases d <;> exact h) (by kernel_rfl) (by kernel_rfl) hSw4 ?_
        (iterate 12 (first | (refine takes_yes (v := ?_) rfl (by rfl) ?_ ?_; rotate_left; (focus ((intro w' hS'; (try dsimp only at hS'); go_simp; try (with_reducible rfl)); done)); (try simp only [Act.put, List.setIfInBounds_toArray, List.set_cons_zero, List.set_cons_succ])) | (refine takes_no rfl (by rfl) ?_; (try simp only [Act.put, List.setIfInBounds_toArray, List.set_cons_zero, List.set_cons_succ]))))
        refine takes_nil ?_
        refine wpAnyH_done (by kernel_rfl) ?_ _
        obtain ⟨w4, hw4⟩ : ∃ X, w3.drew = X := ⟨_, rfl⟩
        rw [hw4] at HSw4 hBw4 e0w4 e1w4 hSw4
        try rw [hw4]
        clear hw4
        have HSw5 := Lib.hid (HSw4.out.below (Below.refl _ _).drew)
        have hBw5 : Fr p w w4.drew := Fr.drew hBw4
        have e0w5 : w4.drew.cell? ⟨p, 0, none⟩ = some (.string s) := HSw5.out.c0
        have e1w5 : w4.drew.cell? ⟨p, 1, none⟩ = some (.int .i64 (k : Nat)) := by have h := HSw5.out.c1; rw [HXI.out] at h; exact h
        have hSw5 := And.intro e0w5 e1w5
        clear e0w4 e1w4 hSw4
        have hcl : c.toNat < 48 ∨ 57 < c.toNat ∨ (48 ≤ c.toNat ∧ c.toNat ≤ 57) := by omega
        rcases hcl with p1 | p1 | ⟨p1, p2⟩
        · have i0 : decide ((c.toNat : Int) < 48) = true := by simp; omega
          have n0 : decide (c.toNat < 48) = true := by simp; omega
          have i1 : decide ((57 : Int) < (c.toNat : Int)) = false := by simp; omega
          have n1 : decide (57 < c.toNat) = false := by simp; omega
          have hdb : digB c = false := by unfold digB; simp; omega
          have HE := Lib.hid (show n = whB (s.data.toList.drop k) by rw [← HG.out, hm, HDR.out]; exact (whGo_stop (fun e => by rw [hdb] at e; exact absurd e.2.1 (by simp))).symm)
          clear HG
          go_wp2_with fail
          refine wp_region_takes (fun W' : World => W'.cell? ⟨p, 0, none⟩ = some (.string s) ∧ W'.cell? ⟨p, 1, none⟩ = some (.int .i64 (k : Nat))) [0, 1, 2, 3, 4, 5, 6, 7, 8, 9, 10, 11, 12, 13, 14, 15, 16, 17, 18, 19, 20, 21] 0 (by intro _ _ d _ _ h; cases d <;> exact h) (by kernel_rfl) (by kernel_rfl) hSw5 ?_
          (iterate 22 (first | (refine takes_yes (v := ?_) rfl (by rfl) ?_ ?_; rotate_left; (focus ((intro w' hS'; (try dsimp only at hS'); go_simp; try (with_reducible rfl)); done)); (try simp only [Act.put, List.setIfInBounds_toArray, List.set_cons_zero, List.set_cons_succ])) | (refine takes_no rfl (by rfl) ?_; (try simp only [Act.put, List.setIfInBounds_toArray, List.set_cons_zero, List.set_cons_succ]))))
          refine takes_nil ?_
          refine wpAnyH_done (by kernel_rfl) ?_ _
          obtain ⟨w5, hw5⟩ : ∃ X, w4.drew = X := ⟨_, rfl⟩
          rw [hw5] at HSw5 hBw5 e0w5 e1w5 hSw5
          try rw [hw5]
          clear hw5
          clear e0w5 e1w5 hSw5
          go_wp2
          go_meet
          case rel => exact ⟨n, rfl, hkn, hn9, HSw5.out, hBw5, HE.out⟩
        · have i0 : decide ((c.toNat : Int) < 48) = false := by simp; omega
          have n0 : decide (c.toNat < 48) = false := by simp; omega
          have i1 : decide ((57 : Int) < (c.toNat : Int)) = true := by simp; omega
          have n1 : decide (57 < c.toNat) = true := by simp; omega
          have hdb : digB c = false := by unfold digB; simp; omega
          have HE := Lib.hid (show n = whB (s.data.toList.drop k) by rw [← HG.out, hm, HDR.out]; exact (whGo_stop (fun e => by rw [hdb] at e; exact absurd e.2.1 (by simp))).symm)
          clear HG
          go_wp2_with fail
          refine wp_region_takes (fun W' : World => W'.cell? ⟨p, 0, none⟩ = some (.string s) ∧ W'.cell? ⟨p, 1, none⟩ = some (.int .i64 (k : Nat))) [0, 1, 2, 3, 4, 5, 6, 7, 8, 9, 10, 11, 12, 13, 14, 15, 16, 17, 18, 19, 20, 21] 0 (by intro _ _ d _ _ h; cases d <;> exact h) (by kernel_rfl) (by kernel_rfl) hSw5 ?_
          (iterate 22 (first | (refine takes_yes (v := ?_) rfl (by rfl) ?_ ?_; rotate_left; (focus ((intro w' hS'; (try dsimp only at hS'); go_simp; try (with_reducible rfl)); done)); (try simp only [Act.put, List.setIfInBounds_toArray, List.set_cons_zero, List.set_cons_succ])) | (refine takes_no rfl (by rfl) ?_; (try simp only [Act.put, List.setIfInBounds_toArray, List.set_cons_zero, List.set_cons_succ]))))
          refine takes_nil ?_
          refine wpAnyH_done (by kernel_rfl) ?_ _
          obtain ⟨w5, hw5⟩ : ∃ X, w4.drew = X := ⟨_, rfl⟩
          rw [hw5] at HSw5 hBw5 e0w5 e1w5 hSw5
          try rw [hw5]
          clear hw5
          clear e0w5 e1w5 hSw5
          go_wp2
          go_meet
          case rel => exact ⟨n, rfl, hkn, hn9, HSw5.out, hBw5, HE.out⟩
        · have i0 : decide ((c.toNat : Int) < 48) = false := by simp; omega
          have n0 : decide (c.toNat < 48) = false := by simp; omega
          have i1 : decide ((57 : Int) < (c.toNat : Int)) = false := by simp; omega
          have n1 : decide (57 < c.toNat) = false := by simp; omega
          have hdb : digB c = true := by unfold digB; simp; omega
          by_cases hn1 : n = 1
          · have k6 : ((n : Int) == 1) = true := by simp [hn1]
            have HN1 := Lib.hid hn1
            clear hn1
            by_cases hf0 : f = 48
            · have HF0 := Lib.hid hf0
              have k7 : ((f.toNat : Int) == 48) = true := by rw [hf0]; rfl
              clear hf0
              have HE := Lib.hid (show n = whB (s.data.toList.drop k) by rw [← HG.out, hm, HDR.out]; exact (whGo_stop (fun e => e.2.2 ⟨HN1.out, HF0.out⟩)).symm)
              clear HG
              go_wp2_with fail
              refine wp_region_takes (fun W' : World => W'.cell? ⟨p, 0, none⟩ = some (.string s) ∧ W'.cell? ⟨p, 1, none⟩ = some (.int .i64 (k : Nat))) [0, 1, 2, 3, 4, 5, 6, 7, 8, 9, 10, 11, 12, 13, 14, 15, 16, 17, 18, 19, 20, 21] 0 (by intro _ _ d _ _ h; cases d <;> exact h) (by kernel_rfl) (by kernel_rfl) hSw5 ?_
              (iterate 22 (first | (refine takes_yes (v := ?_) rfl (by rfl) ?_ ?_; rotate_left; (focus ((intro w' hS'; (try dsimp only at hS'); go_simp; try (with_reducible rfl)); done)); (try simp only [Act.put, List.setIfInBounds_toArray, List.set_cons_zero, List.set_cons_succ])) | (refine takes_no rfl (by rfl) ?_; (try simp only [Act.put, List.setIfInBounds_toArray, List.set_cons_zero, List.set_cons_succ]))))
              refine takes_nil ?_
              refine wpAnyH_done (by kernel_rfl) ?_ _
              obtain ⟨w5, hw5⟩ : ∃ X, w4.drew = X := ⟨_, rfl⟩
              rw [hw5] at HSw5 hBw5 e0w5 e1w5 hSw5
              try rw [hw5]
              clear hw5
              clear e0w5 e1w5 hSw5
              go_wp2
              go_meet
              case rel => exact ⟨n, rfl, hkn, hn9, HSw5.out, hBw5, HE.out⟩
            · have k7 : ((f.toNat : Int) == 48) = false := byte_ne hf0
              have HF0 := Lib.hid hf0
              clear hf0
              have HM := Lib.hid (show whGo f (n + 1) (s.data.toList.drop (k + (n + 1))) = whB (s.data.toList.drop k) by
                rw [← HG.out, hm, HDR.out, whGo_more (⟨h9, hdb, fun e => HF0.out e.2⟩), show k + (n + 1) = m + 1 by omega])
              clear HG
              go_wp2_with fail
              refine wp_region_takes (fun W' : World => W'.cell? ⟨p, 0, none⟩ = some (.string s) ∧ W'.cell? ⟨p, 1, none⟩ = some (.int .i64 (k : Nat))) [0, 1, 2, 3, 4, 5, 6, 7, 8, 9, 10, 11, 12, 13, 14, 15, 16, 17, 18, 19, 20, 21] 0 (by intro _ _ d _ _ h; cases d <;> exact h) (by kernel_rfl) (by kernel_rfl) hSw5 ?_
              (iterate 22 (first | (refine takes_yes (v := ?_) rfl (by rfl) ?_ ?_; rotate_left; (focus ((intro w' hS'; (try dsimp only at hS'); go_simp; try (with_reducible rfl)); done)); (try simp only [Act.put, List.setIfInBounds_toArray, List.set_cons_zero, List.set_cons_succ])) | (refine takes_no rfl (by rfl) ?_; (try simp only [Act.put, List.setIfInBounds_toArray, List.set_cons_zero, List.set_cons_succ]))))
              refine takes_nil ?_
              refine wpAnyH_done (by kernel_rfl) ?_ _
              obtain ⟨w5, hw5⟩ : ∃ X, w4.drew = X := ⟨_, rfl⟩
              rw [hw5] at HSw5 hBw5 e0w5 e1w5 hSw5
              try rw [hw5]
              clear hw5
              clear e0w5 e1w5 hSw5
              go_wp2
              go_roundw
              case rel => exact ⟨n + 1, by simp, by omega, by omega, HSw5.out, hBw5, HM.out⟩
              case measure => simp only [intOf]; omega
          · have k6 : ((n : Int) == 1) = false := by simp; omega
            have HN1 := Lib.hid hn1
            clear hn1
            have HM := Lib.hid (show whGo f (n + 1) (s.data.toList.drop (k + (n + 1))) = whB (s.data.toList.drop k) by
              rw [← HG.out, hm, HDR.out, whGo_more (⟨h9, hdb, fun e => HN1.out e.1⟩), show k + (n + 1) = m + 1 by omega])
            clear HG
            go_wp2_with fail
            refine wp_region_takes (fun W' : World => W'.cell? ⟨p, 0, none⟩ = some (.string s) ∧ W'.cell? ⟨p, 1, none⟩ = some (.int .i64 (k : Nat))) [0, 1, 2, 3, 4, 5, 6, 7, 8, 9, 10, 11, 12, 13, 14, 15, 16, 17, 18, 19, 20, 21] 0 (by intro _ _ d _ _ h; cases d <;> exact h) (by kernel_rfl) (by kernel_rfl) hSw5 ?_
            (iterate 22 (first | (refine takes_yes (v := ?_) rfl (by rfl) ?_ ?_; rotate_left; (focus ((intro w' hS'; (try dsimp only at hS'); go_simp; try (with_reducible rfl)); done)); (try simp only [Act.put, List.setIfInBounds_toArray, List.set_cons_zero, List.set_cons_succ])) | (refine takes_no rfl (by rfl) ?_; (try simp only [Act.put, List.setIfInBounds_toArray, List.set_cons_zero, List.set_cons_succ]))))
            refine takes_nil ?_
            refine wpAnyH_done (by kernel_rfl) ?_ _
            obtain ⟨w5, hw5⟩ : ∃ X, w4.drew = X := ⟨_, rfl⟩
            rw [hw5] at HSw5 hBw5 e0w5 e1w5 hSw5
            try rw [hw5]
            clear hw5
            clear e0w5 e1w5 hSw5
            go_wp2
            go_roundw
            case rel => exact ⟨n + 1, by simp, by omega, by omega, HSw5.out, hBw5, HM.out⟩
            case measure => simp only [intOf]; omega
      · have k2 : decide ((n : Int) < 9) = false := by simp; omega
        have k2n : decide (n < 9) = false := by simp; omega
        have HE := Lib.hid (show n = whB (s.data.toList.drop k) by
          rw [← HG.out, hm, drop_at s m hlt]
          exact (whGo_stop (fun e => h9 e.1)).symm)
        clear HG
        go_wp2_with fail
        refine wp_region_takes (fun W' : World => W'.cell? ⟨p, 0, none⟩ = some (.string s) ∧ W'.cell? ⟨p, 1, none⟩ = some (.int .i64 (k : Nat))) [0, 1, 2, 3, 4, 5, 6, 7, 8, 9, 10, 11, 12, 13, 14, 15] 0 (by intro _ _ d _ _ h; cases d <;> exact h) (by kernel_rfl) (by kernel_rfl) hSw3 ?_
        (iterate 16 (first | (refine takes_yes (v := ?_) rfl (by rfl) ?_ ?_; rotate_left; (focus ((intro w' hS'; (try dsimp only at hS'); go_simp; try (with_reducible rfl)); done)); (try simp only [Act.put, List.setIfInBounds_toArray, List.set_cons_zero, List.set_cons_succ])) | (refine takes_no rfl (by rfl) ?_; (try simp only [Act.put, List.setIfInBounds_toArray, List.set_cons_zero, List.set_cons_succ]))))
        refine takes_nil ?_
        refine wpAnyH_done (by kernel_rfl) ?_ _
        obtain ⟨w3, hw3⟩ : ∃ X, wr.drew = X := ⟨_, rfl⟩
        rw [hw3] at HSw3 hBw3 e0w3 e1w3 hSw3
        try rw [hw3]
        clear hw3
        clear e0w3 e1w3 hSw3
        go_wp2
        go_meet
        case rel => exact ⟨n, rfl, hkn, hn9, HSw3.out, hBw3, HE.out⟩
    · have k1 : decide ((m : Int) < (s.size : Int)) = false := by simp; omega
      have k1n : decide (m < s.size) = false := by simp; omega
      have HE := Lib.hid (show n = whB (s.data.toList.drop k) by
        rw [← HG.out, hm, drop_end s m (by omega)]
        rfl)
      clear HG
      go_wp2_with fail
      refine wp_region_takes (fun W' : World => W'.cell? ⟨p, 0, none⟩ = some (.string s) ∧ W'.cell? ⟨p, 1, none⟩ = some (.int .i64 (k : Nat))) [0, 1, 2, 3, 4, 5, 6, 7, 8, 9, 10, 11, 12, 13, 14, 15] 0 (by intro _ _ d _ _ h; cases d <;> exact h) (by kernel_rfl) (by kernel_rfl) hSw3 ?_
      (iterate 16 (first | (refine takes_yes (v := ?_) rfl (by rfl) ?_ ?_; rotate_left; (focus ((intro w' hS'; (try dsimp only at hS'); go_simp; try (with_reducible rfl)); done)); (try simp only [Act.put, List.setIfInBounds_toArray, List.set_cons_zero, List.set_cons_succ])) | (refine takes_no rfl (by rfl) ?_; (try simp only [Act.put, List.setIfInBounds_toArray, List.set_cons_zero, List.set_cons_succ]))))
      refine takes_nil ?_
      refine wpAnyH_done (by kernel_rfl) ?_ _
      obtain ⟨w3, hw3⟩ : ∃ X, wr.drew = X := ⟨_, rfl⟩
      rw [hw3] at HSw3 hBw3 e0w3 e1w3 hSw3
      try rw [hw3]
      clear hw3
      clear e0w3 e1w3 hSw3
      go_wp2
      go_meet
      case rel => exact ⟨n, rfl, hkn, hn9, HSw3.out, hBw3, HE.out⟩
end Go.Proofs.YtdelpialeajajaaGreatDoor

/- The document's reader: byNumber. -/
namespace Go.Proofs.YtdelpialeajajaaGreatDoor
open Go Go.RowKit
set_option maxRecDepth 10000

/-- is the message at hand a branch by a number -/
def numS (x : Sc) : Bool := x.opn.getLast?.getD false

theorem bools_last (l : List Bool) (m : Nat) (h : l.length = m + 1) : (boolsC l)[m]? = some (.bool (l.getLast?.getD false)) := by
  unfold boolsC
  rw [List.getElem?_map, List.getLast?_eq_getElem?, h, Nat.add_sub_cancel, List.getElem?_eq_getElem (by omega)]
  rfl

set_option maxHeartbeats 4000000 in
theorem scan_byNumber (p : Nat) (s : ByteArray) (x : Sc) (w : World) (h : ScanAt p s x w) :
    Calls Tryz.prog 69 #[.pointer (some ⟨p, 0, none⟩)] w (ScanB p s (.bool (numS x)) x w) := by
  have HH := Lib.hid h
  have HD := Lib.hid (h.below (Below.refl _ _).drew)
  have HB := Lib.hid (show Fr p w w.drew from (Fr.refl _ _).drew)
  obtain ⟨v2, v3, -, -, h3, h3', -⟩ := h.rows
  obtain ⟨n, hn⟩ : ∃ n, x.opn.length = n := ⟨_, rfl⟩
  rw [hn] at h3'
  have hlo := h.lopn
  have HN := Lib.hid hn
  by_cases h0 : n = 0
  · have HF := Lib.hid (show numS x = false by unfold numS; rw [show x.opn = [] from List.eq_nil_of_length_eq_zero (by omega)]; rfl)
    obtain ⟨oa, oc, rfl⟩ := own_slice h3'
    have k0 : decide (0 < n) = false := by simp; omega
    have k1 : decide ((0 : Int) < (n : Int)) = false := by simp; omega
    have hS0 : w.cell? ⟨p, 3, none⟩ = some (.slice oa (n : Nat) oc) := h3
    clear h h0 hn h3 h3'
    go_enter Tryz.func69, Tryz.ntmps69
    go_wp2_with fail
    refine wp_region_takes (fun W' : World => W'.cell? ⟨p, 3, none⟩ = some (.slice oa (n : Nat) oc)) [0, 1, 2, 3, 4, 5, 6, 7, 8, 9, 10, 11, 12, 13, 14, 15, 16, 17, 18, 19, 20] 0 (by intro _ _ d _ _ h; cases d <;> exact h) (by kernel_rfl) (by kernel_rfl) hS0 ?_
    (iterate 21 (first | (refine takes_yes (v := ?_) rfl (by rfl) ?_ ?_; rotate_left; (focus ((intro w' hS'; (try dsimp only at hS'); go_simp; try (with_reducible rfl)); done)); (try simp only [Act.put, List.setIfInBounds_toArray, List.set_cons_zero, List.set_cons_succ])) | (refine takes_no rfl (by rfl) ?_; (try simp only [Act.put, List.setIfInBounds_toArray, List.set_cons_zero, List.set_cons_succ]))))
    refine takes_nil ?_
    refine wpAnyH_done (by kernel_rfl) ?_ _
    go_wp2
    go_ret
    rw [HF.out]
    exact ⟨rfl, HD.out, HB.out⟩
  · obtain ⟨m, hm⟩ : ∃ m, n = m + 1 := ⟨n - 1, by omega⟩
    obtain ⟨b, hb⟩ : ∃ b, numS x = b := ⟨_, rfl⟩
    obtain ⟨g, oc, rfl, hpg, hgw, hcell⟩ := own_some h3' (by omega)
    have hc := hcell m (by omega)
    rw [bools_last x.opn m (by omega), show x.opn.getLast?.getD false = b from hb] at hc
    have HF := Lib.hid hb
    have k0 : decide (0 < n) = true := by simp; omega
    have k1 : decide ((0 : Int) < (n : Int)) = true := by simp; omega
    have q1 : (n : Int) - 1 = (m : Int) := by omega
    have q2 : IntKind.i64.wrap (m : Int) = (m : Int) := by simp [IntKind.wrap, IntKind.signed, IntKind.bits]; omega
    have q3 : m < n := by omega
    have q4 : (m : Int) < (n : Int) := by omega
    have hS0 : w.cell? ⟨p, 3, none⟩ = some (.slice (some ⟨g, 0, none⟩) (n : Nat) oc) ∧ w.cell? ⟨g, m, none⟩ = some (.bool b) := ⟨h3, hc⟩
    clear h h0 hn h3 h3' hb hcell hc hm
    go_enter Tryz.func69, Tryz.ntmps69
    go_wp2_with fail
    refine wp_region_takes (fun W' : World => W'.cell? ⟨p, 3, none⟩ = some (.slice (some ⟨g, 0, none⟩) (n : Nat) oc) ∧ W'.cell? ⟨g, m, none⟩ = some (.bool b)) [0, 1, 2, 3, 4, 5, 6, 7, 8, 9, 10, 11, 12, 13, 14, 15, 16, 17, 18, 19, 20] 0 (by intro _ _ d _ _ h; cases d <;> exact h) (by kernel_rfl) (by kernel_rfl) hS0 ?_
    (iterate 21 (first | (refine takes_yes (v := ?_) rfl (by rfl) ?_ ?_; rotate_left; (focus ((intro w' hS'; (try dsimp only at hS'); go_simp; try (with_reducible rfl)); done)); (try simp only [Act.put, List.setIfInBounds_toArray, List.set_cons_zero, List.set_cons_succ])) | (refine takes_no rfl (by rfl) ?_; (try simp only [Act.put, List.setIfInBounds_toArray, List.set_cons_zero, List.set_cons_succ]))))
    refine takes_nil ?_
    refine wpAnyH_done (by kernel_rfl) ?_ _
    go_wp2
    go_ret
    rw [HF.out]
    exact ⟨rfl, HD.out, HB.out⟩
end Go.Proofs.YtdelpialeajajaaGreatDoor
