import Derived.Test.YtdelpialeajajaaGreatDoorJC8

/- The document's reader: what stands at the place at hand. -/
namespace Go.Proofs.YtdelpialeajajaaGreatDoor
open Go Go.RowKit
set_option maxRecDepth 10000

def oneC (s : ByteArray) (x : Sc) (c : UInt8) : Sc :=
  if c = 39 then apoS s x (numS x)
  else if c = 123 then braceS s x
  else if c = 125 then if x.opn = [] then faultS x 3 x.i else behindS s { x with i := x.i + 1, out := x.out ++ [⟨93, [], [], [], [], 0⟩] }
  else if c = 35 ∧ numS x = true then { x with i := x.i + 1, out := x.out ++ [⟨35, [], [], [], [], 0⟩] }
  else sayS { x with i := x.i + 1 } [c]
def oneS (s : ByteArray) (x : Sc) : Sc := match byteAt s x.i with | none => x | some c => oneC s x c

theorem extract_one (s : ByteArray) (k l : Nat) (h : k < s.size) (hl : k + 1 = l) : s.extract k l = ⟨#[s[k]]⟩ := by
  subst hl
  rw [extract_piece, drop_at s k h]
  rfl

set_option maxHeartbeats 8000000 in
theorem scan_one (p : Nat) (s : ByteArray) (x : Sc) (w : World) (h : ScanAt p s x w) (hin : x.i < s.size) (hok : OkS x) :
    Calls Tryz.prog 48 #[.pointer (some ⟨p, 0, none⟩)] w (ScanQ p s (.tuple #[]) (oneS s x) w) := by
  have HH := Lib.hid h
  obtain ⟨k, hk⟩ : ∃ k, x.i = k := ⟨_, rfl⟩
  have HK := Lib.hid hk
  have HOK := Lib.hid hok
  have c0 := h.c0
  have c1 := h.c1
  have hsz := h.size
  have hout : x.out.length + 2 ≤ 1000000 := by have := hok.n; omega
  have hopn : x.opn.length + 2 ≤ 1000000 := by have := hok.o; omega
  have hks : k < s.size := by rw [← hk]; exact hin
  have hksi : (k : Int) < (s.size : Int) := by omega
  rw [hk] at c1
  obtain ⟨d, hd⟩ : ∃ d, s[k] = d := ⟨_, rfl⟩
  have HE := Lib.hid (show oneS s x = oneC s x d by unfold oneS; rw [hk, byteAt_lt hks, hd])
  have HIN := Lib.hid hin
  obtain ⟨num, hnum⟩ : ∃ n, numS x = n := ⟨_, rfl⟩
  have HNUM := Lib.hid hnum
  obtain ⟨k1, hk1⟩ : ∃ j, k + 1 = j := ⟨_, rfl⟩
  have HK1 := Lib.hid hk1
  have hk1s : k1 ≤ s.size := by omega
  clear h hk hok hin hnum hk1
  go_enter Tryz.func48, Tryz.ntmps48
  go_wp2_with fail
  have hS0 : w.drew.cell? ⟨p, 0, none⟩ = some (.string s) ∧ w.drew.cell? ⟨p, 1, none⟩ = some (.int .i64 (k : Nat)) := ⟨c0, c1⟩
  refine wp_region_takes (fun W' : World => W'.cell? ⟨p, 0, none⟩ = some (.string s) ∧ W'.cell? ⟨p, 1, none⟩ = some (.int .i64 (k : Nat))) [0, 1, 2, 3, 4, 5, 6, 7, 8, 9] 0 (by intro _ _ d _ _ h; cases d <;> exact h) (by kernel_rfl) (by kernel_rfl) hS0 ?_
  (iterate 10 (first | (refine takes_yes (v := ?_) rfl (by rfl) ?_ ?_; rotate_left; (focus ((intro w' hS'; (try dsimp only at hS'); go_simp; try (with_reducible rfl)); done)); (try simp only [Act.put, List.setIfInBounds_toArray, List.set_cons_zero, List.set_cons_succ])) | (refine takes_no rfl (by rfl) ?_; (try simp only [Act.put, List.setIfInBounds_toArray, List.set_cons_zero, List.set_cons_succ]))))
  refine takes_nil ?_
  refine wpAnyH_done (by kernel_rfl) ?_ _
  have hs1 := HH.out.below (Below.refl _ _).drew
  have hw1 : Below p w w.drew := (Below.refl p w).drew
  obtain ⟨w1, hW1⟩ : ∃ X, w.drew = X := ⟨_, rfl⟩
  rw [hW1] at hs1 hw1 ⊢
  have HS1 := Lib.hid hs1
  have HW1 := Lib.hid hw1
  clear hs1 hw1 hS0 c0 c1 hW1
  go_wp2_with fail
  refine (scan_byNumber p s x w1 HS1.out).mono ?_
  rintro e w2 ⟨rfl, hs2, hf2⟩
  rw [HNUM.out]
  have HS := Lib.hid hs2
  have HW := Lib.hid (HW1.out.trans (hf2.below HS1.out))
  clear hs2 hf2
  by_cases h39 : d = 39
  · have j1 : ((d.toNat : Int) == 39) = true := by rw [h39]; rfl
    have HE := Lib.hid (HE.out.trans (show oneC s x d = apoS s x num by rw [← HNUM.out]; exact if_pos h39))
    clear h39
    go_wp2_with fail
    refine (scan_apostrophe p s x num w2 HS.out HIN.out HOK.out).mono ?_
    rintro e w4 ⟨rfl, hs4, hb4⟩
    have HS4 := Lib.hid hs4
    have HW4 := Lib.hid (HW.out.trans hb4)
    clear hs4 hb4
    go_wp2
    refine bodyPost_ret (v := .tuple #[]) ?_ rfl ?_
    · simp [results, Tryz.results48, go_sem]
    rw [HE.out]
    exact ⟨rfl, HS4.out, HW4.out⟩
  have j1 : ((d.toNat : Int) == 39) = false := byte_ne h39
  by_cases h123 : d = 123
  · have j2 : ((d.toNat : Int) == 123) = true := by rw [h123]; rfl
    have HE := Lib.hid (HE.out.trans (show oneC s x d = braceS s x by unfold oneC; rw [if_neg h39, if_pos h123]))
    clear h39 h123
    go_wp2_with fail
    refine (scan_brace p s x w2 HS.out HIN.out hout (by omega)).mono ?_
    rintro e w4 ⟨rfl, hs4, hb4⟩
    have HS4 := Lib.hid hs4
    have HW4 := Lib.hid (HW.out.trans hb4)
    clear hs4 hb4
    go_wp2
    refine bodyPost_ret (v := .tuple #[]) ?_ rfl ?_
    · simp [results, Tryz.results48, go_sem]
    rw [HE.out]
    exact ⟨rfl, HS4.out, HW4.out⟩
  have j2 : ((d.toNat : Int) == 123) = false := byte_ne h123
  by_cases h125 : d = 125
  · have j3 : ((d.toNat : Int) == 125) = true := by rw [h125]; rfl
    have HE := Lib.hid (HE.out.trans (show oneC s x d = if x.opn = [] then faultS x 3 x.i else behindS s { x with i := x.i + 1, out := x.out ++ [⟨93, [], [], [], [], 0⟩] } by unfold oneC; rw [if_neg h39, if_neg h123, if_pos h125]))
    clear h39 h123 h125
    obtain ⟨v2, v3, -, -, h3, h3', -⟩ := HS.out.rows
    obtain ⟨n, hn⟩ : ∃ n, x.opn.length = n := ⟨_, rfl⟩
    rw [hn] at h3'
    obtain ⟨oa, oc, rfl⟩ := own_slice h3'
    clear h3'
    by_cases hn0 : n = 0
    · have j4 : ((n : Int) == 0) = true := by simp [hn0]
      have HE := Lib.hid (HE.out.trans (if_pos (List.eq_nil_of_length_eq_zero (hn.trans hn0))))
      have c1 := HS.out.c1
      rw [HK.out] at c1
      rw [HK.out] at HE
      clear hn hn0
      go_wp2_with fail
      refine (scan_fault p s x 3 k w2 HS.out).mono ?_
      rintro e w4 ⟨rfl, hs4, hb4⟩
      have HS4 := Lib.hid hs4
      have HW4 := Lib.hid (HW.out.trans (hb4.below HS.out))
      clear hs4 hb4
      go_wp2
      refine bodyPost_ret (v := .tuple #[]) ?_ rfl ?_
      · simp [results, Tryz.results48, go_sem]
      rw [HE.out]
      exact ⟨rfl, HS4.out, HW4.out⟩
    have j4 : ((n : Int) == 0) = false := by simp; omega
    have hne : x.opn ≠ [] := fun e => hn0 (by rw [← hn, e]; rfl)
    have HE := Lib.hid (HE.out.trans (if_neg hne))
    have HNE := Lib.hid hne
    have q1 : (k : Int) + 1 = (k1 : Int) := by have := HK1.out; omega
    have c1 := HS.out.c1
    have z1 := HS.out.z 1
    rw [HK.out] at c1
    clear hn hn0 hne
    go_upto_region 12 with fail
    have hs3 := HS.out.put1 k1 hk1s
    have hw3 := below_put HW.out (b := p) (j := 1) (u := .int .i64 (k1 : Nat)) (Nat.le_refl _)
    obtain ⟨w3, hW3⟩ : ∃ X, w2.setCell ⟨p, 1, none⟩ (.int .i64 (k1 : Nat)) = X := ⟨_, rfl⟩
    rw [hW3] at hs3 hw3
    try rw [hW3]
    clear h3 HS HW hW3 c1 z1
    have HS := Lib.hid hs3
    have HW := Lib.hid hw3
    clear hs3 hw3
    obtain ⟨Y, hY⟩ : ∃ Y, ({ x with i := k1 } : Sc) = Y := ⟨_, rfl⟩
    rw [hY] at HS
    have hlo : Y.out.length + 1 ≤ 1000000 := by rw [← hY]; show x.out.length + 1 ≤ 1000000; omega
    have HY := Lib.hid hY
    clear hY
    obtain ⟨v2, v3, h2, h2', h3, h3', hd⟩ := HS.out.rows
    have z2 := HS.out.z 2
    obtain ⟨no, hno⟩ : ∃ no, Y.out.length = no := ⟨_, rfl⟩
    rw [hno] at h2' hlo
    have H3 := Lib.hid h3'
    have HD := Lib.hid hd
    have H2 := Lib.hid h2'
    have HNO := Lib.hid hno
    clear h2' h3' hd hno
    go_wp2_with (at_builtin; refine list_gen ?_)
    intro W1 hW1
    have hbA := (show Below w3.heap.size w3 W1 by rw [hW1]; exact (Below.refl _ _).alloc (Nat.le_refl _) _)
    have hC := fun i => cell_made w3 #[.int .u8 93, .string ⟨#[]⟩, .string ⟨#[]⟩, .string ⟨#[]⟩, .string ⟨#[]⟩, .int .i64 0] 61 (0, 0) i
    rw [← hW1] at hC
    have hsA := hbA.size
    have hlt := HS.out.lt
    have s1 : W1.heap.size = w3.heap.size + 1 := by rw [hW1]; simp
    have HO := Lib.hid (own_below H2.out hbA)
    have HBA := Lib.hid hbA
    clear hW1
    refine app_at elem_marks rfl _ _ rfl (p + 1) _ no (marksC Y.out) rfl HO.out ⟨w3.heap.size, 0, none⟩ 1 1 (markV ⟨93, [], [], [], [], 0⟩) rfl rfl ?x1 ?x2 (by omega) (by omega) ?x3
    case x1 =>
      intro j u hu
      rw [addr_add0]
      have := hC j
      rw [this]
      simpa [markV] using hu
    case x2 =>
      intro u hu
      simp [markV] at hu
      rcases hu with rfl | rfl | rfl | rfl | rfl | rfl <;> rfl
    intro v' w' ho hg hw
    have hgr := HS.out.grow2 (m := ⟨93, [], [], [], [], 0⟩) (by rw [HNO.out]; exact H2.out) h2 h3 H3.out HD.out HBA.out (by rw [HNO.out]; exact ho) hg hw (by rw [HNO.out]; omega)
    have C := HS.out.cells5 HBA.out hg (fun g e => (H2.out.lt g e).1)
    have e2 := hg.cell ((HBA.out.cell (p := ⟨p, 2, none⟩) HS.out.lt).trans h2) (fun e => Nat.lt_irrefl _ ((H2.out.lt p e.symm).1))
    have z2 := C.z 2
    obtain ⟨na, nc, rfl⟩ := own_slice ho
    have HN := Lib.hid hgr
    clear hgr C ho hg hw hC
    obtain ⟨Z, hZ⟩ : ∃ Z, ({ Y with out := Y.out ++ [⟨93, [], [], [], [], 0⟩] } : Sc) = Z := ⟨_, rfl⟩
    rw [hZ] at HN
    have hz1 : Z.out.length + 1 ≤ 1000000 := by rw [← hZ, ← HY.out]; simp; omega
    have hz2 : Z.opn ≠ [] := by rw [← hZ, ← HY.out]; exact HNE.out
    have HE := Lib.hid (HE.out.trans (show _ = behindS s Z by rw [← hZ, ← HY.out, HK.out, HK1.out]))
    have HZ2 := Lib.hid hz2
    clear hZ hz2
    go_wp2_with fail
    refine (scan_behind p s Z _ HN.out.1 HZ2.out hz1).mono ?_
    rintro e w4 ⟨rfl, hs4, hb4⟩
    have HS4 := Lib.hid hs4
    have HW4 := Lib.hid ((HW.out.trans HN.out.2).trans hb4)
    clear hs4 hb4
    go_wp2
    refine bodyPost_ret (v := .tuple #[]) ?_ rfl ?_
    · simp [results, Tryz.results48, go_sem]
    rw [HE.out]
    exact ⟨rfl, HS4.out, HW4.out⟩
  have j3 : ((d.toNat : Int) == 125) = false := byte_ne h125
  by_cases h35 : d = 35 ∧ num = true
  · obtain ⟨h35, hnt⟩ := h35
    have j5 : ((d.toNat : Int) == 35) = true := by rw [h35]; rfl
    have HE := Lib.hid (HE.out.trans (show oneC s x d = { x with i := x.i + 1, out := x.out ++ [⟨35, [], [], [], [], 0⟩] } by unfold oneC; rw [if_neg h39, if_neg h123, if_neg h125, if_pos ⟨h35, HNUM.out.trans hnt⟩]))
    subst hnt
    have q1 : (k : Int) + 1 = (k1 : Int) := by have := HK1.out; omega
    have c1 := HS.out.c1
    have z1 := HS.out.z 1
    rw [HK.out] at c1
    clear h39 h123 h125 h35
    go_upto_region 16 with fail
    have hs3 := HS.out.put1 k1 hk1s
    have hw3 := below_put HW.out (b := p) (j := 1) (u := .int .i64 (k1 : Nat)) (Nat.le_refl _)
    obtain ⟨w3, hW3⟩ : ∃ X, w2.setCell ⟨p, 1, none⟩ (.int .i64 (k1 : Nat)) = X := ⟨_, rfl⟩
    rw [hW3] at hs3 hw3
    try rw [hW3]
    clear HS HW hW3 c1 z1
    have HS := Lib.hid hs3
    have HW := Lib.hid hw3
    clear hs3 hw3
    obtain ⟨Y, hY⟩ : ∃ Y, ({ x with i := k1 } : Sc) = Y := ⟨_, rfl⟩
    rw [hY] at HS
    have hlo : Y.out.length + 1 ≤ 1000000 := by rw [← hY]; show x.out.length + 1 ≤ 1000000; omega
    have HY := Lib.hid hY
    clear hY
    obtain ⟨v2, v3, h2, h2', h3, h3', hd⟩ := HS.out.rows
    have z2 := HS.out.z 2
    obtain ⟨no, hno⟩ : ∃ no, Y.out.length = no := ⟨_, rfl⟩
    rw [hno] at h2' hlo
    have H3 := Lib.hid h3'
    have HD := Lib.hid hd
    have H2 := Lib.hid h2'
    have HNO := Lib.hid hno
    clear h2' h3' hd hno
    go_wp2_with (at_builtin; refine list_gen ?_)
    intro W1 hW1
    have hbA := (show Below w3.heap.size w3 W1 by rw [hW1]; exact (Below.refl _ _).alloc (Nat.le_refl _) _)
    have hC := fun i => cell_made w3 #[.int .u8 35, .string ⟨#[]⟩, .string ⟨#[]⟩, .string ⟨#[]⟩, .string ⟨#[]⟩, .int .i64 0] 61 (0, 0) i
    rw [← hW1] at hC
    have hsA := hbA.size
    have hlt := HS.out.lt
    have s1 : W1.heap.size = w3.heap.size + 1 := by rw [hW1]; simp
    have HO := Lib.hid (own_below H2.out hbA)
    have HBA := Lib.hid hbA
    clear hW1
    refine app_at elem_marks rfl _ _ rfl (p + 1) _ no (marksC Y.out) rfl HO.out ⟨w3.heap.size, 0, none⟩ 1 1 (markV ⟨35, [], [], [], [], 0⟩) rfl rfl ?y1 ?y2 (by omega) (by omega) ?y3
    case y1 =>
      intro j u hu
      rw [addr_add0]
      have := hC j
      rw [this]
      simpa [markV] using hu
    case y2 =>
      intro u hu
      simp [markV] at hu
      rcases hu with rfl | rfl | rfl | rfl | rfl | rfl <;> rfl
    intro v' w' ho hg hw
    have hgr := HS.out.grow2 (m := ⟨35, [], [], [], [], 0⟩) (by rw [HNO.out]; exact H2.out) h2 h3 H3.out HD.out HBA.out (by rw [HNO.out]; exact ho) hg hw (by rw [HNO.out]; omega)
    have C := HS.out.cells5 HBA.out hg (fun g e => (H2.out.lt g e).1)
    have e2 := hg.cell ((HBA.out.cell (p := ⟨p, 2, none⟩) HS.out.lt).trans h2) (fun e => Nat.lt_irrefl _ ((H2.out.lt p e.symm).1))
    have z2 := C.z 2
    obtain ⟨na, nc, rfl⟩ := own_slice ho
    have HN := Lib.hid hgr
    clear hgr C ho hg hw hC
    go_wp2
    refine bodyPost_ret (v := .tuple #[]) ?_ rfl ?_
    · simp [results, Tryz.results48, go_sem]
    rw [HE.out, HK.out, HK1.out]
    have h4 := HN.out.1
    rw [← HY.out] at h4
    exact ⟨rfl, h4, HW.out.trans HN.out.2⟩
  have HE := Lib.hid (HE.out.trans (show oneC s x d = sayS { x with i := x.i + 1 } [d] by unfold oneC; rw [if_neg h39, if_neg h123, if_neg h125, if_neg (by rw [HNUM.out]; exact h35)]))
  have q1 : (k : Int) + 1 = (k1 : Int) := by have := HK1.out; omega
  have c1 := HS.out.c1
  have z1 := HS.out.z 1
  rw [HK.out] at c1
  have HSK := Lib.hid (say_ok (t := [d]) HOK.out.m (by have := HK.out; omega) (by simp))
  have q3 : (k1 : Int) - 1 = (k : Int) := by omega
  have q4 : IntKind.i64.wrap (k : Int) = (k : Int) := by simp [IntKind.wrap, IntKind.signed, IntKind.bits]; omega
  have q5 : k ≤ k1 := by have := HK1.out; omega
  have hHX := Lib.hid (extract_one s k k1 hks HK1.out)
  cases num with
  | true =>
    have h35 : d ≠ 35 := fun e => h35 ⟨e, rfl⟩
    have j5 : ((d.toNat : Int) == 35) = false := byte_ne h35
    clear h39 h123 h125 h35
    go_upto_region 3 with fail
    have hs3 := HS.out.put1 k1 hk1s
    have hw3 := below_put HW.out (b := p) (j := 1) (u := .int .i64 (k1 : Nat)) (Nat.le_refl _)
    obtain ⟨w3, hW3⟩ : ∃ X, w2.setCell ⟨p, 1, none⟩ (.int .i64 (k1 : Nat)) = X := ⟨_, rfl⟩
    rw [hW3] at hs3 hw3
    try rw [hW3]
    clear HS HW hW3 c1 z1
    have HS := Lib.hid hs3
    have HW := Lib.hid hw3
    clear hs3 hw3
    obtain ⟨Y, hY⟩ : ∃ Y, ({ x with i := k1 } : Sc) = Y := ⟨_, rfl⟩
    rw [hY] at HS
    have hlo : Y.out.length + 1 ≤ 1000000 := by rw [← hY]; show x.out.length + 1 ≤ 1000000; omega
    have HY := Lib.hid hY
    clear hY
    have c0 := HS.out.c0
    have c1 := HS.out.c1
    have hyi : Y.i = k1 := by rw [← HY.out]
    rw [hyi] at c1
    clear hyi
    have hS0 : w3.drew.cell? ⟨p, 0, none⟩ = some (.string s) ∧ w3.drew.cell? ⟨p, 1, none⟩ = some (.int .i64 (k1 : Nat)) := ⟨c0, c1⟩
    go_wp2_with fail
    refine wp_region_takes (fun W' : World => W'.cell? ⟨p, 0, none⟩ = some (.string s) ∧ W'.cell? ⟨p, 1, none⟩ = some (.int .i64 (k1 : Nat))) [0, 1, 2, 3, 4, 5, 6, 7, 8, 9, 10, 11, 12, 13, 14] 1 (by intro _ _ d _ _ h; cases d <;> exact h) (by kernel_rfl) (by kernel_rfl) hS0 ?_
    (iterate 15 (first | (refine takes_yes (v := ?_) rfl (by rfl) ?_ ?_; rotate_left; (focus ((intro w' hS'; (try dsimp only at hS'); go_simp; try (with_reducible rfl)); done)); (try simp only [Act.put, List.setIfInBounds_toArray, List.set_cons_zero, List.set_cons_succ])) | (refine takes_no rfl (by rfl) ?_; (try simp only [Act.put, List.setIfInBounds_toArray, List.set_cons_zero, List.set_cons_succ]))))
    refine takes_nil ?_
    refine wpAnyH_only 15 (by kernel_rfl) rfl (fun K hK => ?_)
    go_simp
    rw [hHX.out, hd]
    refine (scan_say p s Y [d] w3.drew (HS.out.below (Below.refl _ _).drew) hlo (fun m hm => HSK.out.1 m (by rw [← HY.out] at hm; exact hm)) (fun m hm => HSK.out.2 m (by rw [← HY.out] at hm; exact hm))).mono ?_
    rintro e w4 ⟨rfl, hs4, hb4⟩
    have hS1 : w4.cell? ⟨p, 0, none⟩ = some (.string s) ∧ w4.cell? ⟨p, 1, none⟩ = some (.int .i64 (k1 : Nat)) := ⟨hs4.c0, by rw [hs4.c1, (say_i Y [d]).1, ← HY.out]⟩
    have HS4 := Lib.hid hs4
    have HW4 := Lib.hid (HW.out.drew.trans hb4)
    clear hs4 hb4
    refine hK.out _ _ hS1 (fun _ => ?_)
    clear hK K hS1
    refine wpAnyH_done (by kernel_rfl) ?_ _
    go_wp2
    refine bodyPost_ret (v := .tuple #[]) ?_ rfl ?_
    · simp [results, Tryz.results48, go_sem]
    rw [HE.out, HK.out, HK1.out]
    have h4 := HS4.out
    rw [← HY.out] at h4
    exact ⟨rfl, h4, HW4.out⟩
  | false =>
    by_cases h35a : d = 35
    · have j5 : ((d.toNat : Int) == 35) = true := by rw [h35a]; rfl
      clear h39 h123 h125 h35 h35a
      go_upto_region 3 with fail
      have hs3 := HS.out.put1 k1 hk1s
      have hw3 := below_put HW.out (b := p) (j := 1) (u := .int .i64 (k1 : Nat)) (Nat.le_refl _)
      obtain ⟨w3, hW3⟩ : ∃ X, w2.setCell ⟨p, 1, none⟩ (.int .i64 (k1 : Nat)) = X := ⟨_, rfl⟩
      rw [hW3] at hs3 hw3
      try rw [hW3]
      clear HS HW hW3 c1 z1
      have HS := Lib.hid hs3
      have HW := Lib.hid hw3
      clear hs3 hw3
      obtain ⟨Y, hY⟩ : ∃ Y, ({ x with i := k1 } : Sc) = Y := ⟨_, rfl⟩
      rw [hY] at HS
      have hlo : Y.out.length + 1 ≤ 1000000 := by rw [← hY]; show x.out.length + 1 ≤ 1000000; omega
      have HY := Lib.hid hY
      clear hY
      have c0 := HS.out.c0
      have c1 := HS.out.c1
      have hyi : Y.i = k1 := by rw [← HY.out]
      rw [hyi] at c1
      clear hyi
      have hS0 : w3.drew.cell? ⟨p, 0, none⟩ = some (.string s) ∧ w3.drew.cell? ⟨p, 1, none⟩ = some (.int .i64 (k1 : Nat)) := ⟨c0, c1⟩
      go_wp2_with fail
      refine wp_region_takes (fun W' : World => W'.cell? ⟨p, 0, none⟩ = some (.string s) ∧ W'.cell? ⟨p, 1, none⟩ = some (.int .i64 (k1 : Nat))) [0, 1, 2, 3, 4, 5, 6, 7, 8, 9, 10, 11, 12, 13, 14] 1 (by intro _ _ d _ _ h; cases d <;> exact h) (by kernel_rfl) (by kernel_rfl) hS0 ?_
      (iterate 15 (first | (refine takes_yes (v := ?_) rfl (by rfl) ?_ ?_; rotate_left; (focus ((intro w' hS'; (try dsimp only at hS'); go_simp; try (with_reducible rfl)); done)); (try simp only [Act.put, List.setIfInBounds_toArray, List.set_cons_zero, List.set_cons_succ])) | (refine takes_no rfl (by rfl) ?_; (try simp only [Act.put, List.setIfInBounds_toArray, List.set_cons_zero, List.set_cons_succ]))))
      refine takes_nil ?_
      refine wpAnyH_only 15 (by kernel_rfl) rfl (fun K hK => ?_)
      go_simp
      rw [hHX.out, hd]
      refine (scan_say p s Y [d] w3.drew (HS.out.below (Below.refl _ _).drew) hlo (fun m hm => HSK.out.1 m (by rw [← HY.out] at hm; exact hm)) (fun m hm => HSK.out.2 m (by rw [← HY.out] at hm; exact hm))).mono ?_
      rintro e w4 ⟨rfl, hs4, hb4⟩
      have hS1 : w4.cell? ⟨p, 0, none⟩ = some (.string s) ∧ w4.cell? ⟨p, 1, none⟩ = some (.int .i64 (k1 : Nat)) := ⟨hs4.c0, by rw [hs4.c1, (say_i Y [d]).1, ← HY.out]⟩
      have HS4 := Lib.hid hs4
      have HW4 := Lib.hid (HW.out.drew.trans hb4)
      clear hs4 hb4
      refine hK.out _ _ hS1 (fun _ => ?_)
      clear hK K hS1
      refine wpAnyH_done (by kernel_rfl) ?_ _
      go_wp2
      refine bodyPost_ret (v := .tuple #[]) ?_ rfl ?_
      · simp [results, Tryz.results48, go_sem]
      rw [HE.out, HK.out, HK1.out]
      have h4 := HS4.out
      rw [← HY.out] at h4
      exact ⟨rfl, h4, HW4.out⟩
    · have j5 : ((d.toNat : Int) == 35) = false := byte_ne h35a
      clear h39 h123 h125 h35 h35a
      go_upto_region 3 with fail
      have hs3 := HS.out.put1 k1 hk1s
      have hw3 := below_put HW.out (b := p) (j := 1) (u := .int .i64 (k1 : Nat)) (Nat.le_refl _)
      obtain ⟨w3, hW3⟩ : ∃ X, w2.setCell ⟨p, 1, none⟩ (.int .i64 (k1 : Nat)) = X := ⟨_, rfl⟩
      rw [hW3] at hs3 hw3
      try rw [hW3]
      clear HS HW hW3 c1 z1
      have HS := Lib.hid hs3
      have HW := Lib.hid hw3
      clear hs3 hw3
      obtain ⟨Y, hY⟩ : ∃ Y, ({ x with i := k1 } : Sc) = Y := ⟨_, rfl⟩
      rw [hY] at HS
      have hlo : Y.out.length + 1 ≤ 1000000 := by rw [← hY]; show x.out.length + 1 ≤ 1000000; omega
      have HY := Lib.hid hY
      clear hY
      have c0 := HS.out.c0
      have c1 := HS.out.c1
      have hyi : Y.i = k1 := by rw [← HY.out]
      rw [hyi] at c1
      clear hyi
      have hS0 : w3.drew.cell? ⟨p, 0, none⟩ = some (.string s) ∧ w3.drew.cell? ⟨p, 1, none⟩ = some (.int .i64 (k1 : Nat)) := ⟨c0, c1⟩
      go_wp2_with fail
      refine wp_region_takes (fun W' : World => W'.cell? ⟨p, 0, none⟩ = some (.string s) ∧ W'.cell? ⟨p, 1, none⟩ = some (.int .i64 (k1 : Nat))) [0, 1, 2, 3, 4, 5, 6, 7, 8, 9, 10, 11, 12, 13, 14] 1 (by intro _ _ d _ _ h; cases d <;> exact h) (by kernel_rfl) (by kernel_rfl) hS0 ?_
      (iterate 15 (first | (refine takes_yes (v := ?_) rfl (by rfl) ?_ ?_; rotate_left; (focus ((intro w' hS'; (try dsimp only at hS'); go_simp; try (with_reducible rfl)); done)); (try simp only [Act.put, List.setIfInBounds_toArray, List.set_cons_zero, List.set_cons_succ])) | (refine takes_no rfl (by rfl) ?_; (try simp only [Act.put, List.setIfInBounds_toArray, List.set_cons_zero, List.set_cons_succ]))))
      refine takes_nil ?_
      refine wpAnyH_only 15 (by kernel_rfl) rfl (fun K hK => ?_)
      go_simp
      rw [hHX.out, hd]
      refine (scan_say p s Y [d] w3.drew (HS.out.below (Below.refl _ _).drew) hlo (fun m hm => HSK.out.1 m (by rw [← HY.out] at hm; exact hm)) (fun m hm => HSK.out.2 m (by rw [← HY.out] at hm; exact hm))).mono ?_
      rintro e w4 ⟨rfl, hs4, hb4⟩
      have hS1 : w4.cell? ⟨p, 0, none⟩ = some (.string s) ∧ w4.cell? ⟨p, 1, none⟩ = some (.int .i64 (k1 : Nat)) := ⟨hs4.c0, by rw [hs4.c1, (say_i Y [d]).1, ← HY.out]⟩
      have HS4 := Lib.hid hs4
      have HW4 := Lib.hid (HW.out.drew.trans hb4)
      clear hs4 hb4
      refine hK.out _ _ hS1 (fun _ => ?_)
      clear hK K hS1
      refine wpAnyH_done (by kernel_rfl) ?_ _
      go_wp2
      refine bodyPost_ret (v := .tuple #[]) ?_ rfl ?_
      · simp [results, Tryz.results48, go_sem]
      rw [HE.out, HK.out, HK1.out]
      have h4 := HS4.out
      rw [← HY.out] at h4
      exact ⟨rfl, h4, HW4.out⟩
end Go.Proofs.YtdelpialeajajaaGreatDoor

/- The document's reader goes on: each step keeps its rows in bounds. -/
namespace Go.Proofs.YtdelpialeajajaaGreatDoor
open Go Go.RowKit
set_option maxRecDepth 10000

/-- from x to y: on, and k marks more at most -/
structure Grow (x y : Sc) (k : Nat) : Prop where
  i : x.i ≤ y.i
  n : y.out.length ≤ x.out.length + k
  o : y.opn.length + x.out.length ≤ x.opn.length + y.out.length
  m : ∀ m ∈ y.out, m ∈ x.out ∨ (m.kind < 256 ∧ m.text.length ≤ y.i)

theorem Grow.trans {x y z : Sc} {k l : Nat} (h : Grow x y k) (g : Grow y z l) : Grow x z (k + l) :=
  ⟨Nat.le_trans h.i g.i, by have := h.n; have := g.n; omega, by have := h.o; have := g.o; omega, fun m hm => by
    rcases g.m m hm with h1 | h1
    · rcases h.m m h1 with h2 | h2
      · exact .inl h2
      · exact .inr ⟨h2.1, Nat.le_trans h2.2 g.i⟩
    · exact .inr h1⟩
theorem Grow.same {x y : Sc} (h : SameR x y) (hi : x.i ≤ y.i) : Grow x y 0 :=
  ⟨hi, by rw [h.1]; omega, by rw [h.1, h.2]; omega, fun m hm => .inl (h.1 ▸ hm)⟩
theorem Grow.ok {x y : Sc} {k : Nat} (h : Grow x y k) (ho : OkS x) (hk : k + 2 * x.i ≤ 2 * y.i) : OkS y :=
  ⟨by have := h.n; have := ho.n; omega, by have := h.o; have := ho.o; omega, fun m hm => by
    rcases h.m m hm with h1 | h1
    · have := ho.m m h1
      exact ⟨this.1, Nat.le_trans this.2 h.i⟩
    · exact h1⟩

theorem fault_i (x : Sc) (e a : Nat) : (faultS x e a).i = x.i := faultS_i x e a
theorem blanks_i (s : ByteArray) (x : Sc) : x.i ≤ (blanksS s x).i := Nat.le_add_right _ _
theorem name_i (s : ByteArray) (x : Sc) : x.i + (nameT s x.i).length = (nameS s x).i := by
  have hl := (nmB_le (s.data.toList.drop x.i)).1
  unfold nameS nameT
  rw [List.length_take, Nat.min_eq_left hl]
theorem whGo_le (f : UInt8) : ∀ (l : List UInt8) (n : Nat), whGo f n l ≤ n + l.length ∧ n ≤ whGo f n l ∧ (n ≤ 9 → whGo f n l ≤ 9)
  | [], n => ⟨Nat.le_refl _, Nat.le_refl _, fun h => h⟩
  | c :: t, n => by
    rw [whGo]
    split
    · next h =>
      have := whGo_le f t (n + 1)
      exact ⟨by simp; omega, by omega, fun _ => this.2.2 (by omega)⟩
    · exact ⟨by simp, Nat.le_refl _, fun h => h⟩
theorem whB_le (l : List UInt8) : whB l ≤ l.length := by
  have := (whGo_le (l.headD 0) l 0).1
  unfold whB
  omega
theorem whole_i (s : ByteArray) (x : Sc) : x.i + (wholeT s x.i).length = (wholeS s x).i := by
  have hl := whB_le (s.data.toList.drop x.i)
  unfold wholeS wholeT
  rw [List.length_take, Nat.min_eq_left hl]
theorem needs_i (s : ByteArray) (x : Sc) (c : UInt8) : x.i ≤ (needsS s x c).i := by
  unfold needsS
  split
  · exact Nat.le_succ _
  · rw [faultS_i]
    exact Nat.le_refl _

theorem branchA_i (s : ByteArray) (x : Sc) (num : Bool) : x.i + (branchT s x num).length = (branchA s x num).i := by
  unfold branchA branchT
  split
  · rw [← whole_i]
    simp
    omega
  · split
    · rw [faultS_i, name_i]
    · rw [name_i]

theorem grow_branch (s : ByteArray) (x : Sc) (num : Bool) : Grow x (branchS s x num) 1 := by
  by_cases h0 : x.err = 0
  · obtain ⟨U, hU⟩ : ∃ U, (if 6 < (needsS s (blanksS s (branchA s x num)) 123).opn.length + 2 then faultS (needsS s (blanksS s (branchA s x num)) 123) 4 (blanksS s (branchA s x num)).i else needsS s (blanksS s (branchA s x num)) 123) = U := ⟨_, rfl⟩
    rw [branchS_eq h0 rfl rfl rfl rfl hU rfl rfl]
    have h1 : SameR x U := by
      rw [← hU]
      split
      · exact (sameR_Y s x num).trans (sameR_fault _ _ _)
      · exact sameR_Y s x num
    have h2 : x.i + (branchT s x num).length ≤ U.i := by
      have a1 := branchA_i s x num
      have a2 := blanks_i s (branchA s x num)
      have a3 := needs_i s (blanksS s (branchA s x num)) 123
      rw [← hU]
      split
      · rw [faultS_i]; omega
      · omega
    refine ⟨by show x.i ≤ U.i; omega, by simp [h1.1], by simp [h1.1, h1.2]; omega, fun m hm => ?_⟩
    have hm2 : m ∈ U.out ++ [⟨91, branchT s x num, [], [], [], x.i⟩] := hm
    rw [List.mem_append, List.mem_singleton, h1.1] at hm2
    rcases hm2 with hm | rfl
    · exact .inl hm
    · exact .inr ⟨by show 91 < 256; decide, by show (branchT s x num).length ≤ U.i; omega⟩
  · rw [show branchS s x num = x from if_pos h0]
    exact ⟨Nat.le_refl _, by omega, by omega, fun m hm => .inl hm⟩

/-- a mark more -/
theorem grow_mark (x : Sc) (m : Mk) (hk : m.kind < 256) (ht : m.text = []) : Grow x { x with out := x.out ++ [m] } 1 :=
  ⟨Nat.le_refl _, by simp, by simp <;> omega, fun k hm => by
    simp only [List.mem_append, List.mem_singleton] at hm
    rcases hm with hm | rfl
    · exact .inl hm
    · exact .inr ⟨hk, by rw [ht]; exact Nat.zero_le _⟩⟩
theorem grow_i (x : Sc) (i : Nat) (h : x.i ≤ i) : Grow x { x with i := i } 0 := Grow.same (sameR_i x i) h

theorem grow_off (s : ByteArray) (num : Bool) (x : Sc) : Grow x (offS s num x) 0 := by
  refine Grow.same (sameR_off s num x) ?_
  unfold offS
  split
  · have h1 := blanks_i s { x with i := x.i + 7 }
    have h2 := whole_i s (blanksS s { x with i := x.i + 7 })
    have h3 := blanks_i s (wholeS s (blanksS s { x with i := x.i + 7 }))
    simp only at h1
    omega
  · exact Nat.le_refl _
theorem grow_br (s : ByteArray) (nm how : Wd) (a : Nat) (num : Bool) (x : Sc) : Grow x (brS s nm how a num x) 2 := by
  rw [brS_eq rfl rfl rfl]
  exact (((grow_off s num x).trans (grow_mark (offS s num x) ⟨40, [], nm, how, offT s num x, a⟩ (by show 40 < 256; decide) rfl)).trans (grow_branch s _ num))
theorem grow_name (s : ByteArray) (x : Sc) : Grow x (nameS s x) 0 := Grow.same (sameR_name s x) (by have := name_i s x; omega)
theorem grow_blanks (s : ByteArray) (x : Sc) : Grow x (blanksS s x) 0 := Grow.same (sameR_blanks s x) (blanks_i s x)
theorem grow_needs (s : ByteArray) (x : Sc) (c : UInt8) : Grow x (needsS s x c) 0 := Grow.same (sameR_needs s x c) (needs_i s x c)
theorem grow_fault (x : Sc) (e a : Nat) : Grow x (faultS x e a) 0 := Grow.same (sameR_fault x e a) (by rw [faultS_i]; exact Nat.le_refl _)
theorem Grow.mono {x y : Sc} {k l : Nat} (h : Grow x y k) (hl : k ≤ l) : Grow x y l := ⟨h.i, Nat.le_trans h.n (by omega), h.o, h.m⟩
theorem grow_how (s : ByteArray) (nm : Wd) (a : Nat) (x : Sc) : Grow x (howS s nm a x) 2 := by
  unfold howS
  dsimp only
  split
  · exact ((grow_name s x).trans (grow_fault _ _ _)).mono (by omega)
  · split
    · exact ((((grow_name s x).trans (grow_blanks s _)).trans (grow_needs s _ 125)).trans (grow_mark _ ⟨110, [], nm, nameT s x.i, [], a⟩ (by show 110 < 256; decide) rfl)).mono (by omega)
    · exact ((((grow_name s x).trans (grow_blanks s _)).trans (grow_needs s _ 44)).trans (grow_blanks s _)).trans (grow_br s _ _ _ _ _)
theorem grow_brace (s : ByteArray) (x : Sc) : Grow { x with i := x.i + 1 } (braceS s x) 2 := by
  have h0 := ((grow_blanks s { x with i := x.i + 1 }).trans (grow_name s _)).trans (grow_blanks s _)
  unfold braceS
  dsimp only
  split
  · exact h0.mono (by omega)
  · split
    · exact ((h0.trans (grow_needs s _ 125)).trans (grow_mark _ ⟨112, [], nameT s (blanksS s { x with i := x.i + 1 }).i, [], [], x.i⟩ (by show 112 < 256; decide) rfl)).mono (by omega)
    · exact (((h0.trans (grow_i _ _ (Nat.le_succ _))).trans (grow_blanks s _)).trans (grow_how s _ _ _)).mono (by omega)
theorem grow_pop (x : Sc) : Grow x { x with opn := x.opn.dropLast } 0 := ⟨Nat.le_refl _, by simp, by simp <;> omega, fun m hm => .inl hm⟩
theorem grow_behind (s : ByteArray) (x : Sc) : Grow x (behindS s x) 1 := by
  unfold behindS
  dsimp only
  have h0 := (grow_pop x).trans (grow_blanks s _)
  split
  · exact ((h0.trans (grow_mark _ ⟨41, [], [], [], [], _⟩ (by show 41 < 256; decide) rfl)).trans (grow_i _ _ (Nat.le_succ _))).mono (by omega)
  · exact (h0.trans (grow_branch s _ _)).mono (by omega)

theorem quote_ok : ∀ (n : Nat) (r : Wd) (X : Sc), X.out.length + 1 ≤ 2 * X.i → X.opn.length ≤ X.out.length → (∀ m ∈ X.out, m.kind < 256 ∧ m.text.length ≤ X.i) → OkS (quoteS n r X) ∧ X.i ≤ (quoteS n r X).i ∧ (quoteS n r X).err = X.err
  | 0, r, X, h1, h2, h3 => ⟨⟨by show X.out.length ≤ 2 * X.i; omega, h2, h3⟩, Nat.le_refl _, rfl⟩
  | n + 1, r, X, h1, h2, h3 => by
    have e1 := say_i X (r.take (r.idxOf 39))
    have e2 := say_len X (r.take (r.idxOf 39))
    have e3 := say_mem X (r.take (r.idxOf 39)) X.i h3
    unfold quoteS
    dsimp only
    split
    · split
      · have f1 := say_i { sayS X (r.take (r.idxOf 39)) with i := X.i + (r.take (r.idxOf 39)).length + 1 } [39]
        have f2 := say_len { sayS X (r.take (r.idxOf 39)) with i := X.i + (r.take (r.idxOf 39)).length + 1 } [39]
        have f3 := say_mem { sayS X (r.take (r.idxOf 39)) with i := X.i + (r.take (r.idxOf 39)).length + 1 } [39] (X.i + (r.take (r.idxOf 39)).length) e3
        simp only at f1 f2 f3
        have ih := quote_ok n (r.drop (r.idxOf 39 + 1)).tail { sayS { sayS X (r.take (r.idxOf 39)) with i := X.i + (r.take (r.idxOf 39)).length + 1 } [39] with i := X.i + (r.take (r.idxOf 39)).length + 2 }
          (by simp only; omega) (by have a1 := congrArg List.length f1.2.1; have a2 := congrArg List.length e1.2.1; simp only at a1 ⊢; omega) (fun m hm => by
            have := f3 m hm
            refine ⟨this.1, ?_⟩
            have h4 := this.2
            simp only [List.length_cons, List.length_nil] at h4
            simp only
            omega)
        refine ⟨ih.1, ?_, ih.2.2.trans (f1.2.2.1.trans e1.2.2.1)⟩
        have := ih.2.1
        simp only at this
        omega
      · refine ⟨⟨by simp only; omega, by simp only; rw [e1.2.1]; omega, fun m hm => ?_⟩, by simp only; omega, e1.2.2.1⟩
        have := e3 m hm
        exact ⟨this.1, by simp only; omega⟩
    · refine ⟨⟨by simp only; omega, by simp only; rw [e1.2.1]; omega, fun m hm => ?_⟩, by simp only; omega, e1.2.2.1⟩
      have := e3 m hm
      exact ⟨this.1, by simp only; omega⟩

theorem say_okS {x : Sc} {t : Wd} {a : Nat} (h : OkS x) (ha : x.i + t.length ≤ a) (h1 : x.i < a) : OkS (sayS { x with i := a } t) ∧ x.i ≤ (sayS { x with i := a } t).i ∧ x.i < (sayS { x with i := a } t).i ∧ (sayS { x with i := a } t).err = x.err := by
  have e1 := say_i { x with i := a } t
  have e2 := say_len { x with i := a } t
  have e3 := say_mem { x with i := a } t x.i h.m
  simp only at e1 e2
  have h4 := h.n
  have h5 := h.o
  refine ⟨⟨by rw [e1.1]; omega, by rw [e1.2.1]; omega, fun m hm => ?_⟩, by rw [e1.1]; omega, by rw [e1.1]; exact h1, e1.2.2.1⟩
  have := e3 m hm
  exact ⟨this.1, by rw [e1.1]; omega⟩

/-- a step goes on, or faults -/
theorem ok_one (s : ByteArray) (x : Sc) (h : OkS x) (h0 : x.err = 0) (hin : x.i < s.size) : OkS (oneS s x) ∧ x.i ≤ (oneS s x).i ∧ ((oneS s x).err = 0 → x.i < (oneS s x).i) := by
  unfold oneS
  rw [byteAt_lt hin]
  simp only
  unfold oneC
  split
  · unfold apoS
    dsimp only
    split
    · have := say_okS (t := [39]) (a := x.i + 1) h (by simp) (by omega)
      exact ⟨this.1, this.2.1, fun _ => this.2.2.1⟩
    · split
      · have := say_okS (t := [39]) (a := x.i + 2) h (by simp) (by omega)
        exact ⟨this.1, this.2.1, fun _ => this.2.2.1⟩
      · have := quote_ok ((s.data.toList.drop (x.i + 1)).length + 1) (s.data.toList.drop (x.i + 1)) { x with i := x.i + 1 } (by have := h.n; simp only; omega) h.o (fun m hm => by
          have := h.m m hm
          exact ⟨this.1, by simp only; omega⟩)
        have h2 := this.2.1
        simp only at h2
        exact ⟨this.1, by omega, fun _ => by omega⟩
  · split
    · have hg := (grow_i x (x.i + 1) (Nat.le_succ _)).trans (grow_brace s x)
      have h2 := (grow_brace s x).i
      simp only at h2
      exact ⟨hg.ok h (by omega), hg.i, fun _ => by omega⟩
    · split
      · split
        · have hg := grow_fault x 3 x.i
          refine ⟨hg.ok h (by rw [faultS_i]; omega), hg.i, fun h3 => ?_⟩
          unfold faultS at h3
          rw [if_pos h0] at h3
          cases h3
        · have hg := ((grow_i x (x.i + 1) (Nat.le_succ _)).trans (grow_mark _ ⟨93, [], [], [], [], 0⟩ (by show 93 < 256; decide) rfl)).trans (grow_behind s _)
          have h2 : x.i + 1 ≤ (behindS s { x with i := x.i + 1, out := x.out ++ [⟨93, [], [], [], [], 0⟩] }).i := by
            have h3 := (grow_behind s { x with i := x.i + 1, out := x.out ++ [⟨93, [], [], [], [], 0⟩] }).i
            exact h3
          refine ⟨hg.ok h ?_, hg.i, fun _ => h2⟩
          show 0 + 1 + 1 + 2 * x.i ≤ 2 * (behindS s { x with i := x.i + 1, out := x.out ++ [⟨93, [], [], [], [], 0⟩] }).i
          omega
      · split
        · have hg := (grow_i x (x.i + 1) (Nat.le_succ _)).trans (grow_mark _ ⟨35, [], [], [], [], 0⟩ (by show 35 < 256; decide) rfl)
          exact ⟨hg.ok h (by simp only; omega), hg.i, fun _ => by simp only; omega⟩
        · have := say_okS (t := [s[x.i]]) (a := x.i + 1) h (by simp) (by omega)
          exact ⟨this.1, this.2.1, fun _ => this.2.2.1⟩

/-- the reader, up to its end -/
def markGo (s : ByteArray) : Nat → Sc → Sc
  | 0, x => x
  | n + 1, x => if x.err = 0 ∧ x.i < s.size then markGo s n (oneS s x) else x
theorem markGo_stop {s : ByteArray} {x : Sc} (h : ¬ (x.err = 0 ∧ x.i < s.size)) : ∀ n, markGo s n x = x
  | 0 => rfl
  | n + 1 => by rw [markGo, if_neg h]
theorem markGo_more {s : ByteArray} {x : Sc} (h : x.err = 0 ∧ x.i < s.size) (n : Nat) : markGo s (n + 1) x = markGo s n (oneS s x) := by rw [markGo, if_pos h]
def startS : Sc := ⟨0, [], [], 0, 0⟩
def marksS (s : ByteArray) : Sc :=
  let x := markGo s (s.size + 1) startS
  if x.err = 0 ∧ x.opn ≠ [] then faultS x 3 s.size else x
end Go.Proofs.YtdelpialeajajaaGreatDoor

/- The document's reader: all marks. -/
namespace Go.Proofs.YtdelpialeajajaaGreatDoor
open Go Go.RowKit
set_option maxRecDepth 10000

theorem scan_start (s : ByteArray) (w : World) (t : TypeId) (hs : s.size ≤ 100000) : ScanAt w.heap.size s startS (w.alloc (.cells #[.string s, .int .i64 0, .slice none 0 0, .slice none 0 0, .int .i64 0, .int .i64 0] t)) := by
  refine ⟨by rw [cell_made]; rfl, by rw [cell_made]; rfl, ⟨.slice none 0 0, .slice none 0 0, by rw [cell_made]; rfl, World.ownsRow_nil _ _ _ _, by rw [cell_made]; rfl, World.ownsRow_nil _ _ _ _, fun g h => by cases h⟩, by rw [cell_made]; rfl, by rw [cell_made]; rfl, fun j => ?_, hs, Nat.zero_le _, Nat.zero_le _, Nat.zero_le _⟩
  have h := heap_alloc_new w (.cells #[.string s, .int .i64 0, .slice none 0 0, .slice none 0 0, .int .i64 0, .int .i64 0] t)
  unfold World.frozen?
  rw [h]
  simp

def MarksQ (s : ByteArray) (w : World) (e : Ending) (w' : World) : Prop :=
  ∃ v2, e = .returned (.tuple #[v2, .int .i64 ((marksS s).err : Nat), .int .i64 ((marksS s).place : Nat)]) ∧ w'.ownsRow (w.heap.size + 1) 61 6 v2 (marksS s).out.length (marksC (marksS s).out) ∧ Below w.heap.size w w'

structure MarkI (p : Nat) (s : ByteArray) (w : World) (F X : Sc) (n : Nat) (wr : World) : Prop where
  at_ : ScanAt p s X wr
  below : Below p w wr
  ok : OkS X
  eq : markGo s n X = F
  fuel : X.err = 0 → s.size < n + X.i
def MarkRel (p : Nat) (s : ByteArray) (w : World) (F : Sc) (wr : World) : Prop := ∃ X n, MarkI p s w F X n wr
def errM (p : Nat) (w : World) : Nat := match w.cell? ⟨p, 4, none⟩ with | some (.int _ n) => if n = 0 then 1 else 0 | _ => 0
theorem errM_at {p : Nat} {s : ByteArray} {x : Sc} {w : World} (h : ScanAt p s x w) : errM p w = if x.err = 0 then 1 else 0 := by
  unfold errM
  rw [h.c4]
  simp

set_option maxHeartbeats 8000000 in
theorem marks_any (s : ByteArray) (w : World) (hs : s.size ≤ 100000) : Calls Tryz.prog 33 #[.string s] w (MarksQ s w) := by
  have HST := Lib.hid (fun t => scan_start s w t hs)
  obtain ⟨p, hp⟩ : ∃ p, w.heap.size = p := ⟨_, rfl⟩
  rw [hp] at HST
  obtain ⟨F, hF⟩ : ∃ F, markGo s (s.size + 1) startS = F := ⟨_, rfl⟩
  have HF := Lib.hid hF
  have HMK := Lib.hid (show marksS s = if F.err = 0 ∧ F.opn ≠ [] then faultS F 3 s.size else F by rw [← hF]; rfl)
  have HPS := Lib.hid hp
  clear hF
  go_enter Tryz.func33, Tryz.ntmps33
  go_wp2_with fail
  refine wp_gen ?_
  intro W0 hW0
  have hs0 : ScanAt p s startS W0 := by rw [hW0]; exact HST.out _
  have hw0 : Below p w W0 := by rw [hW0]; exact (Below.refl _ _).alloc (Nat.le_of_eq hp.symm) _
  try rw [hp]
  have HS0 := Lib.hid hs0
  have HW0 := Lib.hid hw0
  clear hW0 hs0 hw0 hp
  go_loopw [] (fun wr => MarkRel p s w F wr) (fun wr => 2 * (s.size - atSc p wr) + errM p wr)
  case atStart => exact ⟨startS, s.size + 1, HS0.out, HW0.out, ⟨Nat.zero_le _, Nat.zero_le _, fun m hm => by cases hm⟩, HF.out, fun _ => by show s.size < s.size + 1 + 0; omega⟩
  case round =>
    obtain ⟨X, n, hq⟩ := hrel
    have c1 := hq.at_.c1
    have c4 := hq.at_.c4
    have hes := errM_at hq.at_
    have hat := atS hq.at_
    have HQ := Lib.hid hq
    have HS := Lib.hid hq.at_
    have HW := Lib.hid hq.below
    have HES := Lib.hid hes
    have HAT := Lib.hid hat
    obtain ⟨k, hk⟩ : ∃ k, X.i = k := ⟨_, rfl⟩
    rw [hk] at c1
    have HK := Lib.hid hk
    clear hq hk hes hat
    by_cases he : X.err = 0
    · have HE := Lib.hid he
      rw [he] at c4
      by_cases hi : k < s.size
      · have k1 : decide ((k : Int) < (s.size : Int)) = true := by simp; omega
        have k1' : (k : Int) < (s.size : Int) := by omega
        have hone := ok_one s X HQ.out.ok he (by rw [HK.out]; exact hi)
        have HONE := Lib.hid hone
        have HO := Lib.hid (scan_one p s X wr HS.out (by rw [HK.out]; exact hi) HQ.out.ok)
        clear he hone
        go_wp2_with fail
        refine HO.out.mono ?_
        rintro e w4 ⟨rfl, hs4, hb4⟩
        have HS4 := Lib.hid hs4
        have HW4 := Lib.hid (HW.out.trans hb4)
        clear hs4 hb4
        go_wp2_with fail
        go_roundw
        case rel =>
          obtain ⟨m, hm⟩ : ∃ m, n = m + 1 := ⟨n - 1, by have := HQ.out.fuel HE.out; have := HK.out; omega⟩
          refine ⟨oneS s X, m, HS4.out, HW4.out, HONE.out.1, ?_, fun h0 => ?_⟩
          · rw [← HQ.out.eq, hm, markGo_more ⟨HE.out, by rw [HK.out]; exact hi⟩]
          · have h1 := HONE.out.2.2 h0
            have h2 := HQ.out.fuel HE.out
            omega
        case measure =>
          rw [errM_at HS4.out, atS HS4.out, HES.out, HAT.out, if_pos HE.out]
          have h1 := HONE.out.2.1
          have h2 := HONE.out.2.2
          have h3 := HS4.out.here
          have h4 := HK.out
          split
          · next h0 =>
            have := h2 h0
            omega
          · omega
      · have k1 : decide ((k : Int) < (s.size : Int)) = false := by simp; omega
        have k1' : ¬ (k : Int) < (s.size : Int) := by omega
        have hst : markGo s n X = X := markGo_stop (fun h => hi (by rw [← HK.out]; exact h.2)) n
        have HFX := Lib.hid (show F = X from HQ.out.eq.symm.trans hst)
        obtain ⟨v2, v3, -, -, h3, h3', -⟩ := HS.out.rows
        obtain ⟨m, hm⟩ : ∃ m, X.opn.length = m := ⟨_, rfl⟩
        rw [hm] at h3'
        obtain ⟨oa, oc, rfl⟩ := own_slice h3'
        clear he hst h3'
        by_cases hm0 : m = 0
        · have hm1 : X.opn = [] := List.eq_nil_of_length_eq_zero (hm.trans hm0)
          have HMM := Lib.hid (show marksS s = X by rw [HMK.out, HFX.out]; exact if_neg (fun h => h.2 hm1))
          have j4 : decide ((0 : Int) < (m : Int)) = false := by simp; omega
          have j4n : decide (0 < m) = false := by simp; omega
          have j4' : ¬ 0 < m := by omega
          clear hm hm1 hm0
          obtain ⟨v2, v3, h2, h2', -, -, -⟩ := HS.out.rows
          have H2 := Lib.hid h2'
          have c4 := HS.out.c4
          have c5 := HS.out.c5
          obtain ⟨er, her⟩ : ∃ n, X.err = n := ⟨_, rfl⟩
          obtain ⟨pl, hpl⟩ : ∃ n, X.place = n := ⟨_, rfl⟩
          rw [her] at c4
          rw [hpl] at c5
          have HER := Lib.hid her
          have HPL := Lib.hid hpl
          clear h2' her hpl
          go_wp2_with fail
          have hS0 : wr.drew.cell? ⟨p, 2, none⟩ = some v2 ∧ wr.drew.cell? ⟨p, 4, none⟩ = some (.int .i64 (er : Nat)) ∧ wr.drew.cell? ⟨p, 5, none⟩ = some (.int .i64 (pl : Nat)) := ⟨h2, c4, c5⟩
          refine wp_region_takes (fun W' : World => W'.cell? ⟨p, 2, none⟩ = some v2 ∧ W'.cell? ⟨p, 4, none⟩ = some (.int .i64 (er : Nat)) ∧ W'.cell? ⟨p, 5, none⟩ = some (.int .i64 (pl : Nat))) [0, 1, 2, 3, 4, 5, 6, 7, 8, 9, 10, 11, 12, 13, 14] 0 (by intro _ _ d _ _ h; cases d <;> exact h) (by kernel_rfl) (by kernel_rfl) hS0 ?_
          (iterate 15 (first | (refine takes_yes (v := ?_) rfl (by rfl) ?_ ?_; rotate_left; (focus ((intro w' hS'; (try dsimp only at hS'); go_simp; try (with_reducible rfl)); done)); (try simp only [Act.put, List.setIfInBounds_toArray, List.set_cons_zero, List.set_cons_succ])) | (refine takes_no rfl (by rfl) ?_; (try simp only [Act.put, List.setIfInBounds_toArray, List.set_cons_zero, List.set_cons_succ]))))
          refine takes_nil ?_
          refine wpAnyH_done (by kernel_rfl) ?_ _
          go_wp2
          refine bodyPost_ret (v := .tuple #[v2, .int .i64 (er : Nat), .int .i64 (pl : Nat)]) ?_ rfl ?_
          · simp [results, Tryz.results33, go_sem]
          have hm : marksS s = X := HMM.out
          unfold MarksQ
          rw [hm, HER.out, HPL.out]
          exact ⟨v2, rfl, by rw [HPS.out]; exact World.ownsRow.drew H2.out, by rw [HPS.out]; exact HW.out.drew⟩
        · have hne : X.opn ≠ [] := fun e => hm0 (by rw [← hm, e]; rfl)
          have HMM := Lib.hid (show marksS s = faultS X 3 s.size by rw [HMK.out, HFX.out]; exact if_pos ⟨HE.out, hne⟩)
          have j4 : decide ((0 : Int) < (m : Int)) = true := by simp; omega
          have j4n : decide (0 < m) = true := by simp; omega
          have j4' : 0 < m := by omega
          clear hm hne hm0
          go_wp2_with fail
          refine (scan_fault p s X 3 s.size wr HS.out).mono ?_
          rintro e w4 ⟨rfl, hs4, hb4⟩
          obtain ⟨Y, hY⟩ : ∃ Y, faultS X 3 s.size = Y := ⟨_, rfl⟩
          rw [hY] at hs4 HMM
          have HS4 := Lib.hid hs4
          have HW4 := Lib.hid (HW.out.trans (hb4.below HS.out))
          clear hs4 hb4 hY c1 c4 h3
          obtain ⟨v2, v3, h2, h2', -, -, -⟩ := HS4.out.rows
          have H2 := Lib.hid h2'
          have c4 := HS4.out.c4
          have c5 := HS4.out.c5
          obtain ⟨er, her⟩ : ∃ n, Y.err = n := ⟨_, rfl⟩
          obtain ⟨pl, hpl⟩ : ∃ n, Y.place = n := ⟨_, rfl⟩
          rw [her] at c4
          rw [hpl] at c5
          have HER := Lib.hid her
          have HPL := Lib.hid hpl
          clear h2' her hpl
          go_wp2_with fail
          have hS0 : w4.drew.cell? ⟨p, 2, none⟩ = some v2 ∧ w4.drew.cell? ⟨p, 4, none⟩ = some (.int .i64 (er : Nat)) ∧ w4.drew.cell? ⟨p, 5, none⟩ = some (.int .i64 (pl : Nat)) := ⟨h2, c4, c5⟩
          refine wp_region_takes (fun W' : World => W'.cell? ⟨p, 2, none⟩ = some v2 ∧ W'.cell? ⟨p, 4, none⟩ = some (.int .i64 (er : Nat)) ∧ W'.cell? ⟨p, 5, none⟩ = some (.int .i64 (pl : Nat))) [0, 1, 2, 3, 4, 5, 6, 7, 8, 9, 10, 11, 12, 13, 14] 0 (by intro _ _ d _ _ h; cases d <;> exact h) (by kernel_rfl) (by kernel_rfl) hS0 ?_
          (iterate 15 (first | (refine takes_yes (v := ?_) rfl (by rfl) ?_ ?_; rotate_left; (focus ((intro w' hS'; (try dsimp only at hS'); go_simp; try (with_reducible rfl)); done)); (try simp only [Act.put, List.setIfInBounds_toArray, List.set_cons_zero, List.set_cons_succ])) | (refine takes_no rfl (by rfl) ?_; (try simp only [Act.put, List.setIfInBounds_toArray, List.set_cons_zero, List.set_cons_succ]))))
          refine takes_nil ?_
          refine wpAnyH_done (by kernel_rfl) ?_ _
          go_wp2
          refine bodyPost_ret (v := .tuple #[v2, .int .i64 (er : Nat), .int .i64 (pl : Nat)]) ?_ rfl ?_
          · simp [results, Tryz.results33, go_sem]
          have hm : marksS s = Y := HMM.out
          unfold MarksQ
          rw [hm, HER.out, HPL.out]
          exact ⟨v2, rfl, by rw [HPS.out]; exact World.ownsRow.drew H2.out, by rw [HPS.out]; exact HW4.out.drew⟩
    · have hst : markGo s n X = X := markGo_stop (fun h => he h.1) n
      have HFX := Lib.hid (show F = X from HQ.out.eq.symm.trans hst)
      have HMM := Lib.hid (show marksS s = X by rw [HMK.out, HFX.out]; exact if_neg (fun h => he h.1))
      have j1 : ((X.err : Int) == 0) = false := by simp; omega
      clear hst c4
      obtain ⟨v2, v3, h2, h2', -, -, -⟩ := HS.out.rows
      have H2 := Lib.hid h2'
      have c4 := HS.out.c4
      have c5 := HS.out.c5
      obtain ⟨er, her⟩ : ∃ n, X.err = n := ⟨_, rfl⟩
      obtain ⟨pl, hpl⟩ : ∃ n, X.place = n := ⟨_, rfl⟩
      rw [her] at c4 j1 he
      have j1n : (er == 0) = false := by simpa using he
      have j1d : decide (er = 0) = false := by simpa using he
      rw [hpl] at c5
      have HER := Lib.hid her
      have HPL := Lib.hid hpl
      clear h2' her hpl
      go_wp2_with fail
      have hS0 : wr.drew.cell? ⟨p, 2, none⟩ = some v2 ∧ wr.drew.cell? ⟨p, 4, none⟩ = some (.int .i64 (er : Nat)) ∧ wr.drew.cell? ⟨p, 5, none⟩ = some (.int .i64 (pl : Nat)) := ⟨h2, c4, c5⟩
      refine wp_region_takes (fun W' : World => W'.cell? ⟨p, 2, none⟩ = some v2 ∧ W'.cell? ⟨p, 4, none⟩ = some (.int .i64 (er : Nat)) ∧ W'.cell? ⟨p, 5, none⟩ = some (.int .i64 (pl : Nat))) [0, 1, 2, 3, 4, 5, 6, 7, 8, 9, 10, 11, 12, 13, 14] 0 (by intro _ _ d _ _ h; cases d <;> exact h) (by kernel_rfl) (by kernel_rfl) hS0 ?_
      (iterate 15 (first | (refine takes_yes (v := ?_) rfl (by rfl) ?_ ?_; rotate_left; (focus ((intro w' hS'; (try dsimp only at hS'); go_simp; try (with_reducible rfl)); done)); (try simp only [Act.put, List.setIfInBounds_toArray, List.set_cons_zero, List.set_cons_succ])) | (refine takes_no rfl (by rfl) ?_; (try simp only [Act.put, List.setIfInBounds_toArray, List.set_cons_zero, List.set_cons_succ]))))
      refine takes_nil ?_
      refine wpAnyH_done (by kernel_rfl) ?_ _
      go_wp2
      refine bodyPost_ret (v := .tuple #[v2, .int .i64 (er : Nat), .int .i64 (pl : Nat)]) ?_ rfl ?_
      · simp [results, Tryz.results33, go_sem]
      have hm : marksS s = X := HMM.out
      unfold MarksQ
      rw [hm, HER.out, HPL.out]
      exact ⟨v2, rfl, by rw [HPS.out]; exact World.ownsRow.drew H2.out, by rw [HPS.out]; exact HW.out.drew⟩
end Go.Proofs.YtdelpialeajajaaGreatDoor

/- Rows of marks: where what opens ends; an argument's branches; how an argument is spoken of. -/
namespace Go.Proofs.YtdelpialeajajaaGreatDoor
open Go Go.RowKit
set_option maxRecDepth 10000

/-- a row of marks to be read -/
structure MarksAt (w : World) (v : Value) (l : List Mk) : Prop where
  sl : ∃ a cap, v = .slice a l.length cap
  ne : 0 < l.length → ∃ g cap, v = .slice (some ⟨g, 0, none⟩) l.length cap ∧ ∀ j o (h : j < l.length), o < 6 → w.cell? ⟨g, j * 6 + o, none⟩ = (markV l[j])[o]?
theorem MarksAt.below {w w' : World} {v : Value} {l : List Mk} (h : MarksAt w v l) (hb : Below w.heap.size w w') : MarksAt w' v l := by
  refine ⟨h.sl, fun hl => ?_⟩
  obtain ⟨g, cap, hv, hc⟩ := h.ne hl
  refine ⟨g, cap, hv, fun j o hj ho => ?_⟩
  have hc0 := hc j o hj ho
  have hlt : g < w.heap.size := by
    have hs : ((markV l[j])[o]?).isSome = true := by
      match o, ho with
      | 0, _ => rfl
      | 1, _ => rfl
      | 2, _ => rfl
      | 3, _ => rfl
      | 4, _ => rfl
      | 5, _ => rfl
    obtain ⟨u, hu⟩ := Option.isSome_iff_exists.1 hs
    rw [hu] at hc0
    exact World.block_lt_of_cell? w _ hc0
  exact (hb.cell (p := ⟨g, j * 6 + o, none⟩) hlt).trans hc0
theorem marks_get (l : List Mk) (j o : Nat) (hj : j < l.length) (ho : o < 6) : (marksC l)[j * 6 + o]? = (markV l[j])[o]? := by
  induction l generalizing j with
  | nil => cases hj
  | cons a r ih =>
    have e : marksC (a :: r) = markV a ++ marksC r := rfl
    have h6 : (markV a).length = 6 := rfl
    rw [e]
    cases j with
    | zero =>
      rw [List.getElem?_append_left (by omega)]
      simp
    | succ j =>
      rw [List.getElem?_append_right (by omega), h6, show (j + 1) * 6 + o - 6 = j * 6 + o by omega]
      exact ih j (by simpa using hj)
theorem MarksAt.of_own {w : World} {base : Nat} {e : TypeId} {v : Value} {l : List Mk} (h : w.ownsRow base e 6 v l.length (marksC l)) : MarksAt w v l := by
  refine ⟨own_slice h, fun hl => ?_⟩
  obtain ⟨g, oc, rfl, hpg, hgw, hcell⟩ := own_some h hl
  exact ⟨g, oc, rfl, fun j o hj ho => by rw [hcell (j * 6 + o) (by omega), marks_get l j o hj ho]⟩

def opens (m : Mk) : Bool := decide (m.kind = 40) || decide (m.kind = 91)
def shuts (m : Mk) : Bool := decide (m.kind = 41) || decide (m.kind = 93)
def deepD (m : Mk) (d : Int) : Int := if opens m = true then d + 1 else if shuts m = true then d - 1 else d
/-- where what opens ends -/
def endGo : List Mk → Int → Nat → Nat
  | [], _, i => i
  | m :: t, d, i => if deepD m d = 0 then i else endGo t (deepD m d) (i + 1)
def endL (l : List Mk) (k : Nat) : Nat := endGo (l.drop k) 0 k
theorem endGo_le : ∀ (l : List Mk) (d : Int) (i : Nat), i ≤ endGo l d i ∧ endGo l d i ≤ i + l.length
  | [], d, i => ⟨Nat.le_refl _, Nat.le_refl _⟩
  | m :: t, d, i => by
    rw [endGo]
    split
    · exact ⟨Nat.le_refl _, Nat.le_add_right _ _⟩
    · have := endGo_le t (deepD m d) (i + 1)
      simp only [List.length_cons]
      omega
theorem endL_le (l : List Mk) (k : Nat) (h : k ≤ l.length) : k ≤ endL l k ∧ endL l k ≤ l.length := by
  have := endGo_le (l.drop k) 0 k
  rw [List.length_drop] at this
  unfold endL
  omega

theorem drop_mk {l : List Mk} {j : Nat} (h : j < l.length) : l.drop j = l[j] :: l.drop (j + 1) := List.drop_eq_getElem_cons h

set_option maxHeartbeats 4000000 in
theorem end_any (v : Value) (l : List Mk) (k : Nat) (w : World) (h : MarksAt w v l) (hk : k ≤ l.length) (hl : l.length ≤ 1000000) (hkind : ∀ m ∈ l, m.kind < 256) :
    Calls Tryz.prog 52 #[v, .int .i64 (k : Nat)] w fun e w' => e = .returned (.int .i64 (endL l k : Nat)) ∧ w = w' := by
  obtain ⟨a, cap, rfl⟩ := h.sl
  obtain ⟨E, hE⟩ : ∃ E, endL l k = E := ⟨_, rfl⟩
  obtain ⟨n, hn⟩ : ∃ n, l.length = n := ⟨_, rfl⟩
  have HH := Lib.hid h
  have HN := Lib.hid hn
  have HKD := Lib.hid hkind
  rw [hE]
  rw [hn] at hk hl ⊢
  have HE := Lib.hid (show endGo (l.drop k) 0 k = E from hE)
  clear h hE hn hkind
  go_enter Tryz.func52, Tryz.ntmps52
  go_wp2_with fail
  go_loop [5, 6] (fun d i => ∃ (j : Nat) (x : Int), i = .int .i64 (j : Nat) ∧ d = .int .i64 x ∧ j ≤ n ∧ endGo (l.drop j) x j = E ∧ -(j : Int) ≤ x ∧ x ≤ (j : Int)) (fun _ i => n - (intOf i).toNat)
  case atStart => exact ⟨k, 0, rfl, rfl, hk, HE.out, by omega, by omega⟩
  case round =>
    obtain ⟨j, x, rfl, rfl, hj, he, hx1, hx2⟩ := hrel
    have HEE := Lib.hid he
    clear he
    by_cases hlt : j < n
    · have hjl : j < l.length := by rw [HN.out]; exact hlt
      obtain ⟨g, cap', hv, hc⟩ := HH.out.ne (by omega)
      obtain ⟨ga, rfl⟩ : ∃ ga, a = ga := ⟨_, rfl⟩
      have hga : a = some ⟨g, 0, none⟩ := by cases hv; rfl
      have hcap : cap = cap' := by cases hv; rfl
      subst hga
      have c0 := hc j 0 hjl (by omega)
      obtain ⟨m, hm⟩ : ∃ m, l[j] = m := ⟨_, rfl⟩
      rw [hm] at c0
      simp only [markV, List.getElem?_cons_zero, Nat.add_zero] at c0
      have HM := Lib.hid (show l.drop j = m :: l.drop (j + 1) by rw [drop_mk hjl, hm])
      have hkk := HKD.out m (hm ▸ List.getElem_mem hjl)
      have hltI : (j : Int) < (n : Int) := by omega
      clear hm hc hv hcap hjl
      have q1 : IntKind.i64.wrap ((j : Int) + 1) = (j : Int) + 1 := by simp [IntKind.wrap, IntKind.signed, IntKind.bits]; omega
      have q2 : IntKind.i64.wrap (x + 1) = x + 1 := by simp [IntKind.wrap, IntKind.signed, IntKind.bits]; omega
      have q3 : IntKind.i64.wrap (x - 1) = x - 1 := by simp [IntKind.wrap, IntKind.signed, IntKind.bits]; omega
      obtain ⟨kd, hkd⟩ : ∃ kd, m.kind = kd := ⟨_, rfl⟩
      rw [hkd] at c0 hkk
      have HKK := Lib.hid hkd
      clear hkd
      by_cases ho : kd = 40 ∨ kd = 91
      · have HD := Lib.hid (show deepD m x = x + 1 by unfold deepD opens; rw [HKK.out]; rcases ho with rfl | rfl <;> rfl)
        by_cases hz : x + 1 = 0
        · have jz : (x + 1 == 0) = true := by simpa using hz
          have HF := Lib.hid (show j = E by rw [← HEE.out, HM.out, endGo, HD.out, if_pos hz])
          rcases ho with rfl | rfl
          all_goals
            go_wp2
            go_ret
            exact ⟨congrArg (fun n : Nat => Ending.returned (.int .i64 (n : Nat))) HF.out, rfl⟩
        · have jz : (x + 1 == 0) = false := by simpa using hz
          have HF := Lib.hid (show endGo (l.drop (j + 1)) (x + 1) (j + 1) = E by rw [← HEE.out, HM.out, endGo, HD.out, if_neg hz])
          rcases ho with rfl | rfl
          all_goals
            go_wp2
            go_round
            case rel => exact ⟨j + 1, x + 1, by go_num, rfl, by omega, HF.out, by omega, by omega⟩
            case measure => simp [intOf]; omega
      · have h40 : ¬ kd = 40 := fun e => ho (.inl e)
        have h91 : ¬ kd = 91 := fun e => ho (.inr e)
        have j40 : ((kd : Int) == 40) = false := by simp; omega
        have j91 : ((kd : Int) == 91) = false := by simp; omega
        by_cases hs : kd = 41 ∨ kd = 93
        · have HD := Lib.hid (show deepD m x = x - 1 by unfold deepD opens shuts; rw [HKK.out]; rcases hs with rfl | rfl <;> rfl)
          by_cases hz : x - 1 = 0
          · have jz : (x - 1 == 0) = true := by simpa using hz
            have HF := Lib.hid (show j = E by rw [← HEE.out, HM.out, endGo, HD.out, if_pos hz])
            rcases hs with rfl | rfl
            all_goals
              go_wp2
              go_ret
              exact ⟨congrArg (fun n : Nat => Ending.returned (.int .i64 (n : Nat))) HF.out, rfl⟩
          · have jz : (x - 1 == 0) = false := by simpa using hz
            have HF := Lib.hid (show endGo (l.drop (j + 1)) (x - 1) (j + 1) = E by rw [← HEE.out, HM.out, endGo, HD.out, if_neg hz])
            rcases hs with rfl | rfl
            all_goals
              go_wp2
              go_round
              case rel => exact ⟨j + 1, x - 1, by go_num, rfl, by omega, HF.out, by omega, by omega⟩
              case measure => simp [intOf]; omega
        · have h41 : ¬ kd = 41 := fun e => hs (.inl e)
          have h93 : ¬ kd = 93 := fun e => hs (.inr e)
          have j41 : ((kd : Int) == 41) = false := by simp; omega
          have j93 : ((kd : Int) == 93) = false := by simp; omega
          have HD := Lib.hid (show deepD m x = x by unfold deepD opens shuts; rw [HKK.out]; simp [h40, h91, h41, h93])
          by_cases hz : x = 0
          · have jz : (x == 0) = true := by simpa using hz
            have HF := Lib.hid (show j = E by rw [← HEE.out, HM.out, endGo, HD.out, if_pos hz])
            clear h40 h91 h41 h93 ho hs
            go_wp2
            go_ret
            exact ⟨congrArg (fun n : Nat => Ending.returned (.int .i64 (n : Nat))) HF.out, rfl⟩
          · have jz : (x == 0) = false := by simpa using hz
            have HF := Lib.hid (show endGo (l.drop (j + 1)) x (j + 1) = E by rw [← HEE.out, HM.out, endGo, HD.out, if_neg hz])
            clear h40 h91 h41 h93 ho hs
            go_wp2
            go_round
            case rel => exact ⟨j + 1, x, by go_num, rfl, by omega, HF.out, by omega, by omega⟩
            case measure => simp [intOf]; omega
    · have hjn : j = n := by omega
      have HF := Lib.hid (show n = E by rw [← HEE.out, List.drop_of_length_le (by rw [HN.out]; omega), endGo, hjn])
      subst hjn
      go_wp2
      go_ret
      exact ⟨congrArg (fun n : Nat => Ending.returned (.int .i64 (n : Nat))) HF.out, rfl⟩
end Go.Proofs.YtdelpialeajajaaGreatDoor

/- How an argument is spoken of; an argument's branches. -/
namespace Go.Proofs.YtdelpialeajajaaGreatDoor
open Go Go.RowKit
set_option maxRecDepth 10000

def selD : Wd := [115, 101, 108, 101, 99, 116]
/-- is an argument spoken of as a number, as a text, or as it comes -/
def sortD (m : Mk) : Nat := if m.kind = 110 ∨ (m.kind = 40 ∧ m.how ≠ selD) then 110 else if m.kind = 40 then 116 else 0

set_option maxHeartbeats 4000000 in
theorem sort_any (m : Mk) (w : World) :
    Calls Tryz.prog 50 #[.agg #[.int .u8 (m.kind : Nat), strv m.text, strv m.name, strv m.how, strv m.off, .int .i64 (m.pl : Nat)]] w fun e w' => e = .returned (.int .u8 (sortD m : Nat)) ∧ Below w.heap.size w w' := by
  obtain ⟨kd, hkd⟩ : ∃ k, m.kind = k := ⟨_, rfl⟩
  obtain ⟨hw, hhw⟩ : ∃ k, m.how = k := ⟨_, rfl⟩
  have H0 := Lib.hid (show sortD m = if kd = 110 ∨ (kd = 40 ∧ hw ≠ selD) then 110 else if kd = 40 then 116 else 0 by rw [← hkd, ← hhw]; rfl)
  rw [hkd, hhw]
  clear hkd hhw
  by_cases h110 : kd = 110
  · have HS := Lib.hid (H0.out.trans (if_pos (.inl h110)))
    subst h110
    go_enter Tryz.func50, Tryz.ntmps50
    go_wp2
    refine bodyPost_ret (v := .int .u8 (110 : Nat)) ?_ rfl ?_
    · simp [results, Tryz.results50, go_sem]
    exact ⟨by rw [HS.out], (Below.refl _ _).alloc (Nat.le_refl _) _⟩
  · by_cases h40 : kd = 40
    · by_cases hs : hw = selD
      · have HS := Lib.hid (show sortD m = 116 by rw [H0.out, if_neg (fun e => by rcases e with e | e; exact h110 e; exact e.2 hs), if_pos h40])
        subst h40
        have jh : (hw == [115, 101, 108, 101, 99, 116]) = true := by rw [hs]; rfl
        have jh2 : (hw != [115, 101, 108, 101, 99, 116]) = false := by rw [bne, jh]; rfl
        clear hs
        go_enter Tryz.func50, Tryz.ntmps50
        go_wp2
        refine bodyPost_ret (v := .int .u8 (116 : Nat)) ?_ rfl ?_
        · simp [results, Tryz.results50, go_sem]
        exact ⟨by rw [HS.out], (Below.refl _ _).alloc (Nat.le_refl _) _⟩
      · have HS := Lib.hid (show sortD m = 110 by rw [H0.out, if_pos (.inr ⟨h40, hs⟩)])
        subst h40
        have jh : (hw == [115, 101, 108, 101, 99, 116]) = false := beq_eq_false_iff_ne.2 hs
        have jh2 : (hw != [115, 101, 108, 101, 99, 116]) = true := by rw [bne, jh]; rfl
        clear hs
        go_enter Tryz.func50, Tryz.ntmps50
        go_wp2
        refine bodyPost_ret (v := .int .u8 (110 : Nat)) ?_ rfl ?_
        · simp [results, Tryz.results50, go_sem]
        exact ⟨by rw [HS.out], (Below.refl _ _).alloc (Nat.le_refl _) _⟩
    · have HS := Lib.hid (show sortD m = 0 by rw [H0.out, if_neg (fun e => by rcases e with e | e; exact h110 e; exact h40 e.1), if_neg h40])
      have j1 : ((kd : Int) == 110) = false := by simp; omega
      have j2 : ((kd : Int) == 40) = false := by simp; omega
      clear h110 h40
      go_enter Tryz.func50, Tryz.ntmps50
      go_wp2
      refine bodyPost_ret (v := .int .u8 (0 : Nat)) ?_ rfl ?_
      · simp [results, Tryz.results50, go_sem]
      exact ⟨by rw [HS.out], (Below.refl _ _).alloc (Nat.le_refl _) _⟩

/-- branches from mark i on -/
def brGo (l : List Mk) (e : Nat) : Nat → Nat → List Nat
  | 0, _ => []
  | n + 1, i => if i < e then i :: brGo l e n (endL l i + 1) else []
def branchesD (l : List Mk) (k : Nat) : List Nat := brGo l (endL l k) (l.length + 1) (k + 1)
def intsC (l : List Nat) : List Value := l.map fun n => Value.int .i64 (n : Nat)

set_option maxHeartbeats 4000000 in
theorem branches_any (v : Value) (l : List Mk) (k : Nat) (w : World) (h : MarksAt w v l) (hk : k < l.length) (hl : l.length ≤ 1000000) (hkind : ∀ m ∈ l, m.kind < 256) :
    Calls Tryz.prog 51 #[v, .int .i64 (k : Nat)] w fun e w' => ∃ u, e = .returned u ∧ w'.ownsRow w.heap.size 3 1 u (branchesD l k).length (intsC (branchesD l k)) ∧ Below w.heap.size w w' := by
  obtain ⟨E, hE⟩ : ∃ E, endL l k = E := ⟨_, rfl⟩
  obtain ⟨B, hB⟩ : ∃ B, branchesD l k = B := ⟨_, rfl⟩
  have hEl : E ≤ l.length := hE ▸ (endL_le l k (by omega)).2
  have HB := Lib.hid (show brGo l E (l.length + 1) (k + 1) = B by rw [← hE]; exact hB)
  have HEND := Lib.hid (fun j (hj : j ≤ l.length) w (h : MarksAt w v l) => end_any v l j w h hj hl hkind)
  have HE := Lib.hid (show Calls Tryz.prog 52 #[v, .int .i64 (k : Nat)] w fun e w' => e = .returned (.int .i64 (E : Nat)) ∧ w = w' from hE ▸ end_any v l k w h (by omega) hl hkind)
  have HH := Lib.hid h
  have q0 : IntKind.i64.wrap ((k : Int) + 1) = (k : Int) + 1 := by simp [IntKind.wrap, IntKind.signed, IntKind.bits]; omega
  obtain ⟨n, hn⟩ : ∃ n, l.length = n := ⟨_, rfl⟩
  rw [hn] at hk hl hEl HB
  rw [hB]
  have HN := Lib.hid hn
  obtain ⟨A, hA⟩ : ∃ A, w.heap.size = A := ⟨_, rfl⟩
  have HA := Lib.hid hA
  rw [hA]
  clear h hE hn hkind hB hA
  go_enter Tryz.func51, Tryz.ntmps51
  go_wp2_with fail
  refine HE.out.mono ?_
  rintro e w1 ⟨rfl, rfl⟩
  go_wp2_with fail
  go_loopw [5, 7] (fun o i wr => ∃ (j m : Nat) (acc : List Nat), i = .int .i64 (j : Nat) ∧ j ≤ n + 1 ∧ wr.ownsRow A 3 1 o acc.length (intsC acc) ∧ Below A w wr ∧ acc ++ brGo l E m j = B ∧ E < m + j ∧ acc.length ≤ j) (fun _ i _ => n + 2 - (intOf i).toNat)
  case atStart => exact ⟨k + 1, n + 1, [], by go_num, by omega, HA.out ▸ World.ownsRow_nil _ _ _ _, Below.refl _ _, HB.out, by omega, Nat.zero_le _⟩
  case round =>
    obtain ⟨j, m, acc, rfl, hj, ho, hbl, heq, hf, hal⟩ := hrel
    have HEQ := Lib.hid heq
    have HBL := Lib.hid hbl
    have HO := Lib.hid ho
    obtain ⟨na, hna⟩ : ∃ n, acc.length = n := ⟨_, rfl⟩
    rw [hna] at ho hal
    have HNA := Lib.hid hna
    obtain ⟨oa, oc, rfl⟩ := own_slice ho
    clear heq hbl hna
    by_cases hlt : j < E
    · have hltI : (j : Int) < (E : Int) := by omega
      have HM := Lib.hid (HH.out.below (Lib.hid (HA.out ▸ HBL.out)).out)
      have hbA : ∀ W, Below wr.heap.size wr W → Below A w W := fun W h => HBL.out.trans (h.mono (by have := HBL.out.size; have := HA.out; omega))
      have HBA := Lib.hid hbA
      have HO2 := Lib.hid ho
      have hAs : A ≤ wr.heap.size := by have := HBL.out.size; have := HA.out; omega
      clear ho hbA
      go_wp2_with (at_builtin; refine list_gen ?_)
      intro W1 hW1
      have hb1 : Below wr.heap.size wr W1 := by rw [hW1]; exact (Below.refl _ _).alloc (Nat.le_refl _) _
      have hC := fun i => cell_made wr #[.int .i64 (j : Nat)] 3 (0, 0) i
      rw [← hW1] at hC
      have s1 : W1.heap.size = wr.heap.size + 1 := by rw [hW1]; simp
      have HB1 := Lib.hid hb1
      clear hW1
      refine app_at elem_ints rfl _ _ rfl A _ na (intsC acc) rfl (own_below HO2.out HB1.out) ⟨wr.heap.size, 0, none⟩ 1 1 [.int .i64 (j : Nat)] rfl rfl ?x1 ?x2 (by omega) (by omega) ?x3
      case x1 => exact cells_one (hC 0)
      case x2 =>
        intro u hu
        simp at hu
        subst hu
        rfl
      intro v5 W5 ho5 hg5 _
      have hb5 : Below A w W5 := (HBA.out _ HB1.out).grown hg5 (by omega) (fun q hq => (HO2.out.lt q hq).1)
      have HB5 := Lib.hid hb5
      have HO5 := Lib.hid ho5
      have HM5 := Lib.hid (HH.out.below (Lib.hid (HA.out ▸ hb5)).out)
      clear ho5 hg5 hb5 hC
      go_wp2_with fail
      refine (HEND.out j (by rw [HN.out]; omega) _ HM5.out).mono ?_
      rintro e w6 ⟨rfl, rfl⟩
      obtain ⟨e2, he2⟩ : ∃ e, endL l j = e := ⟨_, rfl⟩
      have hle := endL_le l j (by rw [HN.out]; omega)
      rw [he2, HN.out] at hle
      rw [he2]
      have HE2 := Lib.hid he2
      have q5 : IntKind.i64.wrap ((e2 : Int) + 1) = (e2 : Int) + 1 := by simp [IntKind.wrap, IntKind.signed, IntKind.bits]; omega
      clear he2
      go_wp2_with fail
      go_roundw
      case rel =>
        obtain ⟨m', hm⟩ : ∃ m', m = m' + 1 := ⟨m - 1, by omega⟩
        refine ⟨e2 + 1, m', acc ++ [j], by go_num, by omega, ?_, HB5.out, ?_, by omega, ?_⟩
        · have h5 := HO5.out
          rw [show (acc ++ [j]).length = na + 1 by simp [HNA.out]]
          simpa [intsC] using h5
        · rw [← HEQ.out, hm, brGo, if_pos hlt, HE2.out]
          simp
        · simp [HNA.out]
          omega
      case measure => simp [intOf]; omega
    · have hltI : ¬ (j : Int) < (E : Int) := by omega
      have hEQ : acc = B := by
        rw [← HEQ.out]
        cases m with
        | zero => simp [brGo]
        | succ m => rw [brGo, if_neg hlt]; simp
      have HEQ2 := Lib.hid hEQ
      clear hEQ ho
      go_wp2
      refine bodyPost_ret (v := .slice oa na oc) ?_ rfl ?_
      · simp [results, Tryz.results51, go_sem]
      exact ⟨_, rfl, by rw [← HEQ2.out, HNA.out]; exact HNA.out ▸ HO.out, HBL.out⟩
end Go.Proofs.YtdelpialeajajaaGreatDoor
