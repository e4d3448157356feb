import Derived.Test.YtdelpialeajajaaGreatDoorJC7

/- The document's reader: an argument's brace. -/
namespace Go.Proofs.YtdelpialeajajaaGreatDoor
open Go Go.RowKit
set_option maxRecDepth 10000

def kindsL : List Wd := [[110, 117, 109, 98, 101, 114], [112, 108, 117, 114, 97, 108], [115, 101, 108, 101, 99, 116, 111, 114, 100, 105, 110, 97, 108], [115, 101, 108, 101, 99, 116]]
def offBytes : Wd := [111, 102, 102, 115, 101, 116, 58]
def offAt (s : ByteArray) (i : Nat) : Bool := decide ((s.data.toList.drop i).take 7 = offBytes)

/-- an argument's branches begin; an offset, if there is one -/
def brS (s : ByteArray) (nm how : Wd) (a : Nat) (num : Bool) (x : Sc) : Sc :=
  let off := if (num && offAt s x.i) = true then wholeT s (blanksS s { x with i := x.i + 7 }).i else [48]
  let y := if (num && offAt s x.i) = true then blanksS s (wholeS s (blanksS s { x with i := x.i + 7 })) else x
  branchS s { y with out := y.out ++ [⟨40, [], nm, how, off, a⟩] } num
/-- what an argument is -/
def howS (s : ByteArray) (nm : Wd) (a : Nat) (x : Sc) : Sc :=
  let how := nameT s x.i
  let kn := placeL kindsL how
  if kn < 0 then faultS (nameS s x) 3 x.i
  else if kn = 0 then
    let y := needsS s (blanksS s (nameS s x)) 125
    { y with out := y.out ++ [⟨110, [], nm, how, [], a⟩] }
  else brS s nm how a (decide (kn < 3)) (blanksS s (needsS s (blanksS s (nameS s x)) 44))
/-- an argument begins -/
def braceS (s : ByteArray) (x : Sc) : Sc :=
  let x1 := blanksS s { x with i := x.i + 1 }
  let nm := nameT s x1.i
  let x2 := blanksS s (nameS s x1)
  if x2.err ≠ 0 then x2
  else if byteAt s x2.i ≠ some 44 then
    let y := needsS s x2 125
    { y with out := y.out ++ [⟨112, [], nm, [], [], x.i⟩] }
  else howS s nm x.i (blanksS s { x2 with i := x2.i + 1 })

theorem offAt_short {s : ByteArray} {k : Nat} (h : s.size < k + 7) : offAt s k = false := by
  unfold offAt
  rw [decide_eq_false_iff_not]
  intro e
  have := congrArg List.length e
  rw [List.length_take, List.length_drop, size_toList] at this
  have h7 : offBytes.length = 7 := rfl
  omega
theorem toListZ (s : ByteArray) : s.toList = s.data.toList := Go.ByteArray.toList_eq s
theorem offAt_slice {s : ByteArray} {k l : Nat} (h : k + 7 = l) (hl : l ≤ s.size) : ((s.extract k l).toList == offBytes) = offAt s k := by
  subst h
  rw [extract_piece, toListZ]
  unfold offAt
  rw [Bool.eq_iff_iff]
  simp
def offT (s : ByteArray) (num : Bool) (x : Sc) : Wd := if (num && offAt s x.i) = true then wholeT s (blanksS s { x with i := x.i + 7 }).i else [48]
def offS (s : ByteArray) (num : Bool) (x : Sc) : Sc := if (num && offAt s x.i) = true then blanksS s (wholeS s (blanksS s { x with i := x.i + 7 })) else x
theorem brS_eq {s : ByteArray} {nm how off : Wd} {a : Nat} {num : Bool} {x y z : Sc} (ho : offT s num x = off) (hy : offS s num x = y) (hz : { y with out := y.out ++ [⟨40, [], nm, how, off, a⟩] } = z) : brS s nm how a num x = branchS s z num := by
  subst ho hy hz
  rfl

theorem off_no {s : ByteArray} {num : Bool} {x : Sc} {k : Nat} (hk : x.i = k) (h : (num && offAt s k) = false) : offS s num x = x ∧ offT s num x = [48] := by
  subst hk
  unfold offS offT
  rw [h]
  exact ⟨rfl, rfl⟩
theorem off_yes {s : ByteArray} {num : Bool} {x : Sc} {k l : Nat} (hk : x.i = k) (h : (num && offAt s k) = true) (hl : k + 7 = l) :
    (∀ {a b c : Sc}, blanksS s { x with i := l } = a → wholeS s a = b → blanksS s b = c → offS s num x = c) ∧ ∀ {a : Sc} {t : Wd}, blanksS s { x with i := l } = a → wholeT s a.i = t → offT s num x = t := by
  subst hk hl
  unfold offS offT
  rw [h]
  refine ⟨fun e1 e2 e3 => ?_, fun e1 e2 => ?_⟩
  · subst e1 e2 e3
    rfl
  · subst e1 e2
    rfl
theorem sameR_off (s : ByteArray) (num : Bool) (x : Sc) : SameR x (offS s num x) := by
  unfold offS
  split
  · exact (sameR_i x _).trans (sameR_whole s _)
  · exact ⟨rfl, rfl⟩

section
variable {s : ByteArray} {x x1 xa x2 x3 x4 x5 x6 y : Sc} {k a i i0 i1 : Nat} {nm how : Wd} {kn : Int}
theorem braceS_err (hk : x.i = a) (h0 : a + 1 = i0) (h1 : blanksS s { x with i := i0 } = x1) (ha : nameS s x1 = xa) (h2 : blanksS s xa = x2) (he : x2.err ≠ 0) : braceS s x = x2 := by
  subst hk h0 h1 ha h2
  exact if_pos he
theorem braceS_put (hk : x.i = a) (h0 : a + 1 = i0) (h1 : blanksS s { x with i := i0 } = x1) (hn : nameT s x1.i = nm) (ha : nameS s x1 = xa) (h2 : blanksS s xa = x2) (he : x2.err = 0) (hi : x2.i = i) (hc : ¬ byteAt s i = some 44) (hy : needsS s x2 125 = y) :
    braceS s x = { y with out := y.out ++ [⟨112, [], nm, [], [], a⟩] } := by
  subst hk h0 h1 hn ha h2 hi hy
  exact (if_neg (not_not_intro he)).trans (if_pos hc)
theorem braceS_how (hk : x.i = a) (h0 : a + 1 = i0) (h1 : blanksS s { x with i := i0 } = x1) (hn : nameT s x1.i = nm) (ha : nameS s x1 = xa) (h2 : blanksS s xa = x2) (he : x2.err = 0) (hi : x2.i = i) (hc : byteAt s i = some 44) (hl : i + 1 = i1) (h3 : blanksS s { x2 with i := i1 } = x3) :
    braceS s x = howS s nm a x3 := by
  subst hk h0 h1 hn ha h2 hi hl h3
  exact (if_neg (not_not_intro he)).trans (if_neg (not_not_intro hc))
theorem howS_none (hi : x.i = i) (hh : nameT s i = how) (hkn : placeL kindsL how = kn) (h0 : kn < 0) : howS s nm a x = faultS (nameS s x) 3 i := by
  subst hi hh hkn
  exact if_pos h0
theorem howS_num (hi : x.i = i) (hh : nameT s i = how) (hkn : placeL kindsL how = kn) (h0 : kn = 0) (hx : nameS s x = x4) (h5 : blanksS s x4 = x5) (hy : needsS s x5 125 = y) : howS s nm a x = { y with out := y.out ++ [⟨110, [], nm, how, [], a⟩] } := by
  subst hi hh hkn hx h5 hy
  exact (if_neg (by omega)).trans (if_pos h0)
theorem howS_br (hi : x.i = i) (hh : nameT s i = how) (hkn : placeL kindsL how = kn) (h0 : 0 < kn) (hx : nameS s x = x4) (h5 : blanksS s x4 = x5) (h6 : needsS s x5 44 = x6) (hy : blanksS s x6 = y) : howS s nm a x = brS s nm how a (decide (kn < 3)) y := by
  subst hi hh hkn hx h5 h6 hy
  exact (if_neg (by omega)).trans (if_neg (by omega))
end

theorem kinds_rng (x : Wd) : -1 ≤ placeL kindsL x ∧ placeL kindsL x < 4 := by
  unfold placeL
  have : kindsL.length = 4 := rfl
  split <;> omega
theorem laid_words (W : World) (ws : List Wd) (t : TypeId) (hl : ws.length ≤ 1000) : ∃ W1, W1 = W.alloc (.cells (ws.map strv).toArray t) ∧ Below W.heap.size W W1 ∧ StrsAt W1 (.slice (some ⟨W.heap.size, 0, none⟩) ws.length ws.length) ws :=
  ⟨_, rfl, (Below.refl _ _).alloc (Nat.le_refl _) _, _, _, rfl, Nat.le_refl _, by unfold maxLen; omega, (fun e => by cases e), fun j hj => ⟨_, rfl, by rw [addr_add0, cell_made]; simp [hj]⟩⟩
/-- rows as they were -/
theorem sameR_blanks (s : ByteArray) (x : Sc) : SameR x (blanksS s x) := ⟨rfl, rfl⟩

set_option maxHeartbeats 8000000 in
theorem scan_brace (p : Nat) (s : ByteArray) (x : Sc) (w : World) (h : ScanAt p s x w) (hin : x.i < s.size) (hr1 : x.out.length + 2 ≤ 1000000) (hr2 : x.opn.length + 1 ≤ 1000000) :
    Calls Tryz.prog 71 #[.pointer (some ⟨p, 0, none⟩)] w (ScanQ p s (.tuple #[]) (braceS s x) w) := by
  have HH := Lib.hid h
  obtain ⟨a, ha⟩ : ∃ a, x.i = a := ⟨_, rfl⟩
  have HXI := Lib.hid ha
  have c1 := h.c1
  have hlt := h.lt
  have hsz := h.size
  rw [ha] at c1 hin
  clear h ha
  go_enter Tryz.func71, Tryz.ntmps71
  go_upto_region 1 with fail
  refine wp_gen ?_
  intro W0 hW0
  have HBI := Lib.hid (show BrI p s x w.heap.size ⟨112, [], [], [], [], a⟩ W0 by rw [hW0]; exact BrI.start HH.out)
  have hB0 : Below p w W0 := by rw [hW0]; exact (Below.refl _ _).alloc (Nat.le_of_lt hlt) _
  obtain ⟨b, hb⟩ : ∃ b, w.heap.size = b := ⟨_, rfl⟩
  rw [hb] at HBI ⊢
  have HB0 := Lib.hid hB0
  clear hW0 c1 hb hB0
  have hpb := HBI.out.lt
  have c1 := HBI.out.at_.c1
  have z1 := HBI.out.at_.z 1
  rw [HXI.out] at c1
  obtain ⟨K, hK⟩ : ∃ K, a + 1 = K := ⟨_, rfl⟩
  have q1 : (a : Int) + 1 = (K : Int) := by omega
  have HKK := Lib.hid hK
  have hKs : K ≤ s.size := by omega
  have HP := Lib.hid (HBI.out.put1 K hKs)
  have HPW := Lib.hid (below_put HB0.out (b := p) (j := 1) (u := .int .i64 (K : Nat)) (Nat.le_refl _))
  clear hK
  go_wp2_with fail
  refine (scan_blanks p s _ _ HP.out.at_).mono ?_
  rintro e w1 ⟨rfl, hs1, hf1⟩
  obtain ⟨X1, hX1⟩ : ∃ Y, blanksS s { x with i := K } = Y := ⟨_, rfl⟩
  rw [hX1] at hs1
  have HX1 := Lib.hid hX1
  have HB1 := Lib.hid (HP.out.step hs1 hf1)
  have HW1 := Lib.hid (HPW.out.trans (hf1.below HP.out.at_))
  clear hs1 hf1 hX1
  try dsimp only
  have HI1 := Lib.hid (show SameR x X1 from HX1.out ▸ ⟨rfl, rfl⟩)
  clear c1 z1
  go_wp2_with fail
  refine (scan_name p s X1 w1 HB1.out.at_).mono ?_
  rintro e w2 ⟨rfl, hs2, hf2⟩
  try dsimp only
  obtain ⟨nm, hnm⟩ : ∃ t, nameT s X1.i = t := ⟨_, rfl⟩
  rw [hnm]
  have HNM := Lib.hid hnm
  obtain ⟨X2, hX2⟩ : ∃ Y, nameS s X1 = Y := ⟨_, rfl⟩
  rw [hX2] at hs2
  have HX2 := Lib.hid hX2
  have hb2 := HB1.out.step hs2 hf2
  have hw2 := HW1.out.trans (hf2.below HB1.out.at_)
  have HI2 := Lib.hid (show SameR x X2 from HI1.out.trans (HX2.out ▸ sameR_name s X1))
  have z2 := hb2.mkb.free 2
  have m2 := hb2.mkb.cell 2
  simp only [markV, List.getElem?_cons_succ, List.getElem?_cons_zero] at m2
  have HB2 := Lib.hid hb2
  have HB3 := Lib.hid (hb2.set (m' := ⟨112, [], nm, [], [], a⟩) 2 (strv nm) rfl)
  have HW3 := Lib.hid (below_put hw2 (b := b) (j := 2) (u := strv nm) (Nat.le_of_lt hpb))
  clear hb2 hw2 hs2 hf2 hX2 hnm
  go_wp2_with fail
  refine (scan_blanks p s X2 _ HB3.out.at_).mono ?_
  rintro e w4 ⟨rfl, hs4, hf4⟩
  obtain ⟨X4, hX4⟩ : ∃ Y, blanksS s X2 = Y := ⟨_, rfl⟩
  rw [hX4] at hs4
  have HX4 := Lib.hid hX4
  have HB4 := Lib.hid (HB3.out.step hs4 hf4)
  have HW4 := Lib.hid (HW3.out.trans (hf4.below HB3.out.at_))
  clear hs4 hf4 hX4
  try dsimp only
  have HI4 := Lib.hid (show SameR x X4 from HX4.out ▸ HI2.out.trans (sameR_blanks s X2))
  clear z2 m2
  have c4 := HB4.out.at_.c4
  by_cases he : X4.err = 0
  case neg =>
    have j1 : ((X4.err : Int) == 0) = false := by simp; omega
    have j2 : ((X4.err : Int) != 0) = true := by simp; omega
    have HE := Lib.hid (braceS_err HXI.out HKK.out HX1.out HX2.out HX4.out he)
    clear he
    go_wp2
    refine bodyPost_ret (v := .tuple #[]) ?_ rfl ?_
    · simp [results, Tryz.results71, go_sem]
    rw [HE.out]
    exact ⟨rfl, HB4.out.at_, HW4.out⟩
  have HE := Lib.hid he
  rw [he] at c4
  clear he
  have c0 := HB4.out.at_.c0
  have c1 := HB4.out.at_.c1
  have hks := HB4.out.at_.here
  obtain ⟨k, hk⟩ : ∃ k, X4.i = k := ⟨_, rfl⟩
  rw [hk] at c1 hks
  have HK := Lib.hid hk
  clear hk
  go_upto_region 6 with fail
  have hS0 : w4.drew.cell? ⟨p, 0, none⟩ = some (.string s) ∧ w4.drew.cell? ⟨p, 1, none⟩ = some (.int .i64 (k : Nat)) := ⟨c0, c1⟩
  have HD4 := Lib.hid HB4.out.drew
  have HDW := Lib.hid HW4.out.drew

  go_cut [50] (fun v wc => v = .bool (decide (¬ byteAt s k = some 44)) ∧ BrI p s X4 b ⟨112, [], nm, [], [], a⟩ wc ∧ Below p w wc)
  case first =>
    by_cases hlt2 : k < s.size
    · have k1 : decide ((s.size : Int) ≤ (k : Int)) = false := by simp; omega
      have k1n : decide (s.size ≤ k) = false := by simp; omega
      have k1' : (k : Int) < (s.size : Int) := by omega
      obtain ⟨d, hd⟩ : ∃ d, s[k] = d := ⟨_, rfl⟩
      by_cases hdc : d = 44
      · have j1 : ((d.toNat : Int) == 44) = true := by rw [hdc]; rfl
        have j2 : ((d.toNat : Int) != 44) = false := by rw [hdc]; rfl
        have HQ := Lib.hid (show decide (¬ byteAt s k = some 44) = false by rw [byteAt_lt hlt2, hd, hdc]; simp)
        clear hdc
        go_wp2_with fail
        refine wp_region_takes (fun W' : World => W'.cell? ⟨p, 0, none⟩ = some (.string s) ∧ W'.cell? ⟨p, 1, none⟩ = some (.int .i64 (k : Nat))) [0, 1, 2, 3, 4, 5, 6, 7, 8, 9, 10, 11, 12, 13, 14, 15, 16, 17, 18, 19, 20, 21] 0 (by intro _ _ d _ _ h; cases d <;> exact h) (by kernel_rfl) (by kernel_rfl) hS0 ?_
        (iterate 22 (first | (refine takes_yes (v := ?_) rfl (by rfl) ?_ ?_; rotate_left; (focus ((intro w' hS'; (try dsimp only at hS'); go_simp; try (with_reducible rfl)); done)); (try simp only [Act.put, List.setIfInBounds_toArray, List.set_cons_zero, List.set_cons_succ])) | (refine takes_no rfl (by rfl) ?_; (try simp only [Act.put, List.setIfInBounds_toArray, List.set_cons_zero, List.set_cons_succ]))))
        refine takes_nil ?_
        refine wpAnyH_done (by kernel_rfl) ?_ _
        go_wp2_with fail
        go_meet
        case rel => exact ⟨by rw [HQ.out], HD4.out, HDW.out⟩
      · have j1 : ((d.toNat : Int) == 44) = false := byte_ne hdc
        have j2 : ((d.toNat : Int) != 44) = true := by rw [bne, j1]; rfl
        have HQ := Lib.hid (show decide (¬ byteAt s k = some 44) = true by rw [byteAt_lt hlt2, hd]; simp [hdc])
        clear hdc
        go_wp2_with fail
        refine wp_region_takes (fun W' : World => W'.cell? ⟨p, 0, none⟩ = some (.string s) ∧ W'.cell? ⟨p, 1, none⟩ = some (.int .i64 (k : Nat))) [0, 1, 2, 3, 4, 5, 6, 7, 8, 9, 10, 11, 12, 13, 14, 15, 16, 17, 18, 19, 20, 21] 0 (by intro _ _ d _ _ h; cases d <;> exact h) (by kernel_rfl) (by kernel_rfl) hS0 ?_
        (iterate 22 (first | (refine takes_yes (v := ?_) rfl (by rfl) ?_ ?_; rotate_left; (focus ((intro w' hS'; (try dsimp only at hS'); go_simp; try (with_reducible rfl)); done)); (try simp only [Act.put, List.setIfInBounds_toArray, List.set_cons_zero, List.set_cons_succ])) | (refine takes_no rfl (by rfl) ?_; (try simp only [Act.put, List.setIfInBounds_toArray, List.set_cons_zero, List.set_cons_succ]))))
        refine takes_nil ?_
        refine wpAnyH_done (by kernel_rfl) ?_ _
        go_wp2_with fail
        go_meet
        case rel => exact ⟨by rw [HQ.out], HD4.out, HDW.out⟩
    · have k1 : decide ((s.size : Int) ≤ (k : Int)) = true := by simp; omega
      have k1n : decide (s.size ≤ k) = true := by simp; omega
      have HQ := Lib.hid (show decide (¬ byteAt s k = some 44) = true by rw [byteAt_end hlt2]; simp)
      go_wp2_with fail
      refine wp_region_takes (fun W' : World => W'.cell? ⟨p, 0, none⟩ = some (.string s) ∧ W'.cell? ⟨p, 1, none⟩ = some (.int .i64 (k : Nat))) [0, 1, 2, 3, 4, 5, 6, 7, 8, 9, 10, 11, 12, 13, 14, 15, 16, 17, 18, 19, 20, 21] 0 (by intro _ _ d _ _ h; cases d <;> exact h) (by kernel_rfl) (by kernel_rfl) hS0 ?_
      (iterate 22 (first | (refine takes_yes (v := ?_) rfl (by rfl) ?_ ?_; rotate_left; (focus ((intro w' hS'; (try dsimp only at hS'); go_simp; try (with_reducible rfl)); done)); (try simp only [Act.put, List.setIfInBounds_toArray, List.set_cons_zero, List.set_cons_succ])) | (refine takes_no rfl (by rfl) ?_; (try simp only [Act.put, List.setIfInBounds_toArray, List.set_cons_zero, List.set_cons_succ]))))
      refine takes_nil ?_
      refine wpAnyH_done (by kernel_rfl) ?_ _
      go_wp2_with fail
      go_meet
      case rel => exact ⟨by rw [HQ.out], HD4.out, HDW.out⟩
  obtain ⟨rfl, hb5, hw5⟩ := hcut
  have HB5 := Lib.hid hb5
  have HW5 := Lib.hid hw5
  clear hb5 hw5 HD4 HDW hS0 c0 c1 c4
  by_cases hc : ¬ byteAt s k = some 44
  case pos =>
    rw [decide_eq_true hc]
    have HC := Lib.hid hc
    clear hc
    go_wp2_with fail
    refine (scan_needs p s X4 125 _ HB5.out.at_).mono ?_
    rintro e w6 ⟨rfl, hs6, hf6⟩
    obtain ⟨X6, hX6⟩ : ∃ Y, needsS s X4 125 = Y := ⟨_, rfl⟩
    rw [hX6] at hs6
    have HX6 := Lib.hid hX6
    have HB6 := Lib.hid (HB5.out.step hs6 hf6)
    have HW6 := Lib.hid (HW5.out.trans (hf6.below HB5.out.at_))
    clear hs6 hf6 hX6
    try dsimp only
    have HI6 := HI4.out.trans (show SameR X4 X6 from HX6.out ▸ sameR_needs s X4 125)
    have hlo : X6.out.length + 1 ≤ 1000000 := by rw [HI6.1]; omega
    clear HI6
    have HB := HB6
    go_wp2_with fail
    obtain ⟨v2, v3, h2, h2', h3, h3', hd⟩ := HB.out.at_.rows
    obtain ⟨xa, xc, rfl⟩ := own_slice h2'
    obtain ⟨no, hno⟩ : ∃ no, X6.out.length = no := ⟨_, rfl⟩
    have HNO := Lib.hid hno
    have HLO := Lib.hid hlo
    rw [hno] at h2 h2' hlo
    have hbo : some b ≠ (Value.slice xa no xc).ownBlock := fun e => HB.out.away _ h2 e.symm
    have HBO := Lib.hid hbo
    have m0 := HB.out.mkb.cell 0
    have m1 := HB.out.mkb.cell 1
    have m2 := HB.out.mkb.cell 2
    have m3 := HB.out.mkb.cell 3
    have m4 := HB.out.mkb.cell 4
    have m5 := HB.out.mkb.cell 5
    simp only [markV, List.getElem?_cons_succ, List.getElem?_cons_zero] at m0 m1 m2 m3 m4 m5
    have H2 := Lib.hid h2'
    have H3 := Lib.hid h3'
    have H3K := Lib.hid h3
    have HD := Lib.hid hd
    clear h2' h3' hd hno h3 hbo
    have hplt := HB.out.at_.lt
    have hblt := HB.out.mkb.lt
    have hS0 : w6.drew.cell? ⟨p, 2, none⟩ = some (.slice xa (no : Nat) xc) ∧ w6.drew.cell? ⟨b, 0, none⟩ = some (.int .u8 112) ∧ w6.drew.cell? ⟨b, 1, none⟩ = some (strv []) ∧ w6.drew.cell? ⟨b, 2, none⟩ = some (strv nm) ∧ w6.drew.cell? ⟨b, 3, none⟩ = some (strv []) ∧ w6.drew.cell? ⟨b, 4, none⟩ = some (strv []) ∧ w6.drew.cell? ⟨b, 5, none⟩ = some (.int .i64 (a : Nat)) := ⟨h2, m0, m1, m2, m3, m4, m5⟩
    refine wp_region_takesK (fun W' : World => W'.cell? ⟨p, 2, none⟩ = some (.slice xa (no : Nat) xc) ∧ W'.cell? ⟨b, 0, none⟩ = some (.int .u8 112) ∧ W'.cell? ⟨b, 1, none⟩ = some (strv []) ∧ W'.cell? ⟨b, 2, none⟩ = some (strv nm) ∧ W'.cell? ⟨b, 3, none⟩ = some (strv []) ∧ W'.cell? ⟨b, 4, none⟩ = some (strv []) ∧ W'.cell? ⟨b, 5, none⟩ = some (.int .i64 (a : Nat))) 10 [0, 1, 2, 3, 4, 5] 5 (by intro _ _ d _ _ h; cases d <;> exact h) (by kernel_rfl) (by kernel_rfl) hS0 ?_
    (iterate 6 (first | (refine takes_yes (v := ?_) rfl (by rfl) ?_ ?_; rotate_left; (focus ((intro w' hS'; (try dsimp only at hS'); go_simp; try (with_reducible rfl)); done)); (try simp only [Act.put, List.setIfInBounds_toArray, List.set_cons_zero, List.set_cons_succ])) | (refine takes_no rfl (by rfl) ?_; (try simp only [Act.put, List.setIfInBounds_toArray, List.set_cons_zero, List.set_cons_succ]))))
    refine takes_nil ?_
    refine wpAnyK_only 6 (by kernel_rfl) rfl (fun K hK => ?_)
    go_simp
    obtain ⟨W7, hW7, hb7, hs7, hc7⟩ := laid_cells w6 [.int .u8 112, strv [], strv nm, strv [], strv [], .int .i64 (a : Nat)] 61
    rw [← hW7]
    clear hW7
    have hS7 : W7.cell? ⟨p, 2, none⟩ = some (.slice xa (no : Nat) xc) ∧ W7.cell? ⟨b, 0, none⟩ = some (.int .u8 112) ∧ W7.cell? ⟨b, 1, none⟩ = some (strv []) ∧ W7.cell? ⟨b, 2, none⟩ = some (strv nm) ∧ W7.cell? ⟨b, 3, none⟩ = some (strv []) ∧ W7.cell? ⟨b, 4, none⟩ = some (strv []) ∧ W7.cell? ⟨b, 5, none⟩ = some (.int .i64 (a : Nat)) := ⟨(hb7.cell (p := ⟨p, 2, none⟩) hplt).trans h2, (hb7.cell (p := ⟨b, 0, none⟩) hblt).trans m0, (hb7.cell (p := ⟨b, 1, none⟩) hblt).trans m1, (hb7.cell (p := ⟨b, 2, none⟩) hblt).trans m2, (hb7.cell (p := ⟨b, 3, none⟩) hblt).trans m3, (hb7.cell (p := ⟨b, 4, none⟩) hblt).trans m4, (hb7.cell (p := ⟨b, 5, none⟩) hblt).trans m5⟩
    refine hK.out _ _ hS7 (fun _ => ?_)
    clear hK K hS0
    have HB7 := Lib.hid hb7
    have HC7 := Lib.hid hc7
    clear hb7 hc7
    refine wpAnyK_only 7 (by kernel_rfl) rfl (fun K hK => ?_)
    rw [if_pos (by rfl)]
    refine app_op elem_marks _ _ rfl (p + 1) _ no (marksC X6.out) rfl (own_below H2.out HB7.out) ⟨w6.heap.size, 0, none⟩ 1 1 (markV ⟨112, [], nm, [], [], a⟩) rfl rfl HC7.out ?x1 (by omega) (by omega) ?x2
    case x1 =>
      intro u hu
      simp [markV] at hu
      rcases hu with rfl | rfl | rfl | rfl | rfl | rfl <;> rfl
    intro v' w' ho hg hw
    have hpo : some p ≠ (Value.slice xa no xc).ownBlock := fun e => Nat.lt_irrefl _ (H2.out.lt p e.symm).1
    have hS8 : w'.cell? ⟨p, 2, none⟩ = some (.slice xa (no : Nat) xc) ∧ w'.cell? ⟨b, 0, none⟩ = some (.int .u8 112) ∧ w'.cell? ⟨b, 1, none⟩ = some (strv []) ∧ w'.cell? ⟨b, 2, none⟩ = some (strv nm) ∧ w'.cell? ⟨b, 3, none⟩ = some (strv []) ∧ w'.cell? ⟨b, 4, none⟩ = some (strv []) ∧ w'.cell? ⟨b, 5, none⟩ = some (.int .i64 (a : Nat)) := ⟨hg.cell hS7.1 hpo, hg.cell hS7.2.1 HBO.out, hg.cell hS7.2.2.1 HBO.out, hg.cell hS7.2.2.2.1 HBO.out, hg.cell hS7.2.2.2.2.1 HBO.out, hg.cell hS7.2.2.2.2.2.1 HBO.out, hg.cell hS7.2.2.2.2.2.2 HBO.out⟩
    have C := HB.out.at_.cells5 HB7.out hg (fun g e => (H2.out.lt g e).1)
    have z2 := C.z 2
    have hgr := HB.out.at_.grow2 (m := ⟨112, [], nm, [], [], a⟩) (by rw [HNO.out]; exact H2.out) (by first | exact h2 | (rw [HNO.out]; exact h2)) H3K.out H3.out (by first | exact HD.out | (rw [← HNO.out]; exact HD.out)) HB7.out (by rw [HNO.out]; exact ho) hg hw HLO.out
    obtain ⟨na, nc, rfl⟩ := own_slice ho
    have HN := Lib.hid hgr
    have s2 := hS8.1
    refine hK.out _ _ hS8 (fun _ => ?_)
    clear hK K hgr ho hg hw C hpo m0 m1 m2 m3 m4 m5 h2 hS7
    refine wpAnyK_more [8, 9] 1 rfl (by intro _ _ d _ _ h; cases d <;> exact h) (by kernel_rfl) (by kernel_rfl) hS8 ?_
    (iterate 2 (first | (refine takes_yes (v := ?_) rfl (by rfl) ?_ ?_; rotate_left; (focus ((intro w' hS'; (try dsimp only at hS'); go_simp; try (with_reducible rfl)); done)); (try simp only [Act.put, List.setIfInBounds_toArray, List.set_cons_zero, List.set_cons_succ])) | (refine takes_no rfl (by rfl) ?_; (try simp only [Act.put, List.setIfInBounds_toArray, List.set_cons_zero, List.set_cons_succ]))))
    refine takes_nil ?_
    refine wpAnyK_last 10 (by kernel_rfl) (by kernel_rfl) rfl (fun K hK => ?_)
    go_simp
    refine hK.out _ _ ?_
    clear hK K
    refine wpAnyK_done (by kernel_rfl) ?_ _
    go_wp2
    refine bodyPost_ret (v := .tuple #[]) ?_ rfl ?_
    · simp [results, Tryz.results71, go_sem]
    rw [braceS_put HXI.out HKK.out HX1.out HNM.out HX2.out HX4.out HE.out HK.out HC.out HX6.out]
    exact ⟨rfl, HN.out.1, HW6.out.trans HN.out.2⟩
  rw [decide_eq_false hc]
  have hc := Classical.not_not.1 hc
  have hk1 : k < s.size := by
    apply Classical.byContradiction
    intro hn
    rw [byteAt_end hn] at hc
    cases hc
  have HC := Lib.hid hc
  clear hc
  have c1 := HB5.out.at_.c1
  have z1 := HB5.out.at_.z 1
  rw [HK.out] at c1
  obtain ⟨L, hL⟩ : ∃ K, k + 1 = K := ⟨_, rfl⟩
  have q2 : (k : Int) + 1 = (L : Int) := by omega
  have HLL := Lib.hid hL
  have hLs : L ≤ s.size := by omega
  have HP6 := Lib.hid (HB5.out.put1 L hLs)
  have HPW6 := Lib.hid (below_put HW5.out (b := p) (j := 1) (u := .int .i64 (L : Nat)) (Nat.le_refl _))
  clear hL
  go_wp2_with fail
  refine (scan_blanks p s _ _ HP6.out.at_).mono ?_
  rintro e w7 ⟨rfl, hs7, hf7⟩
  obtain ⟨X7, hX7⟩ : ∃ Y, blanksS s { X4 with i := L } = Y := ⟨_, rfl⟩
  rw [hX7] at hs7
  have HX7 := Lib.hid hX7
  have HB7 := Lib.hid (HP6.out.step hs7 hf7)
  have HW7 := Lib.hid (HPW6.out.trans (hf7.below HP6.out.at_))
  clear hs7 hf7 hX7
  try dsimp only
  have HI7 := Lib.hid (show SameR x X7 from HX7.out ▸ HI4.out.trans ⟨rfl, rfl⟩)
  clear c1 z1
  have c1 := HB7.out.at_.c1
  obtain ⟨i3, hi3⟩ : ∃ k, X7.i = k := ⟨_, rfl⟩
  rw [hi3] at c1
  have HI3 := Lib.hid hi3
  clear hi3
  go_wp2_with fail
  refine (scan_name p s X7 w7 HB7.out.at_).mono ?_
  rintro e w8 ⟨rfl, hs8, hf8⟩
  try dsimp only
  rw [HI3.out]
  obtain ⟨how, hhow⟩ : ∃ t, nameT s i3 = t := ⟨_, rfl⟩
  rw [hhow]
  have HHW := Lib.hid hhow
  obtain ⟨X8, hX8⟩ : ∃ Y, nameS s X7 = Y := ⟨_, rfl⟩
  rw [hX8] at hs8
  have HX8 := Lib.hid hX8
  have hb8 := HB7.out.step hs8 hf8
  have hw8 := HW7.out.trans (hf8.below HB7.out.at_)
  have HI8 := Lib.hid (show SameR x X8 from HI7.out.trans (HX8.out ▸ sameR_name s X7))
  have z3 := hb8.mkb.free 3
  have m3 := hb8.mkb.cell 3
  simp only [markV, List.getElem?_cons_succ, List.getElem?_cons_zero] at m3
  have HB8 := Lib.hid hb8
  have HW8 := Lib.hid hw8
  clear hb8 hw8 hs8 hf8 hX8 hhow c1
  go_upto_region 13 with fail
  have hb9 : BrI p s X8 b ⟨112, [], nm, how, [], a⟩ (w8.setCell ⟨b, 3, none⟩ (strv how)) := HB8.out.set 3 (strv how) rfl
  have hw9 : Below p w (w8.setCell ⟨b, 3, none⟩ (strv how)) := below_put HW8.out (Nat.le_of_lt hpb)
  obtain ⟨w9, hW9⟩ : ∃ X, w8.setCell ⟨b, 3, none⟩ (strv how) = X := ⟨_, rfl⟩
  rw [hW9] at hb9 hw9
  try rw [hW9]
  have HB9 := Lib.hid hb9
  have HW9 := Lib.hid hw9
  clear hW9 hb9 hw9
  clear z3 m3
  have m3 := HB9.out.mkb.cell 3
  simp only [markV, List.getElem?_cons_succ, List.getElem?_cons_zero] at m3
  have hbl := HB9.out.mkb.lt
  go_wp2_with fail
  obtain ⟨W10, hW10, hb10, hs10⟩ := laid_words w9 kindsL 9 (by decide)
  rw [show w9.alloc (Obj.cells #[Value.string { data := #[110, 117, 109, 98, 101, 114] }, Value.string { data := #[112, 108, 117, 114, 97, 108] }, Value.string { data := #[115, 101, 108, 101, 99, 116, 111, 114, 100, 105, 110, 97, 108] }, Value.string { data := #[115, 101, 108, 101, 99, 116] }] 9) = W10 from hW10.symm]
  have HSA := Lib.hid hs10
  have HB10 := Lib.hid (HB9.out.step (HB9.out.at_.below hb10) (Fr.of HB9.out.at_ hb10))
  have HW10 := Lib.hid (HW9.out.trans (hb10.mono (Nat.le_of_lt HB9.out.at_.lt)))
  clear hW10 hb10 hs10 m3 hbl
  refine (place_any _ kindsL ⟨how.toArray⟩ W10 HSA.out (by decide)).mono ?_
  rintro e w11 ⟨rfl, rfl⟩
  obtain ⟨kn, hkn⟩ : ∃ q, placeL kindsL how = q := ⟨_, rfl⟩
  rw [show placeL kindsL (⟨how.toArray⟩ : ByteArray).data.toList = kn from hkn]
  have hkr : -1 ≤ kn ∧ kn < 4 := by rw [← hkn]; exact kinds_rng how
  have HKN := Lib.hid hkn
  clear hkn
  by_cases hn0 : kn < 0
  case pos =>
    have j1 : decide (kn < 0) = true := by simp; omega
    go_wp2_with fail
    refine (scan_fault p s X8 3 i3 W10 HB10.out.at_).mono ?_
    rintro e w12 ⟨rfl, hs12, hf12⟩
    obtain ⟨X12, hX12⟩ : ∃ Y, faultS X8 3 i3 = Y := ⟨_, rfl⟩
    rw [hX12] at hs12
    have HX12 := Lib.hid hX12
    have HB12 := Lib.hid (HB10.out.step hs12 hf12)
    have HW12 := Lib.hid (HW10.out.trans (hf12.below HB10.out.at_))
    clear hs12 hf12 hX12
    try dsimp only
    go_wp2
    refine bodyPost_ret (v := .tuple #[]) ?_ rfl ?_
    · simp [results, Tryz.results71, go_sem]
    rw [braceS_how HXI.out HKK.out HX1.out HNM.out HX2.out HX4.out HE.out HK.out HC.out HLL.out HX7.out, howS_none HI3.out HHW.out HKN.out hn0, HX8.out, HX12.out]
    exact ⟨rfl, HB12.out.at_, HW12.out⟩
  have j1 : decide (kn < 0) = false := by simp; omega
  go_wp2_with fail
  refine (scan_blanks p s X8 W10 HB10.out.at_).mono ?_
  rintro e w13 ⟨rfl, hs13, hf13⟩
  obtain ⟨X13, hX13⟩ : ∃ Y, blanksS s X8 = Y := ⟨_, rfl⟩
  rw [hX13] at hs13
  have HX13 := Lib.hid hX13
  have HB13 := Lib.hid (HB10.out.step hs13 hf13)
  have HW13 := Lib.hid (HW10.out.trans (hf13.below HB10.out.at_))
  clear hs13 hf13 hX13
  try dsimp only
  have HI13 := Lib.hid (show SameR x X13 from HX13.out ▸ HI8.out.trans (sameR_blanks s X8))
  have z0 := HB13.out.mkb.free 0
  have m0 := HB13.out.mkb.cell 0
  simp only [markV, List.getElem?_cons_succ, List.getElem?_cons_zero] at m0
  by_cases hk0 : kn = 0
  case pos =>
    have j2 : (kn == 0) = true := by simp [hk0]
    have HK0 := Lib.hid hk0
    clear hk0
    go_upto_region 19 with fail
    have hb14 : BrI p s X13 b ⟨110, [], nm, how, [], a⟩ (w13.setCell ⟨b, 0, none⟩ (.int .u8 110)) := HB13.out.set 0 (.int .u8 110) rfl
    have hw14 : Below p w (w13.setCell ⟨b, 0, none⟩ (.int .u8 110)) := below_put HW13.out (Nat.le_of_lt hpb)
    obtain ⟨w14, hW14⟩ : ∃ X, w13.setCell ⟨b, 0, none⟩ (.int .u8 110) = X := ⟨_, rfl⟩
    rw [hW14] at hb14 hw14
    try rw [hW14]
    have HB14 := Lib.hid hb14
    have HW14 := Lib.hid hw14
    clear hW14 hb14 hw14
    clear z0 m0
    go_wp2_with fail
    refine (scan_needs p s X13 125 _ HB14.out.at_).mono ?_
    rintro e w15 ⟨rfl, hs15, hf15⟩
    obtain ⟨X15, hX15⟩ : ∃ Y, needsS s X13 125 = Y := ⟨_, rfl⟩
    rw [hX15] at hs15
    have HX15 := Lib.hid hX15
    have HB15 := Lib.hid (HB14.out.step hs15 hf15)
    have HW15 := Lib.hid (HW14.out.trans (hf15.below HB14.out.at_))
    clear hs15 hf15 hX15
    try dsimp only
    have HI15 := HI13.out.trans (show SameR X13 X15 from HX15.out ▸ sameR_needs s X13 125)
    have hlo : X15.out.length + 1 ≤ 1000000 := by rw [HI15.1]; omega
    clear HI15
    have HB := HB15
    go_wp2_with fail
    obtain ⟨v2, v3, h2, h2', h3, h3', hd⟩ := HB.out.at_.rows
    obtain ⟨xa, xc, rfl⟩ := own_slice h2'
    obtain ⟨no, hno⟩ : ∃ no, X15.out.length = no := ⟨_, rfl⟩
    have HNO := Lib.hid hno
    have HLO := Lib.hid hlo
    rw [hno] at h2 h2' hlo
    have hbo : some b ≠ (Value.slice xa no xc).ownBlock := fun e => HB.out.away _ h2 e.symm
    have HBO := Lib.hid hbo
    have m0 := HB.out.mkb.cell 0
    have m1 := HB.out.mkb.cell 1
    have m2 := HB.out.mkb.cell 2
    have m3 := HB.out.mkb.cell 3
    have m4 := HB.out.mkb.cell 4
    have m5 := HB.out.mkb.cell 5
    simp only [markV, List.getElem?_cons_succ, List.getElem?_cons_zero] at m0 m1 m2 m3 m4 m5
    have H2 := Lib.hid h2'
    have H3 := Lib.hid h3'
    have H3K := Lib.hid h3
    have HD := Lib.hid hd
    clear h2' h3' hd hno h3 hbo
    have hplt := HB.out.at_.lt
    have hblt := HB.out.mkb.lt
    have hS0 : w15.drew.cell? ⟨p, 2, none⟩ = some (.slice xa (no : Nat) xc) ∧ w15.drew.cell? ⟨b, 0, none⟩ = some (.int .u8 110) ∧ w15.drew.cell? ⟨b, 1, none⟩ = some (strv []) ∧ w15.drew.cell? ⟨b, 2, none⟩ = some (strv nm) ∧ w15.drew.cell? ⟨b, 3, none⟩ = some (strv how) ∧ w15.drew.cell? ⟨b, 4, none⟩ = some (strv []) ∧ w15.drew.cell? ⟨b, 5, none⟩ = some (.int .i64 (a : Nat)) := ⟨h2, m0, m1, m2, m3, m4, m5⟩
    refine wp_region_takesK (fun W' : World => W'.cell? ⟨p, 2, none⟩ = some (.slice xa (no : Nat) xc) ∧ W'.cell? ⟨b, 0, none⟩ = some (.int .u8 110) ∧ W'.cell? ⟨b, 1, none⟩ = some (strv []) ∧ W'.cell? ⟨b, 2, none⟩ = some (strv nm) ∧ W'.cell? ⟨b, 3, none⟩ = some (strv how) ∧ W'.cell? ⟨b, 4, none⟩ = some (strv []) ∧ W'.cell? ⟨b, 5, none⟩ = some (.int .i64 (a : Nat))) 10 [0, 1, 2, 3, 4, 5] 5 (by intro _ _ d _ _ h; cases d <;> exact h) (by kernel_rfl) (by kernel_rfl) hS0 ?_
    (iterate 6 (first | (refine takes_yes (v := ?_) rfl (by rfl) ?_ ?_; rotate_left; (focus ((intro w' hS'; (try dsimp only at hS'); go_simp; try (with_reducible rfl)); done)); (try simp only [Act.put, List.setIfInBounds_toArray, List.set_cons_zero, List.set_cons_succ])) | (refine takes_no rfl (by rfl) ?_; (try simp only [Act.put, List.setIfInBounds_toArray, List.set_cons_zero, List.set_cons_succ]))))
    refine takes_nil ?_
    refine wpAnyK_only 6 (by kernel_rfl) rfl (fun K hK => ?_)
    go_simp
    obtain ⟨W7, hW7, hb7, hs7, hc7⟩ := laid_cells w15 [.int .u8 110, strv [], strv nm, strv how, strv [], .int .i64 (a : Nat)] 61
    rw [← hW7]
    clear hW7
    have hS7 : W7.cell? ⟨p, 2, none⟩ = some (.slice xa (no : Nat) xc) ∧ W7.cell? ⟨b, 0, none⟩ = some (.int .u8 110) ∧ W7.cell? ⟨b, 1, none⟩ = some (strv []) ∧ W7.cell? ⟨b, 2, none⟩ = some (strv nm) ∧ W7.cell? ⟨b, 3, none⟩ = some (strv how) ∧ W7.cell? ⟨b, 4, none⟩ = some (strv []) ∧ W7.cell? ⟨b, 5, none⟩ = some (.int .i64 (a : Nat)) := ⟨(hb7.cell (p := ⟨p, 2, none⟩) hplt).trans h2, (hb7.cell (p := ⟨b, 0, none⟩) hblt).trans m0, (hb7.cell (p := ⟨b, 1, none⟩) hblt).trans m1, (hb7.cell (p := ⟨b, 2, none⟩) hblt).trans m2, (hb7.cell (p := ⟨b, 3, none⟩) hblt).trans m3, (hb7.cell (p := ⟨b, 4, none⟩) hblt).trans m4, (hb7.cell (p := ⟨b, 5, none⟩) hblt).trans m5⟩
    refine hK.out _ _ hS7 (fun _ => ?_)
    clear hK K hS0
    have HB7 := Lib.hid hb7
    have HC7 := Lib.hid hc7
    clear hb7 hc7
    refine wpAnyK_only 7 (by kernel_rfl) rfl (fun K hK => ?_)
    rw [if_pos (by rfl)]
    refine app_op elem_marks _ _ rfl (p + 1) _ no (marksC X15.out) rfl (own_below H2.out HB7.out) ⟨w15.heap.size, 0, none⟩ 1 1 (markV ⟨110, [], nm, how, [], a⟩) rfl rfl HC7.out ?y1 (by omega) (by omega) ?y2
    case y1 =>
      intro u hu
      simp [markV] at hu
      rcases hu with rfl | rfl | rfl | rfl | rfl | rfl <;> rfl
    intro v' w' ho hg hw
    have hpo : some p ≠ (Value.slice xa no xc).ownBlock := fun e => Nat.lt_irrefl _ (H2.out.lt p e.symm).1
    have hS8 : w'.cell? ⟨p, 2, none⟩ = some (.slice xa (no : Nat) xc) ∧ w'.cell? ⟨b, 0, none⟩ = some (.int .u8 110) ∧ w'.cell? ⟨b, 1, none⟩ = some (strv []) ∧ w'.cell? ⟨b, 2, none⟩ = some (strv nm) ∧ w'.cell? ⟨b, 3, none⟩ = some (strv how) ∧ w'.cell? ⟨b, 4, none⟩ = some (strv []) ∧ w'.cell? ⟨b, 5, none⟩ = some (.int .i64 (a : Nat)) := ⟨hg.cell hS7.1 hpo, hg.cell hS7.2.1 HBO.out, hg.cell hS7.2.2.1 HBO.out, hg.cell hS7.2.2.2.1 HBO.out, hg.cell hS7.2.2.2.2.1 HBO.out, hg.cell hS7.2.2.2.2.2.1 HBO.out, hg.cell hS7.2.2.2.2.2.2 HBO.out⟩
    have C := HB.out.at_.cells5 HB7.out hg (fun g e => (H2.out.lt g e).1)
    have z2 := C.z 2
    have hgr := HB.out.at_.grow2 (m := ⟨110, [], nm, how, [], a⟩) (by rw [HNO.out]; exact H2.out) (by first | exact h2 | (rw [HNO.out]; exact h2)) H3K.out H3.out (by first | exact HD.out | (rw [← HNO.out]; exact HD.out)) HB7.out (by rw [HNO.out]; exact ho) hg hw HLO.out
    obtain ⟨na, nc, rfl⟩ := own_slice ho
    have HN := Lib.hid hgr
    have s2 := hS8.1
    refine hK.out _ _ hS8 (fun _ => ?_)
    clear hK K hgr ho hg hw C hpo m0 m1 m2 m3 m4 m5 h2 hS7
    refine wpAnyK_more [8, 9] 1 rfl (by intro _ _ d _ _ h; cases d <;> exact h) (by kernel_rfl) (by kernel_rfl) hS8 ?_
    (iterate 2 (first | (refine takes_yes (v := ?_) rfl (by rfl) ?_ ?_; rotate_left; (focus ((intro w' hS'; (try dsimp only at hS'); go_simp; try (with_reducible rfl)); done)); (try simp only [Act.put, List.setIfInBounds_toArray, List.set_cons_zero, List.set_cons_succ])) | (refine takes_no rfl (by rfl) ?_; (try simp only [Act.put, List.setIfInBounds_toArray, List.set_cons_zero, List.set_cons_succ]))))
    refine takes_nil ?_
    refine wpAnyK_last 10 (by kernel_rfl) (by kernel_rfl) rfl (fun K hK => ?_)
    go_simp
    refine hK.out _ _ ?_
    clear hK K
    refine wpAnyK_done (by kernel_rfl) ?_ _
    go_wp2
    refine bodyPost_ret (v := .tuple #[]) ?_ rfl ?_
    · simp [results, Tryz.results71, go_sem]
    rw [braceS_how HXI.out HKK.out HX1.out HNM.out HX2.out HX4.out HE.out HK.out HC.out HLL.out HX7.out, howS_num HI3.out HHW.out HKN.out HK0.out HX8.out HX13.out HX15.out]
    exact ⟨rfl, HN.out.1, HW15.out.trans HN.out.2⟩
  have j2 : (kn == 0) = false := by simp; omega
  have hkp : 0 < kn := by omega
  have z4 := HB13.out.mkb.free 4
  have m4 := HB13.out.mkb.cell 4
  simp only [markV, List.getElem?_cons_succ, List.getElem?_cons_zero] at m4
  go_upto_region 23 with fail
  have hb16 : BrI p s X13 b ⟨40, [], nm, how, [48], a⟩ ((w13.setCell ⟨b, 0, none⟩ (.int .u8 40)).setCell ⟨b, 4, none⟩ (strv [48])) := (HB13.out.set (m' := ⟨40, [], nm, how, [], a⟩) 0 (.int .u8 40) rfl).set 4 (strv [48]) rfl
  have hw16 : Below p w ((w13.setCell ⟨b, 0, none⟩ (.int .u8 40)).setCell ⟨b, 4, none⟩ (strv [48])) := below_put (below_put HW13.out (Nat.le_of_lt hpb)) (Nat.le_of_lt hpb)
  obtain ⟨w16, hW16⟩ : ∃ X, (w13.setCell ⟨b, 0, none⟩ (.int .u8 40)).setCell ⟨b, 4, none⟩ (strv [48]) = X := ⟨_, rfl⟩
  rw [hW16] at hb16 hw16
  try rw [hW16]
  have HB16 := Lib.hid hb16
  have HW16 := Lib.hid hw16
  clear hW16 hb16 hw16
  clear z0 m0 z4 m4
  go_wp2_with fail
  refine (scan_needs p s X13 44 _ HB16.out.at_).mono ?_
  rintro e w17 ⟨rfl, hs17, hf17⟩
  obtain ⟨X17, hX17⟩ : ∃ Y, needsS s X13 44 = Y := ⟨_, rfl⟩
  rw [hX17] at hs17
  have HX17 := Lib.hid hX17
  have HB17 := Lib.hid (HB16.out.step hs17 hf17)
  have HW17 := Lib.hid (HW16.out.trans (hf17.below HB16.out.at_))
  clear hs17 hf17 hX17
  try dsimp only
  go_wp2_with fail
  refine (scan_blanks p s X17 _ HB17.out.at_).mono ?_
  rintro e w18 ⟨rfl, hs18, hf18⟩
  obtain ⟨X18, hX18⟩ : ∃ Y, blanksS s X17 = Y := ⟨_, rfl⟩
  rw [hX18] at hs18
  have HX18 := Lib.hid hX18
  have HB18 := Lib.hid (HB17.out.step hs18 hf18)
  have HW18 := Lib.hid (HW17.out.trans (hf18.below HB17.out.at_))
  clear hs18 hf18 hX18
  try dsimp only
  have HI18 := Lib.hid (show SameR x X18 from HX18.out ▸ (HI13.out.trans (show SameR X13 X17 from HX17.out ▸ sameR_needs s X13 44)).trans (sameR_blanks s X17))
  obtain ⟨num, hnum⟩ : ∃ n, decide (kn < 3) = n := ⟨_, rfl⟩
  have HNUM := Lib.hid hnum
  obtain ⟨k6, hk6⟩ : ∃ k, X18.i = k := ⟨_, rfl⟩
  have HK6 := Lib.hid hk6
  have c0 := HB18.out.at_.c0
  have c1 := HB18.out.at_.c1
  have hks6 := HB18.out.at_.here
  rw [hk6] at c1 hks6
  clear hk6
  go_upto_region 25 with fail
  have hS0 : w18.drew.cell? ⟨p, 0, none⟩ = some (.string s) ∧ w18.drew.cell? ⟨p, 1, none⟩ = some (.int .i64 (k6 : Nat)) := ⟨c0, c1⟩
  have HD18 := Lib.hid HB18.out.drew
  have HDW := Lib.hid HW18.out.drew
  go_cut [142] (fun v wc => v = .bool (num && offAt s k6) ∧ BrI p s X18 b ⟨40, [], nm, how, [48], a⟩ wc ∧ Below p w wc)
  case first =>
    by_cases h3 : kn < 3
    · have j3 : decide (kn < 3) = true := by simp; omega
      rw [j3] at hnum
      subst hnum
      by_cases h7 : k6 + 7 ≤ s.size
      · obtain ⟨dl, hdl⟩ : ∃ d : Nat, s.size - k6 = d := ⟨_, rfl⟩
        have e1 : (s.size : Int) - (k6 : Int) = (dl : Int) := by omega
        have e2 : IntKind.i64.wrap (dl : Int) = (dl : Int) := by simp [IntKind.wrap, IntKind.signed, IntKind.bits]; omega
        have e3 : decide ((7 : Int) ≤ (dl : Int)) = true := by simp; omega
        have e3n : decide (7 ≤ dl) = true := by simp; omega
        obtain ⟨kk, hkk⟩ : ∃ d : Nat, k6 + 7 = d := ⟨_, rfl⟩
        have e4 : (k6 : Int) + 7 = (kk : Int) := by omega
        have e5 : IntKind.i64.wrap (kk : Int) = (kk : Int) := by simp [IntKind.wrap, IntKind.signed, IntKind.bits]; omega
        have e6 : kk ≤ s.size := by omega
        have e7 : k6 ≤ kk := by omega
        have HQ := Lib.hid (offAt_slice hkk e6)
        clear hkk hdl
        go_wp2_with fail
        refine wp_region_takes (fun W' : World => W'.cell? ⟨p, 0, none⟩ = some (.string s) ∧ W'.cell? ⟨p, 1, none⟩ = some (.int .i64 (k6 : Nat))) [0, 1, 2, 3, 4, 5, 6, 7, 8, 9, 10, 11, 12, 13, 14, 15, 16, 17, 18, 19, 20, 21, 22, 23, 24, 25, 26, 27, 28, 29, 30, 31] 0 (by intro _ _ d _ _ h; cases d <;> exact h) (by kernel_rfl) (by kernel_rfl) hS0 ?_
        (iterate 32 (first | (refine takes_yes (v := ?_) rfl (by rfl) ?_ ?_; rotate_left; (focus ((intro w' hS'; (try dsimp only at hS'); go_simp; try (with_reducible rfl)); done)); (try simp only [Act.put, List.setIfInBounds_toArray, List.set_cons_zero, List.set_cons_succ])) | (refine takes_no rfl (by rfl) ?_; (try simp only [Act.put, List.setIfInBounds_toArray, List.set_cons_zero, List.set_cons_succ]))))
        refine takes_nil ?_
        refine wpAnyH_done (by kernel_rfl) ?_ _
        go_wp2_with fail
        go_meet
        case rel =>
          exact ⟨congrArg Value.bool (HQ.out.trans (Bool.true_and _).symm), HD18.out, HDW.out⟩
      · have e3 : decide ((7 : Int) ≤ (s.size : Int) - (k6 : Int)) = false := by simp; omega
        have e3n : ¬ (7 : Int) ≤ (s.size : Int) - (k6 : Int) := by omega
        obtain ⟨dl, hdl⟩ : ∃ d : Nat, s.size - k6 = d := ⟨_, rfl⟩
        have e1 : (s.size : Int) - (k6 : Int) = (dl : Int) := by omega
        have e2 : IntKind.i64.wrap (dl : Int) = (dl : Int) := by simp [IntKind.wrap, IntKind.signed, IntKind.bits]; omega
        have e3 : decide ((7 : Int) ≤ (dl : Int)) = false := by simp; omega
        have e3n : decide (7 ≤ dl) = false := by simp; omega
        have HQ := Lib.hid (show offAt s k6 = false from offAt_short (by omega))
        clear hdl
        go_wp2_with fail
        refine wp_region_takes (fun W' : World => W'.cell? ⟨p, 0, none⟩ = some (.string s) ∧ W'.cell? ⟨p, 1, none⟩ = some (.int .i64 (k6 : Nat))) [0, 1, 2, 3, 4, 5, 6, 7, 8, 9, 10, 11, 12, 13, 14, 15, 16, 17, 18, 19, 20, 21, 22, 23, 24, 25, 26, 27, 28, 29, 30, 31] 0 (by intro _ _ d _ _ h; cases d <;> exact h) (by kernel_rfl) (by kernel_rfl) hS0 ?_
        (iterate 32 (first | (refine takes_yes (v := ?_) rfl (by rfl) ?_ ?_; rotate_left; (focus ((intro w' hS'; (try dsimp only at hS'); go_simp; try (with_reducible rfl)); done)); (try simp only [Act.put, List.setIfInBounds_toArray, List.set_cons_zero, List.set_cons_succ])) | (refine takes_no rfl (by rfl) ?_; (try simp only [Act.put, List.setIfInBounds_toArray, List.set_cons_zero, List.set_cons_succ]))))
        refine takes_nil ?_
        refine wpAnyH_done (by kernel_rfl) ?_ _
        go_wp2_with fail
        go_meet
        case rel => exact ⟨by rw [HQ.out]; rfl, HD18.out, HDW.out⟩
    · have j3 : decide (kn < 3) = false := by simp; omega
      rw [j3] at hnum
      subst hnum
      go_wp2_with fail
      refine wp_region_takes (fun W' : World => W'.cell? ⟨p, 0, none⟩ = some (.string s) ∧ W'.cell? ⟨p, 1, none⟩ = some (.int .i64 (k6 : Nat))) [0, 1, 2, 3, 4, 5, 6, 7, 8, 9, 10, 11, 12, 13, 14, 15, 16, 17, 18, 19, 20, 21, 22, 23, 24, 25, 26, 27, 28, 29, 30, 31] 0 (by intro _ _ d _ _ h; cases d <;> exact h) (by kernel_rfl) (by kernel_rfl) hS0 ?_
      (iterate 32 (first | (refine takes_yes (v := ?_) rfl (by rfl) ?_ ?_; rotate_left; (focus ((intro w' hS'; (try dsimp only at hS'); go_simp; try (with_reducible rfl)); done)); (try simp only [Act.put, List.setIfInBounds_toArray, List.set_cons_zero, List.set_cons_succ])) | (refine takes_no rfl (by rfl) ?_; (try simp only [Act.put, List.setIfInBounds_toArray, List.set_cons_zero, List.set_cons_succ]))))
      refine takes_nil ?_
      refine wpAnyH_done (by kernel_rfl) ?_ _
      go_wp2_with fail
      go_meet
      case rel => exact ⟨rfl, HD18.out, HDW.out⟩
  obtain ⟨rfl, hb19, hw19⟩ := hcut
  have HB19 := Lib.hid hb19
  have HW19 := Lib.hid hw19
  clear hb19 hw19 HD18 HDW hS0 c0 c1 hnum
  go_upto_if 142 with fail
  go_cut [] (fun wc => BrI p s (offS s num X18) b ⟨40, [], nm, how, offT s num X18, a⟩ wc ∧ Below p w wc)
  case first =>
    obtain ⟨e, he⟩ : ∃ e, (num && offAt s k6) = e := ⟨_, rfl⟩
    rw [he]
    cases e with
    | false =>
      have HQ := Lib.hid (off_no (num := num) HK6.out he)
      clear he
      go_wp2_with fail
      go_meet
      case rel =>
        rw [HQ.out.1, HQ.out.2]
        exact ⟨HB19.out, HW19.out⟩
    | true =>
      have h7 : k6 + 7 ≤ s.size := by
        apply Classical.byContradiction
        intro hn
        rw [offAt_short (by omega), Bool.and_false] at he
        cases he
      have c1 := HB19.out.at_.c1
      have z1 := HB19.out.at_.z 1
      rw [HK6.out] at c1
      obtain ⟨L7, hL7⟩ : ∃ K, k6 + 7 = K := ⟨_, rfl⟩
      have q7 : (k6 : Int) + 7 = (L7 : Int) := by omega
      have hL7s : L7 ≤ s.size := by omega
      have HQ := Lib.hid (off_yes (num := num) HK6.out he hL7)
      have HP19 := Lib.hid (HB19.out.put1 L7 hL7s)
      have HPW19 := Lib.hid (below_put HW19.out (b := p) (j := 1) (u := .int .i64 (L7 : Nat)) (Nat.le_refl _))
      clear hL7 he
      go_wp2_with fail
      refine (scan_blanks p s _ _ HP19.out.at_).mono ?_
      rintro e w20 ⟨rfl, hs20, hf20⟩
      obtain ⟨X20, hX20⟩ : ∃ Y, blanksS s { X18 with i := L7 } = Y := ⟨_, rfl⟩
      rw [hX20] at hs20
      have HX20 := Lib.hid hX20
      have HB20 := Lib.hid (HP19.out.step hs20 hf20)
      have HW20 := Lib.hid (HPW19.out.trans (hf20.below HP19.out.at_))
      clear hs20 hf20 hX20
      try dsimp only
      clear c1 z1
      go_wp2_with fail
      refine (scan_whole p s X20 w20 HB20.out.at_).mono ?_
      rintro e w21 ⟨rfl, hs21, hf21⟩
      try dsimp only
      obtain ⟨ot, hot⟩ : ∃ t, wholeT s X20.i = t := ⟨_, rfl⟩
      rw [hot]
      have HOT := Lib.hid hot
      obtain ⟨X21, hX21⟩ : ∃ Y, wholeS s X20 = Y := ⟨_, rfl⟩
      rw [hX21] at hs21
      have HX21 := Lib.hid hX21
      have hb21 := HB20.out.step hs21 hf21
      have hw21 := HW20.out.trans (hf21.below HB20.out.at_)
      have z4 := hb21.mkb.free 4
      have m4 := hb21.mkb.cell 4
      simp only [markV, List.getElem?_cons_succ, List.getElem?_cons_zero] at m4
      have HB22 := Lib.hid (hb21.set (m' := ⟨40, [], nm, how, ot, a⟩) 4 (strv ot) rfl)
      have HW22 := Lib.hid (below_put hw21 (b := b) (j := 4) (u := strv ot) (Nat.le_of_lt hpb))
      clear hb21 hw21 hs21 hf21 hX21 hot
      go_wp2_with fail
      refine (scan_blanks p s X21 _ HB22.out.at_).mono ?_
      rintro e w23 ⟨rfl, hs23, hf23⟩
      obtain ⟨X23, hX23⟩ : ∃ Y, blanksS s X21 = Y := ⟨_, rfl⟩
      rw [hX23] at hs23
      have HX23 := Lib.hid hX23
      have HB23 := Lib.hid (HB22.out.step hs23 hf23)
      have HW23 := Lib.hid (HW22.out.trans (hf23.below HB22.out.at_))
      clear hs23 hf23 hX23
      try dsimp only
      clear z4 m4
      go_wp2_with fail
      go_meet
      case rel =>
        rw [HQ.out.1 HX20.out HX21.out HX23.out, HQ.out.2 HX20.out HOT.out]
        exact ⟨HB23.out, HW23.out⟩
  obtain ⟨hb24, hw24⟩ := hcut
  obtain ⟨X24, hX24⟩ : ∃ X, offS s num X18 = X := ⟨_, rfl⟩
  obtain ⟨off, hoff⟩ : ∃ X, offT s num X18 = X := ⟨_, rfl⟩
  rw [hX24, hoff] at hb24
  have HX24 := Lib.hid hX24
  have HOFF := Lib.hid hoff
  have HB := Lib.hid hb24
  have HI24 := Lib.hid (show SameR x X24 from hX24 ▸ HI18.out.trans (sameR_off s num X18))
  have hlo : X24.out.length + 1 ≤ 1000000 := by rw [HI24.out.1]; omega
  clear hb24 hX24 hoff
  go_wp2_with fail
  obtain ⟨v2, v3, h2, h2', h3, h3', hd⟩ := HB.out.at_.rows
  obtain ⟨xa, xc, rfl⟩ := own_slice h2'
  obtain ⟨no, hno⟩ : ∃ no, X24.out.length = no := ⟨_, rfl⟩
  have HNO := Lib.hid hno
  have HLO := Lib.hid hlo
  rw [hno] at h2 h2' hlo
  have hbo : some b ≠ (Value.slice xa no xc).ownBlock := fun e => HB.out.away _ h2 e.symm
  have HBO := Lib.hid hbo
  have m0 := HB.out.mkb.cell 0
  have m1 := HB.out.mkb.cell 1
  have m2 := HB.out.mkb.cell 2
  have m3 := HB.out.mkb.cell 3
  have m4 := HB.out.mkb.cell 4
  have m5 := HB.out.mkb.cell 5
  simp only [markV, List.getElem?_cons_succ, List.getElem?_cons_zero] at m0 m1 m2 m3 m4 m5
  have H2 := Lib.hid h2'
  have H3 := Lib.hid h3'
  have H3K := Lib.hid h3
  have HD := Lib.hid hd
  clear h2' h3' hd hno h3 hbo
  have hplt := HB.out.at_.lt
  have hblt := HB.out.mkb.lt
  have hS0 : wc.drew.cell? ⟨p, 2, none⟩ = some (.slice xa (no : Nat) xc) ∧ wc.drew.cell? ⟨b, 0, none⟩ = some (.int .u8 40) ∧ wc.drew.cell? ⟨b, 1, none⟩ = some (strv []) ∧ wc.drew.cell? ⟨b, 2, none⟩ = some (strv nm) ∧ wc.drew.cell? ⟨b, 3, none⟩ = some (strv how) ∧ wc.drew.cell? ⟨b, 4, none⟩ = some (strv off) ∧ wc.drew.cell? ⟨b, 5, none⟩ = some (.int .i64 (a : Nat)) := ⟨h2, m0, m1, m2, m3, m4, m5⟩
  refine wp_region_takesK (fun W' : World => W'.cell? ⟨p, 2, none⟩ = some (.slice xa (no : Nat) xc) ∧ W'.cell? ⟨b, 0, none⟩ = some (.int .u8 40) ∧ W'.cell? ⟨b, 1, none⟩ = some (strv []) ∧ W'.cell? ⟨b, 2, none⟩ = some (strv nm) ∧ W'.cell? ⟨b, 3, none⟩ = some (strv how) ∧ W'.cell? ⟨b, 4, none⟩ = some (strv off) ∧ W'.cell? ⟨b, 5, none⟩ = some (.int .i64 (a : Nat))) 10 [0, 1, 2, 3, 4, 5] 5 (by intro _ _ d _ _ h; cases d <;> exact h) (by kernel_rfl) (by kernel_rfl) hS0 ?_
  (iterate 6 (first | (refine takes_yes (v := ?_) rfl (by rfl) ?_ ?_; rotate_left; (focus ((intro w' hS'; (try dsimp only at hS'); go_simp; try (with_reducible rfl)); done)); (try simp only [Act.put, List.setIfInBounds_toArray, List.set_cons_zero, List.set_cons_succ])) | (refine takes_no rfl (by rfl) ?_; (try simp only [Act.put, List.setIfInBounds_toArray, List.set_cons_zero, List.set_cons_succ]))))
  refine takes_nil ?_
  refine wpAnyK_only 6 (by kernel_rfl) rfl (fun K hK => ?_)
  go_simp
  obtain ⟨W7, hW7, hb7, hs7, hc7⟩ := laid_cells wc [.int .u8 40, strv [], strv nm, strv how, strv off, .int .i64 (a : Nat)] 61
  rw [← hW7]
  clear hW7
  have hS7 : W7.cell? ⟨p, 2, none⟩ = some (.slice xa (no : Nat) xc) ∧ W7.cell? ⟨b, 0, none⟩ = some (.int .u8 40) ∧ W7.cell? ⟨b, 1, none⟩ = some (strv []) ∧ W7.cell? ⟨b, 2, none⟩ = some (strv nm) ∧ W7.cell? ⟨b, 3, none⟩ = some (strv how) ∧ W7.cell? ⟨b, 4, none⟩ = some (strv off) ∧ W7.cell? ⟨b, 5, none⟩ = some (.int .i64 (a : Nat)) := ⟨(hb7.cell (p := ⟨p, 2, none⟩) hplt).trans h2, (hb7.cell (p := ⟨b, 0, none⟩) hblt).trans m0, (hb7.cell (p := ⟨b, 1, none⟩) hblt).trans m1, (hb7.cell (p := ⟨b, 2, none⟩) hblt).trans m2, (hb7.cell (p := ⟨b, 3, none⟩) hblt).trans m3, (hb7.cell (p := ⟨b, 4, none⟩) hblt).trans m4, (hb7.cell (p := ⟨b, 5, none⟩) hblt).trans m5⟩
  refine hK.out _ _ hS7 (fun _ => ?_)
  clear hK K hS0
  have HB7 := Lib.hid hb7
  have HC7 := Lib.hid hc7
  clear hb7 hc7
  refine wpAnyK_only 7 (by kernel_rfl) rfl (fun K hK => ?_)
  rw [if_pos (by rfl)]
  refine app_op elem_marks _ _ rfl (p + 1) _ no (marksC X24.out) rfl (own_below H2.out HB7.out) ⟨wc.heap.size, 0, none⟩ 1 1 (markV ⟨40, [], nm, how, off, a⟩) rfl rfl HC7.out ?u1 (by omega) (by omega) ?u2
  case u1 =>
    intro u hu
    simp [markV] at hu
    rcases hu with rfl | rfl | rfl | rfl | rfl | rfl <;> rfl
  intro v' w' ho hg hw
  have hpo : some p ≠ (Value.slice xa no xc).ownBlock := fun e => Nat.lt_irrefl _ (H2.out.lt p e.symm).1
  have hS8 : w'.cell? ⟨p, 2, none⟩ = some (.slice xa (no : Nat) xc) ∧ w'.cell? ⟨b, 0, none⟩ = some (.int .u8 40) ∧ w'.cell? ⟨b, 1, none⟩ = some (strv []) ∧ w'.cell? ⟨b, 2, none⟩ = some (strv nm) ∧ w'.cell? ⟨b, 3, none⟩ = some (strv how) ∧ w'.cell? ⟨b, 4, none⟩ = some (strv off) ∧ w'.cell? ⟨b, 5, none⟩ = some (.int .i64 (a : Nat)) := ⟨hg.cell hS7.1 hpo, hg.cell hS7.2.1 HBO.out, hg.cell hS7.2.2.1 HBO.out, hg.cell hS7.2.2.2.1 HBO.out, hg.cell hS7.2.2.2.2.1 HBO.out, hg.cell hS7.2.2.2.2.2.1 HBO.out, hg.cell hS7.2.2.2.2.2.2 HBO.out⟩
  have C := HB.out.at_.cells5 HB7.out hg (fun g e => (H2.out.lt g e).1)
  have z2 := C.z 2
  have hgr := HB.out.at_.grow2 (m := ⟨40, [], nm, how, off, a⟩) (by rw [HNO.out]; exact H2.out) (by first | exact h2 | (rw [HNO.out]; exact h2)) H3K.out H3.out (by first | exact HD.out | (rw [← HNO.out]; exact HD.out)) HB7.out (by rw [HNO.out]; exact ho) hg hw HLO.out
  obtain ⟨na, nc, rfl⟩ := own_slice ho
  have HN := Lib.hid hgr
  have s2 := hS8.1
  refine hK.out _ _ hS8 (fun _ => ?_)
  clear hK K hgr ho hg hw C hpo m0 m1 m2 m3 m4 m5 h2 hS7
  refine wpAnyK_more [8, 9] 1 rfl (by intro _ _ d _ _ h; cases d <;> exact h) (by kernel_rfl) (by kernel_rfl) hS8 ?_
  (iterate 2 (first | (refine takes_yes (v := ?_) rfl (by rfl) ?_ ?_; rotate_left; (focus ((intro w' hS'; (try dsimp only at hS'); go_simp; try (with_reducible rfl)); done)); (try simp only [Act.put, List.setIfInBounds_toArray, List.set_cons_zero, List.set_cons_succ])) | (refine takes_no rfl (by rfl) ?_; (try simp only [Act.put, List.setIfInBounds_toArray, List.set_cons_zero, List.set_cons_succ]))))
  refine takes_nil ?_
  refine wpAnyK_last 10 (by kernel_rfl) (by kernel_rfl) rfl (fun K hK => ?_)
  go_simp
  refine hK.out _ _ ?_
  clear hK K
  refine wpAnyK_done (by kernel_rfl) ?_ _
  obtain ⟨Z, hZ⟩ : ∃ Z, ({ X24 with out := X24.out ++ [⟨40, [], nm, how, off, a⟩] } : Sc) = Z := ⟨_, rfl⟩
  rw [hZ] at HN
  have HZ := Lib.hid hZ
  have hz1 : Z.out.length + 1 ≤ 1000000 := by rw [← hZ]; simp [HI24.out.1]; omega
  have hz2 : Z.opn.length + 1 ≤ 1000000 := by rw [← hZ]; show X24.opn.length + 1 ≤ 1000000; rw [HI24.out.2]; exact hr2
  obtain ⟨w26, hw26⟩ : ∃ X, (w'.setCell ⟨p, 2, none⟩ (.slice na (no + 1) nc)) = X := ⟨_, rfl⟩
  rw [hw26] at HN
  try rw [hw26]
  have jn := HNUM.out
  clear hZ hw26 z2 s2 hS8
  go_wp2_with fail

  refine (scan_branch p s Z num w26 HN.out.1 hz1 hz2).mono ?_
  rintro e w27 ⟨rfl, hs27, hb27⟩
  have HS27 := Lib.hid hs27
  have HW27 := Lib.hid ((hw24.trans HN.out.2).trans hb27)
  clear hs27 hb27
  go_wp2
  refine bodyPost_ret (v := .tuple #[]) ?_ rfl ?_
  · simp [results, Tryz.results71, go_sem]
  rw [braceS_how HXI.out HKK.out HX1.out HNM.out HX2.out HX4.out HE.out HK.out HC.out HLL.out HX7.out, howS_br HI3.out HHW.out HKN.out hkp HX8.out HX13.out HX17.out HX18.out, HNUM.out, brS_eq HOFF.out HX24.out HZ.out]
  exact ⟨rfl, HS27.out, HW27.out⟩
end Go.Proofs.YtdelpialeajajaaGreatDoor

/- The document's reader: apostrophes. -/
namespace Go.Proofs.YtdelpialeajajaaGreatDoor
open Go Go.RowKit
set_option maxRecDepth 10000

/-- rows and what stands in them, bounded by where the reader stands -/
structure OkS (x : Sc) : Prop where
  n : x.out.length ≤ 2 * x.i
  o : x.opn.length ≤ x.out.length
  m : ∀ m ∈ x.out, m.kind < 256 ∧ m.text.length ≤ x.i

theorem say_i (x : Sc) (t : Wd) : (sayS x t).i = x.i ∧ (sayS x t).opn = x.opn ∧ (sayS x t).err = x.err ∧ (sayS x t).place = x.place := by
  unfold sayS
  split
  · exact ⟨rfl, rfl, rfl, rfl⟩
  · split
    · exact ⟨rfl, rfl, rfl, rfl⟩
    · split <;> exact ⟨rfl, rfl, rfl, rfl⟩
theorem say_len (x : Sc) (t : Wd) : (sayS x t).out.length ≤ x.out.length + 1 ∧ x.out.length ≤ (sayS x t).out.length := by
  unfold sayS
  split
  · exact ⟨by omega, by omega⟩
  · split
    · simp
    · next m hm =>
      split
      · have hne : x.out ≠ [] := fun e => by rw [e] at hm; cases hm
        have := List.length_pos_iff.2 hne
        simp
        omega
      · simp
theorem say_mem (x : Sc) (t : Wd) (i : Nat) (h : ∀ m ∈ x.out, m.kind < 256 ∧ m.text.length ≤ i) : ∀ m ∈ (sayS x t).out, m.kind < 256 ∧ m.text.length ≤ i + t.length := by
  intro m hm
  unfold sayS at hm
  split at hm
  · have := h m hm
    exact ⟨this.1, by omega⟩
  · split at hm
    · simp only [List.mem_append, List.mem_singleton] at hm
      rcases hm with hm | rfl
      · have := h m hm
        exact ⟨this.1, by omega⟩
      · exact ⟨by show 116 < 256; decide, by simp⟩
    · next k hk =>
      have hkm := List.mem_of_getLast? hk
      split at hm
      · simp only [List.mem_append, List.mem_singleton] at hm
        rcases hm with hm | rfl
        · have := h m (List.dropLast_subset _ hm)
          exact ⟨this.1, by omega⟩
        · have := h k hkm
          exact ⟨this.1, by simp; omega⟩
      · simp only [List.mem_append, List.mem_singleton] at hm
        rcases hm with hm | rfl
        · have := h m hm
          exact ⟨this.1, by omega⟩
        · exact ⟨by show 116 < 256; decide, by simp⟩

/-- what a quote says, up to its end -/
def quoteS : Nat → Wd → Sc → Sc
  | 0, _, x => x
  | n + 1, r, x =>
    let y : Sc := { sayS x (r.take (r.idxOf 39)) with i := x.i + (r.take (r.idxOf 39)).length }
    if r.idxOf 39 < r.length then
      let b := r.drop (r.idxOf 39 + 1)
      if b.head? = some 39 then quoteS n b.tail { sayS { y with i := y.i + 1 } [39] with i := y.i + 2 } else { y with i := y.i + 1 }
    else y
/-- does an apostrophe stand for itself alone -/
def loneB (r : Wd) (num : Bool) : Bool := match r with | [] => true | c :: _ => c != 39 && (c != 123 && (c != 125 && (c != 35 || !num)))
/-- apostrophes -/
def apoS (s : ByteArray) (x : Sc) (num : Bool) : Sc :=
  let r := s.data.toList.drop (x.i + 1)
  if loneB r num = true then sayS { x with i := x.i + 1 } [39]
  else if r.head? = some 39 then sayS { x with i := x.i + 2 } [39]
  else quoteS (r.length + 1) r { x with i := x.i + 1 }

section
variable {s : ByteArray} {x y z : Sc} {a j : Nat} {num : Bool} {r b : Wd}
theorem apoS_lone (ha : x.i = a) (hj : a + 1 = j) (hr : s.data.toList.drop j = r) (h : loneB r num = true) : apoS s x num = sayS { x with i := j } [39] := by
  subst ha hj hr
  exact if_pos h
theorem apoS_two {l : Nat} (ha : x.i = a) (hj : a + 1 = j) (hl : j + 1 = l) (hr : s.data.toList.drop j = r) (h : loneB r num = false) (h2 : r.head? = some 39) : apoS s x num = sayS { x with i := l } [39] := by
  subst ha hj hr hl
  exact (if_neg (by rw [h]; simp)).trans (if_pos h2)
theorem apoS_quote (ha : x.i = a) (hj : a + 1 = j) (hr : s.data.toList.drop j = r) (h : loneB r num = false) (h2 : ¬ r.head? = some 39) : apoS s x num = quoteS (r.length + 1) r { x with i := j } := by
  subst ha hj hr
  exact (if_neg (by rw [h]; simp)).trans (if_neg h2)
theorem quoteS_end {n i : Nat} (hy : sayS x (r.take (r.idxOf 39)) = y) (h : ¬ r.idxOf 39 < r.length) (hi : x.i + (r.take (r.idxOf 39)).length = i) : quoteS (n + 1) r x = { y with i := i } := by
  subst hy hi
  exact if_neg h
theorem quoteS_stop {n i l : Nat} (hy : sayS x (r.take (r.idxOf 39)) = y) (h : r.idxOf 39 < r.length) (hi : x.i + (r.take (r.idxOf 39)).length = i) (hl : i + 1 = l) (hb : r.drop (r.idxOf 39 + 1) = b) (h2 : ¬ b.head? = some 39) : quoteS (n + 1) r x = { y with i := l } := by
  subst hy hi hl hb
  exact (if_pos h).trans (if_neg h2)
theorem quoteS_more {n i l k : Nat} (hy : sayS x (r.take (r.idxOf 39)) = y) (h : r.idxOf 39 < r.length) (hi : x.i + (r.take (r.idxOf 39)).length = i) (hl : i + 1 = l) (hk : l + 1 = k) (hb : r.drop (r.idxOf 39 + 1) = b) (h2 : b.head? = some 39) (hz : sayS { y with i := l } [39] = z) :
    quoteS (n + 1) r x = quoteS n b.tail { z with i := k } := by
  subst hy hi hl hb hk hz
  exact (if_pos h).trans (if_pos h2)
end

theorem say_ok {x : Sc} {t : Wd} {i : Nat} (h : ∀ m ∈ x.out, m.kind < 256 ∧ m.text.length ≤ i) (hi : i ≤ 1000000) (ht : t.length ≤ 1000000) : (∀ m ∈ x.out, m.kind < 256) ∧ ∀ m ∈ x.out, m.text.length + t.length ≤ 1000000000 :=
  ⟨fun m hm => (h m hm).1, fun m hm => by have := (h m hm).2; omega⟩

/-- a text as the walk sees it -/
structure StrOf (R : ByteArray) (r : Wd) : Prop where
  list : R.toList = r
  size : R.size = r.length
  head : ∀ {c : UInt8} {t : Wd} (h : 0 < R.size), r = c :: t → R[0] = c
theorem str_of {R : ByteArray} {r : Wd} (h : (⟨r.toArray⟩ : ByteArray) = R) : StrOf R r := by
  subst h
  refine ⟨by rw [toListZ], rfl, ?_⟩
  intro c t h e
  subst e
  rfl
theorem StrOf.tail {R : ByteArray} {c : UInt8} {t : Wd} (h : StrOf R (c :: t)) : R.extract 1 R.size = ⟨t.toArray⟩ := by
  rw [extract_drop, ← toListZ, h.list]
  rfl

/-- what is left in a quote -/
structure QuoI (p : Nat) (s : ByteArray) (w : World) (F X : Sc) (r : Wd) (n : Nat) (wr : World) : Prop where
  at_ : ScanAt p s X wr
  below : Below p w wr
  rest : s.data.toList.drop X.i = r
  out : X.out.length + 1 ≤ 2 * X.i
  opn : X.opn.length ≤ X.out.length
  m : ∀ m ∈ X.out, m.kind < 256 ∧ m.text.length ≤ X.i
  fuel : r.length < n
  eq : quoteS n r X = F
def QuoRel (p : Nat) (s : ByteArray) (w : World) (F : Sc) (v : Value) (wr : World) : Prop := ∃ X r n, v = strv r ∧ QuoI p s w F X r n wr
def szV (v : Value) : Nat := match v with | .string s => s.size | _ => 0

set_option maxHeartbeats 8000000 in
theorem scan_apostrophe (p : Nat) (s : ByteArray) (x : Sc) (num : Bool) (w : World) (h : ScanAt p s x w) (hin : x.i < s.size) (hok : OkS x) :
    Calls Tryz.prog 70 #[.pointer (some ⟨p, 0, none⟩), .bool num] w (ScanQ p s (.tuple #[]) (apoS s x num) w) := by
  have HH := Lib.hid h
  obtain ⟨a, ha⟩ : ∃ a, x.i = a := ⟨_, rfl⟩
  have HXI := Lib.hid ha
  have HOK := Lib.hid hok
  have c0 := h.c0
  have c1 := h.c1
  have hsz := h.size
  have hin' : a < s.size := by rw [← ha]; exact hin
  rw [ha] at c1
  obtain ⟨j, hj⟩ : ∃ j, a + 1 = j := ⟨_, rfl⟩
  have q1 : (a : Int) + 1 = (j : Int) := by omega
  have q2 : IntKind.i64.wrap (j : Int) = (j : Int) := by simp [IntKind.wrap, IntKind.signed, IntKind.bits]; omega
  have hjs : j ≤ s.size := by omega
  obtain ⟨r, hr⟩ : ∃ r, s.data.toList.drop j = r := ⟨_, rfl⟩
  have hrl : r.length + j = s.size := by rw [← hr, List.length_drop, size_toList]; omega
  have hex : s.extract j s.size = ⟨r.toArray⟩ := by rw [extract_drop, hr]
  have HJ := Lib.hid hj
  have HR := Lib.hid hr
  have HEX := Lib.hid hex
  clear h ha hok hin hin' hj hr hex
  go_enter Tryz.func70, Tryz.ntmps70
  go_wp2_with fail
  have hS0 : w.drew.cell? ⟨p, 0, none⟩ = some (.string s) ∧ w.drew.cell? ⟨p, 1, none⟩ = some (.int .i64 (a : Nat)) := ⟨c0, c1⟩
  refine wp_region_takes (fun W' : World => W'.cell? ⟨p, 0, none⟩ = some (.string s) ∧ W'.cell? ⟨p, 1, none⟩ = some (.int .i64 (a : Nat))) [0, 1, 2, 3, 4, 5, 6, 7, 8, 9, 10] 0 (by intro _ _ d _ _ h; cases d <;> exact h) (by kernel_rfl) (by kernel_rfl) hS0 ?_
  (iterate 11 (first | (refine takes_yes (v := ?_) rfl (by rfl) ?_ ?_; rotate_left; (focus ((intro w' hS'; (try dsimp only at hS'); go_simp; try (with_reducible rfl)); done)); (try simp only [Act.put, List.setIfInBounds_toArray, List.set_cons_zero, List.set_cons_succ])) | (refine takes_no rfl (by rfl) ?_; (try simp only [Act.put, List.setIfInBounds_toArray, List.set_cons_zero, List.set_cons_succ]))))
  refine takes_nil ?_
  refine wpAnyH_done (by kernel_rfl) ?_ _
  rw [HEX.out]
  have hs1 := HH.out.below (Below.refl _ _).drew
  have hw1 : Below p w w.drew := (Below.refl p w).drew
  obtain ⟨w1, hW1⟩ : ∃ X, w.drew = X := ⟨_, rfl⟩
  rw [hW1] at hs1 hw1
  have HS1 := Lib.hid hs1
  have HW1 := Lib.hid hw1
  have z1 := hs1.z 1
  have c1' := hs1.c1
  rw [HXI.out] at c1'
  clear hs1 hw1 hS0 c0 c1
  rw [hW1]
  clear hW1
  go_upto_region 2 with fail
  have hb2 := HS1.out.put1 j hjs
  have hw2 := below_put HW1.out (b := p) (j := 1) (u := .int .i64 (j : Nat)) (Nat.le_refl _)
  obtain ⟨w2, hW2⟩ : ∃ X, w1.setCell ⟨p, 1, none⟩ (.int .i64 (j : Nat)) = X := ⟨_, rfl⟩
  rw [hW2] at hb2 hw2
  try rw [hW2]
  have HS2 := Lib.hid hb2
  have HW2 := Lib.hid hw2
  clear hW2 hb2 hw2 z1 c1'
  obtain ⟨R, hR⟩ : ∃ R : ByteArray, ⟨r.toArray⟩ = R := ⟨_, rfl⟩
  rw [hR]
  have HRR := Lib.hid hR
  have hRS : R.size = r.length := by rw [← hR]; rfl
  have HRS := Lib.hid hRS
  have hR0 : ∀ (h : 0 < R.size), r.head? = some R[0] := by
    subst hR
    intro h
    cases r with
    | nil => cases h
    | cons c t => rfl
  have hRE : R.toList = r := by rw [← hR, toListZ]
  have HRE := Lib.hid hRE
  have HR0 := Lib.hid hR0
  clear hR hRS hR0 hRE
  go_cut [50] (fun v wc => v = .bool (loneB r num) ∧ wc = w2)
  case first =>
    match r with
    | [] =>
      have hE : List.isEmpty R.toList = true := by rw [HRE.out]; rfl
      have hE2 : R.toList = [] := HRE.out
      go_wp2_with fail
      go_meet
      case rel => exact ⟨rfl, rfl⟩
    | c :: t =>
      have hE : List.isEmpty R.toList = false := by rw [HRE.out]; rfl
      have hE3 : (R.toList == []) = false := by rw [HRE.out]; rfl
      have h0 : 0 < R.size := by rw [HRS.out]; simp
      have hd : R[0] = c := by have := HR0.out h0; simpa using this.symm
      by_cases h39 : c = 39
      · subst h39
        have HL := Lib.hid (show loneB (39 :: t) num = false from rfl)
        go_wp2_with fail
        go_meet
        case rel => exact ⟨by rw [HL.out], rfl⟩
      have j1 : ((c.toNat : Int) == 39) = false := byte_ne h39
      have j1' : ((c.toNat : Int) != 39) = true := by rw [bne, j1]; rfl
      by_cases h123 : c = 123
      · subst h123
        have HL := Lib.hid (show loneB (123 :: t) num = false from rfl)
        go_wp2_with fail
        go_meet
        case rel => exact ⟨by rw [HL.out], rfl⟩
      have j2 : ((c.toNat : Int) == 123) = false := byte_ne h123
      have j2' : ((c.toNat : Int) != 123) = true := by rw [bne, j2]; rfl
      by_cases h125 : c = 125
      · subst h125
        have HL := Lib.hid (show loneB (125 :: t) num = false from rfl)
        go_wp2_with fail
        go_meet
        case rel => exact ⟨by rw [HL.out], rfl⟩
      have j3 : ((c.toNat : Int) == 125) = false := byte_ne h125
      have j3' : ((c.toNat : Int) != 125) = true := by rw [bne, j3]; rfl
      by_cases h35 : c = 35
      · subst h35
        cases num with
        | true =>
          have HL := Lib.hid (show loneB (35 :: t) true = false from rfl)
          go_wp2_with fail
          go_meet
          case rel => exact ⟨by rw [HL.out], rfl⟩
        | false =>
          have HL := Lib.hid (show loneB (35 :: t) false = true from rfl)
          go_wp2_with fail
          go_meet
          case rel => exact ⟨by rw [HL.out], rfl⟩
      have j4 : ((c.toNat : Int) == 35) = false := byte_ne h35
      have j4' : ((c.toNat : Int) != 35) = true := by rw [bne, j4]; rfl
      have HL := Lib.hid (show loneB (c :: t) num = true by simp [loneB, h39, h123, h125, h35])
      clear h39 h123 h125 h35
      go_wp2_with fail
      go_meet
      case rel => exact ⟨by rw [HL.out], rfl⟩
  case rest =>
    obtain ⟨rfl, rfl⟩ := hcut
    have HSK := Lib.hid (say_ok (t := [39]) HOK.out.m (by have := HXI.out; omega) (by decide))
    by_cases hl : loneB r num = true
    · rw [hl]
      have HL := Lib.hid (apoS_lone HXI.out HJ.out HR.out hl)
      clear hl
      go_wp2_with fail
      refine (scan_say p s _ [39] wc HS2.out (by show x.out.length + 1 ≤ 1000000; have := HOK.out.n; have := HXI.out; omega) HSK.out.1 HSK.out.2).mono ?_
      rintro e w3 ⟨rfl, hs3, hb3⟩
      have HS3 := Lib.hid hs3
      have HW3 := Lib.hid (HW2.out.trans hb3)
      clear hs3 hb3
      go_wp2
      refine bodyPost_ret (v := .tuple #[]) ?_ rfl ?_
      · simp [results, Tryz.results70, go_sem]
      rw [HL.out]
      exact ⟨rfl, HS3.out, HW3.out⟩
    have hl := Bool.not_eq_true _ ▸ hl
    rw [hl]
    have HLF := Lib.hid hl
    obtain ⟨c, t, hct⟩ : ∃ c t, r = c :: t := by
      cases r with
      | nil => cases hl
      | cons c t => exact ⟨c, t, rfl⟩
    have h0 : 0 < R.size := by rw [HRS.out, hct]; simp
    have hd : R[0] = c := by have := HR0.out h0; rw [hct] at this; simpa using this.symm
    have HCT := Lib.hid hct
    clear hl hct
    by_cases h39 : c = 39
    · have j1 : ((c.toNat : Int) == 39) = true := by rw [h39]; rfl
      obtain ⟨l, hl⟩ : ∃ l, j + 1 = l := ⟨_, rfl⟩
      have hls : l ≤ s.size := by have := HRS.out; rw [HCT.out] at hrl; simp at hrl; omega
      have HL := Lib.hid (apoS_two HXI.out HJ.out hl HR.out HLF.out (by rw [HCT.out, h39]; rfl))
      have q3 : (j : Int) + 1 = (l : Int) := by omega
      have HP := Lib.hid (HS2.out.put1 l hls)
      have HPW := Lib.hid (below_put HW2.out (b := p) (j := 1) (u := .int .i64 (l : Nat)) (Nat.le_refl _))
      have z1 := HS2.out.z 1
      have c1 := HS2.out.c1
      dsimp only at c1
      clear h39 hl
      go_wp2_with fail
      refine (scan_say p s _ [39] _ HP.out (by show x.out.length + 1 ≤ 1000000; have := HOK.out.n; have := HXI.out; omega) HSK.out.1 HSK.out.2).mono ?_
      rintro e w3 ⟨rfl, hs3, hb3⟩
      have HS3 := Lib.hid hs3
      have HW3 := Lib.hid (HPW.out.trans hb3)
      clear hs3 hb3
      go_wp2
      refine bodyPost_ret (v := .tuple #[]) ?_ rfl ?_
      · simp [results, Tryz.results70, go_sem]
      rw [HL.out]
      exact ⟨rfl, HS3.out, HW3.out⟩
    have j1 : ((c.toNat : Int) == 39) = false := byte_ne h39
    have HL := Lib.hid (apoS_quote HXI.out HJ.out HR.out HLF.out (by rw [HCT.out]; simpa using h39))
    obtain ⟨F, hF⟩ : ∃ F, quoteS (r.length + 1) r { x with i := j } = F := ⟨_, rfl⟩
    rw [hF] at HL
    have hst : QuoRel p s w F (.string R) wc := ⟨_, r, _, congrArg Value.string HRR.out.symm, ⟨HS2.out, HW2.out, HR.out, (by show x.out.length + 1 ≤ 2 * j; have := HOK.out.n; have := HXI.out; have := HJ.out; omega), HOK.out.o, fun m hm => by
      have := HOK.out.m m hm
      have := HXI.out
      have := HJ.out
      exact ⟨by omega, by show m.text.length ≤ j; omega⟩, Nat.lt_succ_self _, hF⟩⟩
    have HST := Lib.hid hst
    clear hst hF h39
    go_wp2_with fail
    go_loopw [4] (fun v wr => QuoRel p s w F v wr) (fun v _ => szV v)
    case atStart => exact HST.out
    case round =>
      obtain ⟨X, r', n', rfl, hq⟩ := hrel
      have hxs := hq.at_.here
      obtain ⟨k, hk⟩ : ∃ k, X.i = k := ⟨_, rfl⟩
      have HK := Lib.hid hk
      rw [hk] at hxs
      have hrl' : r'.length + k = s.size := by rw [← hq.rest, hk, List.length_drop, size_toList]; omega
      obtain ⟨n, hn⟩ : ∃ n, n' = n + 1 := ⟨n' - 1, by have := hq.fuel; omega⟩
      subst hn
      obtain ⟨m, hm⟩ : ∃ m, r'.idxOf 39 = m := ⟨_, rfl⟩
      have hml : m ≤ r'.length := hm ▸ List.idxOf_le_length
      have HCU := Lib.hid (cut_any ⟨r'.toArray⟩ 39 wr (by show r'.length ≤ 2000000000; omega))
      have hci : (⟨r'.toArray⟩ : ByteArray).data.toList.idxOf 39 = m := hm
      have hcs : (⟨r'.toArray⟩ : ByteArray).size = r'.length := rfl
      rw [hci, hcs] at HCU
      obtain ⟨A, hA⟩ : ∃ A, r'.take m = A := ⟨_, rfl⟩
      obtain ⟨B, hB⟩ : ∃ B, r'.drop (m + 1) = B := ⟨_, rfl⟩
      obtain ⟨RB, hRB⟩ : ∃ R : ByteArray, ⟨B.toArray⟩ = R := ⟨_, rfl⟩
      have HCU := Lib.hid (show Calls Tryz.prog 103 #[strv r', .int .u8 (39 : UInt8).toNat] wr fun e w' => e = .returned (.tuple #[strv A, .string RB, .bool (decide (m < r'.length))]) ∧ ∃ n, w' = wr.drewN n from hRB ▸ hA ▸ hB ▸ HCU.out)
      have HRB := Lib.hid (str_of hRB)
      clear hRB
      have hal : A.length = m := by rw [← hA, List.length_take]; omega
      have hbl : B.length = r'.length - (m + 1) := by rw [← hB, List.length_drop]
      have HQ := Lib.hid hq
      have HM := Lib.hid hm
      have HA := Lib.hid hA
      have HB := Lib.hid hB
      have HAL := Lib.hid hal
      have HBL := Lib.hid hbl
      have HSK2 := Lib.hid (say_ok (t := A) hq.m (by rw [hk]; omega) (by omega))
      have hout : X.out.length + 1 ≤ 1000000 := by have := hq.out; omega
      have HOUT := Lib.hid hout
      obtain ⟨mb, hmb⟩ : ∃ b, decide (m < r'.length) = b := ⟨_, rfl⟩
      rw [hmb] at HCU
      have HMB := Lib.hid hmb
      clear hq hk hm hci hcs hA hB hal hbl hmb hout
      go_wp2_with fail
      refine HCU.out.mono ?_
      rintro e w4 ⟨rfl, nq, rfl⟩
      have hs4 := HQ.out.at_.below (below_drewN (Below.refl _ _) nq)
      have hw4 := HQ.out.below.trans ((below_drewN (Below.refl _ _) nq).mono (Nat.le_of_lt HQ.out.at_.lt))
      obtain ⟨w4, hw⟩ : ∃ X, wr.drewN nq = X := ⟨_, rfl⟩
      rw [hw] at hs4 hw4 ⊢
      have HS4 := Lib.hid hs4
      have HW4 := Lib.hid hw4
      clear hw hs4 hw4
      go_wp2_with fail
      refine (scan_say p s X A w4 HS4.out HOUT.out HSK2.out.1 HSK2.out.2).mono ?_
      rintro e w5 ⟨rfl, hs5, hb5⟩
      obtain ⟨Y, hY⟩ : ∃ Y, sayS X A = Y := ⟨_, rfl⟩
      rw [hY] at hs5
      have HY := Lib.hid hY
      have hsi : Y.i = k := by rw [← hY, (say_i X A).1, HK.out]
      have HS5 := Lib.hid hs5
      have HW5 := Lib.hid (HW4.out.trans hb5)
      have c1 := hs5.c1
      have z1 := hs5.z 1
      rw [hsi] at c1
      obtain ⟨k1, hk1⟩ : ∃ k1, k + m = k1 := ⟨_, rfl⟩
      have q5 : (k : Int) + (m : Int) = (k1 : Int) := by omega
      have q6 : (k : Int) + (A.length : Int) = (k1 : Int) := by rw [HAL.out]; omega
      have hk1s : k1 ≤ s.size := by omega
      have q7 : IntKind.i64.wrap (k1 : Int) = (k1 : Int) := by simp [IntKind.wrap, IntKind.signed, IntKind.bits]; omega
      have HP := Lib.hid (hs5.put1 k1 hk1s)
      have HPW := Lib.hid (below_put HW5.out (b := p) (j := 1) (u := .int .i64 (k1 : Nat)) (Nat.le_refl _))
      have HK1 := Lib.hid hk1
      clear hs5 hb5 hsi hY hk1
      cases mb with
      | false =>
        have HE := Lib.hid (quoteS_end (y := Y) (n := n) (by rw [HM.out, HA.out]; exact HY.out) (by rw [HM.out]; exact of_decide_eq_false HMB.out) (i := k1) (by rw [HM.out, HA.out, HK.out, HAL.out]; exact HK1.out))
        go_wp2
        refine bodyPost_ret (v := .tuple #[]) ?_ rfl ?_
        · simp [results, Tryz.results70, go_sem]
        rw [HL.out, ← HQ.out.eq, HE.out]
        exact ⟨rfl, HP.out, HPW.out⟩
      | true =>
        have hmlt : m < r'.length := of_decide_eq_true HMB.out
        obtain ⟨k2, hk2⟩ : ∃ k2, k1 + 1 = k2 := ⟨_, rfl⟩
        have q8 : (k1 : Int) + 1 = (k2 : Int) := by omega
        have hk2s : k2 ≤ s.size := by have := HK1.out; omega
        have HP2 := Lib.hid (HP.out.put1 k2 hk2s)
        have HPW2 := Lib.hid (below_put HPW.out (b := p) (j := 1) (u := .int .i64 (k2 : Nat)) (Nat.le_refl _))
        have HK2 := Lib.hid hk2
        clear hk2
        match B with
        | [] =>
          have hE : List.isEmpty RB.toList = true := by rw [HRB.out.list]; rfl
          have hE2 : RB.toList = [] := HRB.out.list
          have HE := Lib.hid (quoteS_stop (y := Y) (n := n) (by rw [HM.out, HA.out]; exact HY.out) (by rw [HM.out]; exact hmlt) (i := k1) (by rw [HM.out, HA.out, HK.out, HAL.out]; exact HK1.out) HK2.out (b := []) (by rw [HM.out]; exact HB.out) (by simp))
          go_wp2
          refine bodyPost_ret (v := .tuple #[]) ?_ rfl ?_
          · simp [results, Tryz.results70, go_sem]
          rw [HL.out, ← HQ.out.eq, HE.out]
          exact ⟨rfl, HP2.out, HPW2.out⟩
        | d :: t' =>
          have hE : List.isEmpty RB.toList = false := by rw [HRB.out.list]; rfl
          have hE3 : (RB.toList == []) = false := by rw [HRB.out.list]; rfl
          have h0 : 0 < RB.size := by rw [HRB.out.size]; simp
          have hd : RB[0] = d := HRB.out.head h0 rfl
          by_cases hd39 : d = 39
          · have j3 : ((d.toNat : Int) == 39) = true := by rw [hd39]; rfl
            have j3' : ((d.toNat : Int) != 39) = false := by rw [bne, j3]; rfl
            have HXT := Lib.hid HRB.out.tail
            have q9 : (1 : Int) ≤ (RB.size : Int) := by omega
            have q9n : 1 ≤ RB.size := by omega
            have hYm := Lib.hid (fun mm hmm => say_mem X A k (HK.out ▸ HQ.out.m) mm (HY.out ▸ hmm))
            have hYl : Y.out.length ≤ X.out.length + 1 := HY.out ▸ (say_len X A).1
            have hYl2 : X.out.length ≤ Y.out.length := HY.out ▸ (say_len X A).2
            have hYo : Y.opn = X.opn := HY.out ▸ (say_i X A).2.1
            have hqo := HQ.out.out
            have hqp := HQ.out.opn
            rw [HK.out] at hqo
            rw [← hYo] at hqp
            have HYO := Lib.hid hYo
            have HSK3 := Lib.hid (say_ok (x := Y) (t := [39]) hYm.out (by rw [HAL.out]; omega) (by decide))
            have hYl3 : Y.out.length + 1 ≤ 1000000 := by omega
            have HD := Lib.hid hd39
            clear hd39 hYo
            go_wp2_with fail
            refine (scan_say p s { Y with i := k2 } [39] _ HP2.out hYl3 HSK3.out.1 HSK3.out.2).mono ?_
            rintro e w6 ⟨rfl, hs6, hb6⟩
            obtain ⟨Z, hZ⟩ : ∃ Z, sayS { Y with i := k2 } [39] = Z := ⟨_, rfl⟩
            rw [hZ] at hs6
            have hzi : Z.i = k2 := by rw [← hZ, (say_i _ _).1]
            have hzl : Z.out.length ≤ Y.out.length + 1 := hZ ▸ (say_len { Y with i := k2 } [39]).1
            have hzl2 : Y.out.length ≤ Z.out.length := hZ ▸ (say_len { Y with i := k2 } [39]).2
            have hzo : Z.opn = Y.opn := hZ ▸ (say_i { Y with i := k2 } [39]).2.1
            have hzm := Lib.hid (fun mm hmm => say_mem { Y with i := k2 } [39] (k + A.length) hYm.out mm (hZ ▸ hmm))
            have HZ := Lib.hid hZ
            have HZO := Lib.hid hzo
            have HS6 := Lib.hid hs6
            have HW6 := Lib.hid (HPW2.out.trans hb6)
            have c1 := hs6.c1
            have z1 := hs6.z 1
            rw [hzi] at c1
            obtain ⟨k3, hk3⟩ : ∃ k3, k2 + 1 = k3 := ⟨_, rfl⟩
            have q10 : (k2 : Int) + 1 = (k3 : Int) := by omega
            have htl : t'.length + 1 = r'.length - (m + 1) := by have := HBL.out; simpa using this
            have hk3s : k3 ≤ s.size := by have := HK1.out; have := HK2.out; omega
            have HE := Lib.hid (quoteS_more (y := Y) (n := n) (by rw [HM.out, HA.out]; exact HY.out) (by rw [HM.out]; exact hmlt) (i := k1) (by rw [HM.out, HA.out, HK.out, HAL.out]; exact HK1.out) HK2.out hk3 (b := d :: t') (by rw [HM.out]; exact HB.out) (by rw [HD.out]; rfl) HZ.out)
            have HK3 := Lib.hid hk3
            clear hs6 hb6 hZ hzo hk3
            go_wp2_with fail
            go_roundw
            case rel =>
              rw [HXT.out]
              refine ⟨{ Z with i := k3 }, t', n, rfl, ⟨HS6.out.put1 k3 hk3s, below_put HW6.out (Nat.le_refl _), ?_, ?_, ?_, ?_, ?_, ?_⟩⟩
              · show s.data.toList.drop k3 = t'
                have h1 := HQ.out.rest
                rw [HK.out] at h1
                have h2 := HB.out
                rw [← h1, List.drop_drop] at h2
                have h3 : k3 = k + (m + 1) + 1 := by have := HK1.out; have := HK2.out; have := HK3.out; omega
                rw [h3, ← List.drop_drop, h2]
                rfl
              · show Z.out.length + 1 ≤ 2 * k3
                have := HK1.out; have := HK2.out; have := HK3.out; omega
              · show Z.opn.length ≤ Z.out.length
                rw [HZO.out]
                omega
              · intro mm hmm
                have h1 := hzm.out mm hmm
                refine ⟨h1.1, ?_⟩
                show mm.text.length ≤ k3
                have h2 := h1.2
                have := HK1.out; have := HK2.out; have := HK3.out; have := HAL.out
                simp at h2
                omega
              · have := HQ.out.fuel
                omega
              · rw [← HQ.out.eq, HE.out]
                rfl
            case measure =>
              rw [HXT.out]
              show t'.length < r'.length
              omega
          · have j3 : ((d.toNat : Int) == 39) = false := byte_ne hd39
            have j3' : ((d.toNat : Int) != 39) = true := by rw [bne, j3]; rfl
            have HE := Lib.hid (quoteS_stop (y := Y) (n := n) (by rw [HM.out, HA.out]; exact HY.out) (by rw [HM.out]; exact hmlt) (i := k1) (by rw [HM.out, HA.out, HK.out, HAL.out]; exact HK1.out) HK2.out (b := d :: t') (by rw [HM.out]; exact HB.out) (by simpa using hd39))
            clear hd39
            go_wp2
            refine bodyPost_ret (v := .tuple #[]) ?_ rfl ?_
            · simp [results, Tryz.results70, go_sem]
            rw [HL.out, ← HQ.out.eq, HE.out]
            exact ⟨rfl, HP2.out, HPW2.out⟩

end Go.Proofs.YtdelpialeajajaaGreatDoor
