/- phrasesref.NumOf: the number that a text is. -/
import Derived.Test.YtpepgmccbkkaaaaGreatDoorR6
import Derived.Test.YtpepgmccbkkaaaaGreatDoorRegion
namespace Go.Proofs.YtpepgmccbkkaaaaGreatDoor
open Go Go.RowKit
set_option maxRecDepth 10000

/-- a text behind its minus -/
def absL (l : List UInt8) : List UInt8 := if l.head? = some 45 then l.tail else l
def negL (l : List UInt8) : Bool := l.head? == some 45
def wholeL (l : List UInt8) : List UInt8 := (absL l).take ((absL l).idxOf 46)
def fracL (l : List UInt8) : List UInt8 := (absL l).drop ((absL l).idxOf 46 + 1)
def pointL (l : List UInt8) : Bool := decide ((absL l).idxOf 46 < (absL l).length)
/-- digits, a point with digits or none, not too many -/
def formL (l : List UInt8) : Bool := numeralsL (wholeL l) && (!(pointL l) || numeralsL (fracL l)) && decide ((wholeL l).length + (fracL l).length ≤ 30)
def isNumL (l : List UInt8) : Bool :=
  formL l && !(decide (1 < (wholeL l).length) && ((wholeL l).headD 0 == 48)) && !(negL l && (wholeL l ++ fracL l).all (· == 48))

def NumPost (l : List UInt8) (w : World) (e : Ending) (w' : World) : Prop :=
  e = .returned (.tuple #[.agg #[.bool (negL l), strv (wholeL l), strv (fracL l)], .bool (isNumL l)]) ∧ Below w.heap.size w w'

theorem notNum {l wh fr : List UInt8} {pt : Bool} (hW : wholeL l = wh) (hF : fracL l = fr) (hP : pointL l = pt) (h : ¬ (numeralsL wh = true ∧ (pt = true → numeralsL fr = true) ∧ wh.length + fr.length ≤ 30)) : isNumL l = false := by
  have hf : formL l = false := by
    rw [← Bool.not_eq_true]
    intro hf
    unfold formL at hf
    rw [hW, hF, hP] at hf
    simp only [Bool.and_eq_true, Bool.or_eq_true, Bool.not_eq_true', decide_eq_true_eq] at hf
    refine h ⟨hf.1.1, fun hp => ?_, hf.2⟩
    rcases hf.1.2 with h1 | h1
    · rw [h1] at hp; cases hp
    · exact h1
  simp [isNumL, hf]

theorem neg_cases (s : ByteArray) : (negL s.data.toList = true ∧ (0 < s.size ∧ ∀ h : 0 < s.size, ((s[0].toNat : Int) == 45) = true) ∧ (s.extract 1 s.size).data.toList = absL s.data.toList) ∨
      (negL s.data.toList = false ∧ (0 < s.size ∧ ∀ h : 0 < s.size, ((s[0].toNat : Int) == 45) = false) ∧ s.data.toList = absL s.data.toList) ∨
      (negL s.data.toList = false ∧ ¬ (0 < s.size) ∧ s.data.toList = absL s.data.toList) := by
  by_cases h0 : 0 < s.size
  · have h1 : s.data.toList.head? = some s[0] := by
      rw [List.head?_eq_getElem?, List.getElem?_eq_getElem (by simpa using h0), getElem_toList s 0 h0]
    have h2 := toNat_beq s[0] 45
    have h3 : ((45 : UInt8).toNat : Int) = 45 := rfl
    rw [h3] at h2
    by_cases h4 : s[0] = 45
    · refine .inl ⟨by simp [negL, h1, h4], ⟨h0, fun _ => by rw [h2]; simp [h4]⟩, ?_⟩
      rw [extract_drop]
      simp [absL, h1, h4]
    · refine .inr (.inl ⟨by simp [negL, h1, h4], ⟨h0, fun _ => by rw [h2]; simp [h4]⟩, ?_⟩)
      simp [absL, h1, h4]
  · have h1 : s.data.toList = [] := List.eq_nil_of_length_eq_zero (by rw [size_toList]; omega)
    exact .inr (.inr ⟨by simp [negL, h1], h0, by simp [absL, h1]⟩)

theorem isNum_of {l wh fr : List UInt8} {b : Bool} (hW : wholeL l = wh) (hF : fracL l = fr) (hB : negL l = b) (hfo : formL l = true) :
    isNumL l = (!(decide (1 < wh.length) && (wh.headD 0 == 48)) && !(b && (wh ++ fr).all (· == 48))) := by
  simp [isNumL, hfo, hW, hF, hB]

theorem head48 (wh : List UInt8) (h : 0 < (ByteArray.mk wh.toArray).size) : (wh.headD 0 == 48) = (((ByteArray.mk wh.toArray)[0].toNat : Int) == 48) := by
  have h1 := headD_eq ⟨wh.toArray⟩ h
  rw [toList_mk] at h1
  have h2 := toNat_beq (ByteArray.mk wh.toArray)[0] 48
  have h3 : ((48 : UInt8).toNat : Int) = 48 := rfl
  rw [h3] at h2
  rw [h1, h2]
  exact Bool.beq_eq_decide_eq _ _

theorem form_of {l wh fr : List UInt8} {pt : Bool} (hW : wholeL l = wh) (hF : fracL l = fr) (hP : pointL l = pt) (h1 : numeralsL wh = true) (h2 : pt = true → numeralsL fr = true) (h3 : ¬ ((30 : Int) < (wh.length : Int) + (fr.length : Int))) : formL l = true := by
  unfold formL
  rw [hW, hF, hP, h1]
  have h4 : wh.length + fr.length ≤ 30 := by omega
  cases pt
  · simp [h4]
  · simp [h4, h2 rfl]

theorem cut_list (s : ByteArray) (l : List UInt8) (hl : s.data.toList = l) (c : UInt8) (w : World) (hs : s.size ≤ 2000000000) :
    Calls Tryz.prog 22 #[.string s, .int .u8 c.toNat] w fun e w' =>
      e = .returned (.tuple #[strv (l.take (l.idxOf c)), strv (l.drop (l.idxOf c + 1)), .bool (decide (l.idxOf c < l.length))]) ∧ ∃ n, w' = w.drewN n := by
  subst hl
  have := cut_any s c w hs
  rw [← size_toList s] at this
  exact this

theorem numerals_list (l : List UInt8) (w : World) (hs : l.length ≤ 2000000000) :
    Calls Tryz.prog 23 #[strv l] w fun e w' => e = .returned (.bool (numeralsL l)) ∧ w = w' := by
  have := numerals_any ⟨l.toArray⟩ w (by rw [size_mk]; omega)
  rw [toList_mk] at this
  exact this

theorem nought_list (s : ByteArray) (l : List UInt8) (hl : s.data.toList = l) (w : World) (hs : s.size ≤ 2000000000) :
    Calls Tryz.prog 24 #[.string s] w fun e w' => e = .returned (.bool (l.all (· == 48))) ∧ w = w' := by
  subst hl
  exact nought_any s w (by omega)

set_option maxHeartbeats 4000000 in
theorem numOf_any (s : ByteArray) (w : World) (hs : s.size ≤ 1000000) :
    Calls Tryz.prog 15 #[.string s] w (NumPost s.data.toList w) := by
  have hlen : (absL s.data.toList).length ≤ s.size := by unfold absL; split <;> simp
  have hcase : (negL s.data.toList = true ∧ (0 < s.size ∧ ∀ h : 0 < s.size, ((s[0].toNat : Int) == 45) = true) ∧ (s.extract 1 s.size).data.toList = absL s.data.toList) ∨
      (negL s.data.toList = false ∧ (0 < s.size ∧ ∀ h : 0 < s.size, ((s[0].toNat : Int) == 45) = false) ∧ s.data.toList = absL s.data.toList) ∨
      (negL s.data.toList = false ∧ ¬ (0 < s.size) ∧ s.data.toList = absL s.data.toList) := neg_cases s
  generalize hal : absL s.data.toList = al at hcase hlen
  have Hal := Lib.hid hal
  clear hal
  rcases hcase with ⟨hneg, ⟨hp, h45⟩, htl⟩ | ⟨hneg, ⟨hp, h45⟩, htl⟩ | ⟨hneg, hp, htl⟩
  all_goals
    have Hneg := Lib.hid hneg
    have Htl := Lib.hid htl
    clear hneg htl
    go_enter Tryz.func15, Tryz.ntmps15
    go_wp2_with fail
    refine (cut_list _ al Htl.out 46 _ (by first | omega | (simp; omega))).mono ?_
    rintro e w' ⟨rfl, nq, rfl⟩
    have hwl : (al.take (al.idxOf 46)).length + (al.drop (al.idxOf 46 + 1)).length ≤ s.size := by simp; omega
    have hW : wholeL s.data.toList = al.take (al.idxOf 46) := by rw [wholeL, Hal.out]
    have hF : fracL s.data.toList = al.drop (al.idxOf 46 + 1) := by rw [fracL, Hal.out]
    have hP : pointL s.data.toList = decide (al.idxOf 46 < al.length) := by rw [pointL, Hal.out]
    generalize al.take (al.idxOf 46) = wh at hW hwl ⊢
    generalize al.drop (al.idxOf 46 + 1) = fr at hF hwl ⊢
    generalize decide (al.idxOf 46 < al.length) = pt at hP ⊢
    have HW := Lib.hid hW
    have HF := Lib.hid hF
    have HP := Lib.hid hP
    clear hW hF hP
    go_wp2_with fail
    refine (numerals_list wh _ (by omega)).mono ?_
    rintro e w' ⟨rfl, rfl⟩
    go_wp2_with fail
    refine (numerals_list fr _ (by omega)).mono ?_
    rintro e w' ⟨rfl, rfl⟩
    go_wp2_with fail
    refine (nought_list _ (wh ++ fr) (by rw [append_mk, toList_mk]) _ (by rw [append_mk, size_mk]; simp; omega)).mono ?_
    rintro e w' ⟨rfl, rfl⟩
    go_wp2_with fail
    all_goals try (with_reducible refine wp_gen ?_)
    all_goals first
      | intro W hW
      | (have hnn : ¬ (numeralsL wh = true ∧ (pt = true → numeralsL fr = true) ∧ wh.length + fr.length ≤ 30) := (by first | exact (fun h => absurd h.1 (by assumption)) | exact (fun h => absurd (h.2.1 (by assumption)) (by assumption)) | (intro h; have h3 : (30 : Int) < (wh.length : Int) + (fr.length : Int) := (by assumption); omega))
         refine bodyPost_ret (v := .tuple #[.agg #[.bool (negL s.data.toList), strv wh, strv fr], .bool false]) ?_ rfl ?_
         focus (simp [results, Tryz.results15, go_sem, Hneg.out])
         refine ⟨by rw [HW.out, HF.out, notNum HW.out HF.out HP.out hnn], ?_⟩
         (repeat (first | (with_reducible exact Below.refl _ _) | (with_reducible refine below_drewN ?_ _) | (with_reducible refine Below.drew ?_) | (with_reducible refine Below.alloc ?_ ?_ _; rotate_left; focus (first | (simp; done) | (simp; omega))) | (with_reducible refine Below.setCell ?_ ?_ _; rotate_left; focus (first | (simp; done) | (simp; omega)))))
         done)
    all_goals
      have hb : Below w.heap.size w W := by rw [hW]; (repeat (first | (with_reducible exact Below.refl _ _) | (with_reducible refine below_drewN ?_ _) | (with_reducible refine Below.drew ?_) | (with_reducible refine Below.alloc ?_ ?_ _; rotate_left; focus (first | (simp; done) | (simp; omega))) | (with_reducible refine Below.setCell ?_ ?_ _; rotate_left; focus (first | (simp; done) | (simp; omega)))))
      have hsz : W.heap.size = w.heap.size + 2 := by rw [hW]; simp
      have hx0 : W.cell? ⟨w.heap.size + 1, 0, none⟩ = some (.bool (negL s.data.toList)) := by rw [hW]; go_simp; simp [Hneg.out]
      have hx1 : W.cell? ⟨w.heap.size + 1, 1, none⟩ = some (strv wh) := by rw [hW]; go_simp
      have hx2 : W.cell? ⟨w.heap.size + 1, 2, none⟩ = some (strv fr) := by rw [hW]; go_simp
      have hr0 : W.cell? ⟨w.heap.size, 0, none⟩ = some (.bool false) := by rw [hW]; go_simp
      have hr1 : W.cell? ⟨w.heap.size, 1, none⟩ = some (strv []) := by rw [hW]; go_simp
      have hr2 : W.cell? ⟨w.heap.size, 2, none⟩ = some (strv []) := by rw [hW]; go_simp
      have hf0 : W.frozen? ⟨w.heap.size, 0, none⟩ = false := by rw [hW]; go_simp
      have hf1 : W.frozen? ⟨w.heap.size, 1, none⟩ = false := by rw [hW]; go_simp
      have hf2 : W.frozen? ⟨w.heap.size, 2, none⟩ = false := by rw [hW]; go_simp
      clear hW
      clear Hal Htl
      have hn1 : numeralsL wh = true := by assumption
      have hn2 : ¬ ((30 : Int) < (wh.length : Int) + (fr.length : Int)) := by omega
      have hpos : 0 < wh.length := by
        cases wh with
        | nil => simp [numeralsL] at hn1
        | cons x l => simp
      have hsz0 : 0 < (ByteArray.mk wh.toArray).size := by rw [size_mk]; exact hpos
      have hfo : formL s.data.toList = true := form_of HW.out HF.out HP.out hn1 (by first | exact fun _ => by assumption | exact fun h => absurd h (by assumption)) hn2
      have Hfo := Lib.hid hfo
      clear hfo
      have h48 := head48 wh hsz0
      have H48 := Lib.hid h48
      clear h48
      generalize hbq : negL s.data.toList = b at Hneg hx0
      have HB := Lib.hid hbq
      have hbv := Hneg.out
      clear hbq
      have hS0 : W.drew.cell? ⟨w.heap.size + 1, 0, none⟩ = some (.bool b) ∧ W.drew.cell? ⟨w.heap.size + 1, 1, none⟩ = some (strv wh) ∧ W.drew.cell? ⟨w.heap.size + 1, 2, none⟩ = some (strv fr) := ⟨hx0, hx1, hx2⟩
      by_cases c1 : (1 : Int) < (wh.length : Int)
      · by_cases c2 : (((ByteArray.mk wh.toArray)[0].toNat : Int) == 48) = true
        · have hfin : isNumL s.data.toList = false := by
            rw [isNum_of HW.out HF.out HB.out Hfo.out, H48.out, c2]; simp; omega
          have Hfin := Lib.hid hfin
          clear hfin
          refine wp_region_takes (fun W' : World => W'.cell? ⟨w.heap.size + 1, 0, none⟩ = some (.bool b) ∧ W'.cell? ⟨w.heap.size + 1, 1, none⟩ = some (strv wh) ∧ W'.cell? ⟨w.heap.size + 1, 2, none⟩ = some (strv fr))
            [0, 1, 2, 3, 4, 5, 6, 7, 8, 9, 10, 11, 12, 13, 14, 15, 16, 17] 2 (by intro _ _ d _ _ h; cases d <;> exact h) (by kernel_rfl) (by kernel_rfl) hS0 ?_
          (iterate 18 (first | (refine takes_yes (v := ?_) rfl (by rfl) ?_ ?_; rotate_left; (focus ((intro w' hS'; (try dsimp only at hS'); go_simp; try (with_reducible rfl)); done)); (try simp only [Act.put, List.setIfInBounds_toArray, List.set_cons_zero, List.set_cons_succ])) | (refine takes_no rfl (by rfl) ?_; (try simp only [Act.put, List.setIfInBounds_toArray, List.set_cons_zero, List.set_cons_succ]))))
          refine takes_nil ?_
          refine wpAnyH_only 18 (by kernel_rfl) rfl (fun K hK => ?_)
          go_simp
          refine hK.out _ _ ?_ (fun _ => ?_)
          · simp [*, World.cell?_setCell_far]
          clear hK K
          refine wpAnyH_only 19 (by kernel_rfl) rfl (fun K hK => ?_)
          go_simp
          refine hK.out _ _ ?_ (fun _ => ?_)
          · simp [*, World.cell?_setCell_far]
          clear hK K
          refine wpAnyH_done (by kernel_rfl) ?_ _
          go_wp2
          refine bodyPost_ret (v := .tuple #[.agg #[.bool b, strv wh, strv fr], .bool false]) ?_ rfl ?_
          · simp [results, Tryz.results15, go_sem, *]
          · refine ⟨by rw [HW.out, HF.out, HB.out, Hfin.out], ?_⟩
            refine hb.trans ?_
            (repeat (first | (with_reducible exact Below.refl _ _) | (with_reducible refine below_drewN ?_ _) | (with_reducible refine Below.drew ?_) | (with_reducible refine Below.alloc ?_ ?_ _; rotate_left; focus (first | (simp; done) | (simp; omega))) | (with_reducible refine Below.setCell ?_ ?_ _; rotate_left; focus (first | (simp; done) | (simp; omega)))))
        · have c2' : (((ByteArray.mk wh.toArray)[0].toNat : Int) == 48) = false := by simpa using c2
          have hfin : isNumL s.data.toList = !(b && (wh ++ fr).all (· == 48)) := by
            rw [isNum_of HW.out HF.out HB.out Hfo.out, H48.out, c2']; simp
          have Hfin := Lib.hid hfin
          clear hfin c2
          refine wp_region_takes (fun W' : World => W'.cell? ⟨w.heap.size + 1, 0, none⟩ = some (.bool b) ∧ W'.cell? ⟨w.heap.size + 1, 1, none⟩ = some (strv wh) ∧ W'.cell? ⟨w.heap.size + 1, 2, none⟩ = some (strv fr))
            [0, 1, 2, 3, 4, 5, 6, 7, 8, 9, 10, 11, 12, 13, 14, 15, 16, 17] 2 (by intro _ _ d _ _ h; cases d <;> exact h) (by kernel_rfl) (by kernel_rfl) hS0 ?_
          (iterate 18 (first | (refine takes_yes (v := ?_) rfl (by rfl) ?_ ?_; rotate_left; (focus ((intro w' hS'; (try dsimp only at hS'); go_simp; try (with_reducible rfl)); done)); (try simp only [Act.put, List.setIfInBounds_toArray, List.set_cons_zero, List.set_cons_succ])) | (refine takes_no rfl (by rfl) ?_; (try simp only [Act.put, List.setIfInBounds_toArray, List.set_cons_zero, List.set_cons_succ]))))
          refine takes_nil ?_
          refine wpAnyH_only 18 (by kernel_rfl) rfl (fun K hK => ?_)
          go_simp
          refine hK.out _ _ ?_ (fun _ => ?_)
          · simp [*, World.cell?_setCell_far]
          clear hK K
          refine wpAnyH_only 19 (by kernel_rfl) rfl (fun K hK => ?_)
          go_simp
          refine hK.out _ _ ?_ (fun _ => ?_)
          · simp [*, World.cell?_setCell_far]
          clear hK K
          refine wpAnyH_done (by kernel_rfl) ?_ _
          go_wp2
          refine bodyPost_ret (v := .tuple #[.agg #[.bool b, strv wh, strv fr], .bool (!(b && (wh ++ fr).all (· == 48)))]) ?_ rfl ?_
          · simp [results, Tryz.results15, go_sem, *]
          · refine ⟨by rw [HW.out, HF.out, HB.out, Hfin.out], ?_⟩
            refine hb.trans ?_
            (repeat (first | (with_reducible exact Below.refl _ _) | (with_reducible refine below_drewN ?_ _) | (with_reducible refine Below.drew ?_) | (with_reducible refine Below.alloc ?_ ?_ _; rotate_left; focus (first | (simp; done) | (simp; omega))) | (with_reducible refine Below.setCell ?_ ?_ _; rotate_left; focus (first | (simp; done) | (simp; omega)))))
      · have hfin : isNumL s.data.toList = !(b && (wh ++ fr).all (· == 48)) := by
          rw [isNum_of HW.out HF.out HB.out Hfo.out, decide_eq_false (by omega)]; simp
        have Hfin := Lib.hid hfin
        clear hfin
        refine wp_region_takes (fun W' : World => W'.cell? ⟨w.heap.size + 1, 0, none⟩ = some (.bool b) ∧ W'.cell? ⟨w.heap.size + 1, 1, none⟩ = some (strv wh) ∧ W'.cell? ⟨w.heap.size + 1, 2, none⟩ = some (strv fr))
          [0, 1, 2, 3, 4, 5, 6, 7, 8, 9, 10, 11, 12, 13, 14, 15, 16, 17] 2 (by intro _ _ d _ _ h; cases d <;> exact h) (by kernel_rfl) (by kernel_rfl) hS0 ?_
        (iterate 18 (first | (refine takes_yes (v := ?_) rfl (by rfl) ?_ ?_; rotate_left; (focus ((intro w' hS'; (try dsimp only at hS'); go_simp; try (with_reducible rfl)); done)); (try simp only [Act.put, List.setIfInBounds_toArray, List.set_cons_zero, List.set_cons_succ])) | (refine takes_no rfl (by rfl) ?_; (try simp only [Act.put, List.setIfInBounds_toArray, List.set_cons_zero, List.set_cons_succ]))))
        refine takes_nil ?_
        refine wpAnyH_only 18 (by kernel_rfl) rfl (fun K hK => ?_)
        go_simp
        refine hK.out _ _ ?_ (fun _ => ?_)
        · simp [*, World.cell?_setCell_far]
        clear hK K
        refine wpAnyH_only 19 (by kernel_rfl) rfl (fun K hK => ?_)
        go_simp
        refine hK.out _ _ ?_ (fun _ => ?_)
        · simp [*, World.cell?_setCell_far]
        clear hK K
        refine wpAnyH_done (by kernel_rfl) ?_ _
        go_wp2
        refine bodyPost_ret (v := .tuple #[.agg #[.bool b, strv wh, strv fr], .bool (!(b && (wh ++ fr).all (· == 48)))]) ?_ rfl ?_
        · simp [results, Tryz.results15, go_sem, *]
        · refine ⟨by rw [HW.out, HF.out, HB.out, Hfin.out], ?_⟩
          refine hb.trans ?_
          (repeat (first | (with_reducible exact Below.refl _ _) | (with_reducible refine below_drewN ?_ _) | (with_reducible refine Below.drew ?_) | (with_reducible refine Below.alloc ?_ ?_ _; rotate_left; focus (first | (simp; done) | (simp; omega))) | (with_reducible refine Below.setCell ?_ ?_ _; rotate_left; focus (first | (simp; done) | (simp; omega)))))
end Go.Proofs.YtpepgmccbkkaaaaGreatDoor
