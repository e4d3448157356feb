import Derived.Test.YtkhdbolnhcfgkaaGreatDoorJ3
import Derived.Test.YtkhdbolnhcfgkaaGreatDoorShelf

/- strings.Cut at one byte. -/
namespace Go.Proofs.YtkhdbolnhcfgkaaGreatDoor
open Go Go.RowKit
set_option maxRecDepth 10000

theorem indexByte_eq (c : UInt8) : ∀ l : List UInt8, Lib.indexByte l c = if l.idxOf c < l.length then ((l.idxOf c : Nat) : Int) else -1
  | [] => rfl
  | b :: l => by
    have ih := indexByte_eq c l
    rw [Lib.indexByte, ih, List.idxOf_cons]
    by_cases h : b == c
    · simp [h]
    · simp only [h, cond_false, List.length_cons]
      by_cases h2 : l.idxOf c < l.length
      · rw [if_pos h2, if_pos (show l.idxOf c + 1 < l.length + 1 by omega)]
        have h3 : (((l.idxOf c : Nat) : Int) == -1) = false := by rw [beq_eq_false_iff_ne]; omega
        rw [h3]
        simp
      · rw [if_neg h2, if_neg (show ¬ (l.idxOf c + 1 < l.length + 1) by omega)]
        simp

set_option maxHeartbeats 800000 in
theorem liteCut_any (s : ByteArray) (c : UInt8) (w : World) (hs : s.size ≤ 1000000) :
    Calls Tryz.prog 61 #[.string s, .string ⟨#[c]⟩] w fun e w' =>
      e = .returned (.tuple #[.string ⟨(s.data.toList.take (s.data.toList.idxOf c)).toArray⟩, .string ⟨(s.data.toList.drop (s.data.toList.idxOf c + 1)).toArray⟩, .bool (decide (s.data.toList.idxOf c < s.size))]) ∧ ∃ n, w' = w.drewN n := by
  have hx := indexByte_eq c s.data.toList
  rw [size_toList] at hx
  have HX := Lib.hid hx
  clear hx
  go_enter Tryz.func61, Tryz.ntmps61
  go_wp2_with fail
  refine (Tryz.stringslite_Index_one s c _).mono ?_
  rw [HX.out]
  rintro e w' ⟨rfl, rfl⟩
  by_cases hlt : s.data.toList.idxOf c < s.size
  · rw [if_pos hlt]
    generalize hk : s.data.toList.idxOf c = k at hlt
    have HK := Lib.hid hk
    clear hk
    have hr : (k + 1 : Nat) ≤ s.size := hlt
    go_wp2_with fail
    go_quiet (fail)
    go_wp2
    go_ret3
    rw [extract_take, extract_drop, HK.out]
    exact ⟨by simp [hlt], nq, rfl⟩
  · rw [if_neg hlt]
    have hi : s.data.toList.idxOf c = s.size := by have := List.idxOf_le_length (a := c) (l := s.data.toList); simp only [size_toList] at this; omega
    have Hi := Lib.hid hi
    clear hi hlt
    go_wp2
    go_ret3
    rw [Hi.out, take_all, mk_toList, List.drop_of_length_le (by simp)]
    exact ⟨by simp, 0, rfl⟩
end Go.Proofs.YtkhdbolnhcfgkaaGreatDoor

/- phrasesref.NumOf: the number that a text is. -/
namespace Go.Proofs.YtkhdbolnhcfgkaaGreatDoor
open Go Go.RowKit
set_option maxRecDepth 10000

/-- a text behind its minus -/
def absL (l : List UInt8) : List UInt8 := if l.head? = some 45 then l.tail else l
def negL (l : List UInt8) : Bool := l.head? == some 45
def wholeL (l : List UInt8) : List UInt8 := (absL l).take ((absL l).idxOf 46)
def fracL (l : List UInt8) : List UInt8 := (absL l).drop ((absL l).idxOf 46 + 1)
def pointL (l : List UInt8) : Bool := decide ((absL l).idxOf 46 < (absL l).length)
/-- digits, a point with digits or none, not too many -/
def formL (l : List UInt8) : Bool := numeralsL (wholeL l) && (!(pointL l) || numeralsL (fracL l)) && decide ((wholeL l).length + (fracL l).length ≤ 30)
def isNumL (l : List UInt8) : Bool :=
  formL l && !(decide (1 < (wholeL l).length) && ((wholeL l).headD 0 == 48)) && !(negL l && (wholeL l ++ fracL l).all (· == 48))

def NumPost (l : List UInt8) (w : World) (e : Ending) (w' : World) : Prop :=
  e = .returned (.tuple #[.agg #[.bool (negL l), strv (wholeL l), strv (fracL l)], .bool (isNumL l)]) ∧ Below w.heap.size w w'

theorem notNum {l wh fr : List UInt8} {pt : Bool} (hW : wholeL l = wh) (hF : fracL l = fr) (hP : pointL l = pt) (h : ¬ (numeralsL wh = true ∧ (pt = true → numeralsL fr = true) ∧ wh.length + fr.length ≤ 30)) : isNumL l = false := by
  have hf : formL l = false := by
    rw [← Bool.not_eq_true]
    intro hf
    unfold formL at hf
    rw [hW, hF, hP] at hf
    simp only [Bool.and_eq_true, Bool.or_eq_true, Bool.not_eq_true', decide_eq_true_eq] at hf
    refine h ⟨hf.1.1, fun hp => ?_, hf.2⟩
    rcases hf.1.2 with h1 | h1
    · rw [h1] at hp; cases hp
    · exact h1
  simp [isNumL, hf]

theorem neg_cases (s : ByteArray) : (negL s.data.toList = true ∧ (0 < s.size ∧ ∀ h : 0 < s.size, ((s[0].toNat : Int) == 45) = true) ∧ (s.extract 1 s.size).data.toList = absL s.data.toList) ∨
      (negL s.data.toList = false ∧ (0 < s.size ∧ ∀ h : 0 < s.size, ((s[0].toNat : Int) == 45) = false) ∧ s.data.toList = absL s.data.toList) ∨
      (negL s.data.toList = false ∧ ¬ (0 < s.size) ∧ s.data.toList = absL s.data.toList) := by
  by_cases h0 : 0 < s.size
  · have h1 : s.data.toList.head? = some s[0] := by
      rw [List.head?_eq_getElem?, List.getElem?_eq_getElem (by simpa using h0), getElem_toList s 0 h0]
    have h2 := toNat_beq s[0] 45
    have h3 : ((45 : UInt8).toNat : Int) = 45 := rfl
    rw [h3] at h2
    by_cases h4 : s[0] = 45
    · refine .inl ⟨by simp [negL, h1, h4], ⟨h0, fun _ => by rw [h2]; simp [h4]⟩, ?_⟩
      rw [extract_drop]
      simp [absL, h1, h4]
    · refine .inr (.inl ⟨by simp [negL, h1, h4], ⟨h0, fun _ => by rw [h2]; simp [h4]⟩, ?_⟩)
      simp [absL, h1, h4]
  · have h1 : s.data.toList = [] := List.eq_nil_of_length_eq_zero (by rw [size_toList]; omega)
    exact .inr (.inr ⟨by simp [negL, h1], h0, by simp [absL, h1]⟩)

theorem isNum_of {l wh fr : List UInt8} {b : Bool} (hW : wholeL l = wh) (hF : fracL l = fr) (hB : negL l = b) (hfo : formL l = true) :
    isNumL l = (!(decide (1 < wh.length) && (wh.headD 0 == 48)) && !(b && (wh ++ fr).all (· == 48))) := by
  simp [isNumL, hfo, hW, hF, hB]

theorem head48 (wh : List UInt8) (h : 0 < (ByteArray.mk wh.toArray).size) : (wh.headD 0 == 48) = (((ByteArray.mk wh.toArray)[0].toNat : Int) == 48) := by
  have h1 := headD_eq ⟨wh.toArray⟩ h
  rw [toList_mk] at h1
  have h2 := toNat_beq (ByteArray.mk wh.toArray)[0] 48
  have h3 : ((48 : UInt8).toNat : Int) = 48 := rfl
  rw [h3] at h2
  rw [h1, h2]
  exact Bool.beq_eq_decide_eq _ _

theorem form_of {l wh fr : List UInt8} {pt : Bool} (hW : wholeL l = wh) (hF : fracL l = fr) (hP : pointL l = pt) (h1 : numeralsL wh = true) (h2 : pt = true → numeralsL fr = true) (h3 : ¬ ((30 : Int) < (wh.length : Int) + (fr.length : Int))) : formL l = true := by
  unfold formL
  rw [hW, hF, hP, h1]
  have h4 : wh.length + fr.length ≤ 30 := by omega
  cases pt
  · simp [h4]
  · simp [h4, h2 rfl]

theorem cut_list (s : ByteArray) (l : List UInt8) (hl : s.data.toList = l) (c : UInt8) (w : World) (hs : s.size ≤ 2000000000) :
    Calls Tryz.prog 23 #[.string s, .int .u8 c.toNat] w fun e w' =>
      e = .returned (.tuple #[strv (l.take (l.idxOf c)), strv (l.drop (l.idxOf c + 1)), .bool (decide (l.idxOf c < l.length))]) ∧ ∃ n, w' = w.drewN n := by
  subst hl
  have := cut_any s c w hs
  rw [← size_toList s] at this
  exact this

theorem numerals_list (l : List UInt8) (w : World) (hs : l.length ≤ 2000000000) :
    Calls Tryz.prog 24 #[strv l] w fun e w' => e = .returned (.bool (numeralsL l)) ∧ w = w' := by
  have := numerals_any ⟨l.toArray⟩ w (by rw [size_mk]; omega)
  rw [toList_mk] at this
  exact this

theorem nought_list (s : ByteArray) (l : List UInt8) (hl : s.data.toList = l) (w : World) (hs : s.size ≤ 2000000000) :
    Calls Tryz.prog 25 #[.string s] w fun e w' => e = .returned (.bool (l.all (· == 48))) ∧ w = w' := by
  subst hl
  exact nought_any s w (by omega)

set_option maxHeartbeats 4000000 in
theorem numOf_any (s : ByteArray) (w : World) (hs : s.size ≤ 1000000) :
    Calls Tryz.prog 13 #[.string s] w (NumPost s.data.toList w) := by
  have hlen : (absL s.data.toList).length ≤ s.size := by unfold absL; split <;> simp
  have hcase : (negL s.data.toList = true ∧ (0 < s.size ∧ ∀ h : 0 < s.size, ((s[0].toNat : Int) == 45) = true) ∧ (s.extract 1 s.size).data.toList = absL s.data.toList) ∨
      (negL s.data.toList = false ∧ (0 < s.size ∧ ∀ h : 0 < s.size, ((s[0].toNat : Int) == 45) = false) ∧ s.data.toList = absL s.data.toList) ∨
      (negL s.data.toList = false ∧ ¬ (0 < s.size) ∧ s.data.toList = absL s.data.toList) := neg_cases s
  generalize hal : absL s.data.toList = al at hcase hlen
  have Hal := Lib.hid hal
  clear hal
  rcases hcase with ⟨hneg, ⟨hp, h45⟩, htl⟩ | ⟨hneg, ⟨hp, h45⟩, htl⟩ | ⟨hneg, hp, htl⟩
  all_goals
    have Hneg := Lib.hid hneg
    have Htl := Lib.hid htl
    clear hneg htl
    go_enter Tryz.func13, Tryz.ntmps13
    go_wp2_with fail
    refine (cut_list _ al Htl.out 46 _ (by first | omega | (simp; omega))).mono ?_
    rintro e w' ⟨rfl, nq, rfl⟩
    have hwl : (al.take (al.idxOf 46)).length + (al.drop (al.idxOf 46 + 1)).length ≤ s.size := by simp; omega
    have hW : wholeL s.data.toList = al.take (al.idxOf 46) := by rw [wholeL, Hal.out]
    have hF : fracL s.data.toList = al.drop (al.idxOf 46 + 1) := by rw [fracL, Hal.out]
    have hP : pointL s.data.toList = decide (al.idxOf 46 < al.length) := by rw [pointL, Hal.out]
    generalize al.take (al.idxOf 46) = wh at hW hwl ⊢
    generalize al.drop (al.idxOf 46 + 1) = fr at hF hwl ⊢
    generalize decide (al.idxOf 46 < al.length) = pt at hP ⊢
    have HW := Lib.hid hW
    have HF := Lib.hid hF
    have HP := Lib.hid hP
    clear hW hF hP
    go_wp2_with fail
    refine (numerals_list wh _ (by omega)).mono ?_
    rintro e w' ⟨rfl, rfl⟩
    go_wp2_with fail
    refine (numerals_list fr _ (by omega)).mono ?_
    rintro e w' ⟨rfl, rfl⟩
    go_wp2_with fail
    refine (nought_list _ (wh ++ fr) (by rw [append_mk, toList_mk]) _ (by rw [append_mk, size_mk]; simp; omega)).mono ?_
    rintro e w' ⟨rfl, rfl⟩
    go_wp2_with fail
    all_goals try (with_reducible refine wp_gen ?_)
    all_goals first
      | intro W hW
      | (have hnn : ¬ (numeralsL wh = true ∧ (pt = true → numeralsL fr = true) ∧ wh.length + fr.length ≤ 30) := (by first | exact (fun h => absurd h.1 (by assumption)) | exact (fun h => absurd (h.2.1 (by assumption)) (by assumption)) | (intro h; have h3 : (30 : Int) < (wh.length : Int) + (fr.length : Int) := (by assumption); omega))
         refine bodyPost_ret (v := .tuple #[.agg #[.bool (negL s.data.toList), strv wh, strv fr], .bool false]) ?_ rfl ?_
         focus (simp [results, Tryz.results13, go_sem, Hneg.out])
         refine ⟨by rw [HW.out, HF.out, notNum HW.out HF.out HP.out hnn], ?_⟩
         (repeat (first | (with_reducible exact Below.refl _ _) | (with_reducible refine below_drewN ?_ _) | (with_reducible refine Below.drew ?_) | (with_reducible refine Below.alloc ?_ ?_ _; rotate_left; focus (first | (simp; done) | (simp; omega))) | (with_reducible refine Below.setCell ?_ ?_ _; rotate_left; focus (first | (simp; done) | (simp; omega)))))
         done)
    all_goals
      have hb : Below w.heap.size w W := by rw [hW]; (repeat (first | (with_reducible exact Below.refl _ _) | (with_reducible refine below_drewN ?_ _) | (with_reducible refine Below.drew ?_) | (with_reducible refine Below.alloc ?_ ?_ _; rotate_left; focus (first | (simp; done) | (simp; omega))) | (with_reducible refine Below.setCell ?_ ?_ _; rotate_left; focus (first | (simp; done) | (simp; omega)))))
      have hsz : W.heap.size = w.heap.size + 2 := by rw [hW]; simp
      have hx0 : W.cell? ⟨w.heap.size + 1, 0, none⟩ = some (.bool (negL s.data.toList)) := by rw [hW]; go_simp; simp [Hneg.out]
      have hx1 : W.cell? ⟨w.heap.size + 1, 1, none⟩ = some (strv wh) := by rw [hW]; go_simp
      have hx2 : W.cell? ⟨w.heap.size + 1, 2, none⟩ = some (strv fr) := by rw [hW]; go_simp
      have hr0 : W.cell? ⟨w.heap.size, 0, none⟩ = some (.bool false) := by rw [hW]; go_simp
      have hr1 : W.cell? ⟨w.heap.size, 1, none⟩ = some (strv []) := by rw [hW]; go_simp
      have hr2 : W.cell? ⟨w.heap.size, 2, none⟩ = some (strv []) := by rw [hW]; go_simp
      have hf0 : W.frozen? ⟨w.heap.size, 0, none⟩ = false := by rw [hW]; go_simp
      have hf1 : W.frozen? ⟨w.heap.size, 1, none⟩ = false := by rw [hW]; go_simp
      have hf2 : W.frozen? ⟨w.heap.size, 2, none⟩ = false := by rw [hW]; go_simp
      clear hW
      clear Hal Htl
      have hn1 : numeralsL wh = true := by assumption
      have hn2 : ¬ ((30 : Int) < (wh.length : Int) + (fr.length : Int)) := by omega
      have hpos : 0 < wh.length := by
        cases wh with
        | nil => simp [numeralsL] at hn1
        | cons x l => simp
      have hsz0 : 0 < (ByteArray.mk wh.toArray).size := by rw [size_mk]; exact hpos
      have hfo : formL s.data.toList = true := form_of HW.out HF.out HP.out hn1 (by first | exact fun _ => by assumption | exact fun h => absurd h (by assumption)) hn2
      have Hfo := Lib.hid hfo
      clear hfo
      have h48 := head48 wh hsz0
      have H48 := Lib.hid h48
      clear h48
      generalize hbq : negL s.data.toList = b at Hneg hx0
      have HB := Lib.hid hbq
      have hbv := Hneg.out
      clear hbq
      have hS0 : W.drew.cell? ⟨w.heap.size + 1, 0, none⟩ = some (.bool b) ∧ W.drew.cell? ⟨w.heap.size + 1, 1, none⟩ = some (strv wh) ∧ W.drew.cell? ⟨w.heap.size + 1, 2, none⟩ = some (strv fr) := ⟨hx0, hx1, hx2⟩
      by_cases c1 : (1 : Int) < (wh.length : Int)
      · by_cases c2 : (((ByteArray.mk wh.toArray)[0].toNat : Int) == 48) = true
        · have hfin : isNumL s.data.toList = false := by
            rw [isNum_of HW.out HF.out HB.out Hfo.out, H48.out, c2]; simp; omega
          have Hfin := Lib.hid hfin
          clear hfin
          refine wp_region_takes (fun W' : World => W'.cell? ⟨w.heap.size + 1, 0, none⟩ = some (.bool b) ∧ W'.cell? ⟨w.heap.size + 1, 1, none⟩ = some (strv wh) ∧ W'.cell? ⟨w.heap.size + 1, 2, none⟩ = some (strv fr))
            [0, 1, 2, 3, 4, 5, 6, 7, 8, 9, 10, 11, 12, 13, 14, 15, 16, 17] 2 (by intro _ _ d _ _ h; cases d <;> exact h) (by kernel_rfl) (by kernel_rfl) hS0 ?_
          (iterate 18 (first | (refine takes_yes (v := ?_) rfl (by rfl) ?_ ?_; rotate_left; (focus ((intro w' hS'; (try dsimp only at hS'); go_simp; try (with_reducible rfl)); done)); (try simp only [Act.put, List.setIfInBounds_toArray, List.set_cons_zero, List.set_cons_succ])) | (refine takes_no rfl (by rfl) ?_; (try simp only [Act.put, List.setIfInBounds_toArray, List.set_cons_zero, List.set_cons_succ]))))
          refine takes_nil ?_
          refine wpAnyH_only 18 (by kernel_rfl) rfl (fun K hK => ?_)
          go_simp
          refine hK.out _ _ ?_ (fun _ => ?_)
          · simp [*, World.cell?_setCell_far]
          clear hK K
          refine wpAnyH_only 19 (by kernel_rfl) rfl (fun K hK => ?_)
          go_simp
          refine hK.out _ _ ?_ (fun _ => ?_)
          · simp [*, World.cell?_setCell_far]
          clear hK K
          refine wpAnyH_done (by kernel_rfl) ?_ _
          go_wp2
          refine bodyPost_ret (v := .tuple #[.agg #[.bool b, strv wh, strv fr], .bool false]) ?_ rfl ?_
          · simp [results, Tryz.results13, go_sem, *]
          · refine ⟨by rw [HW.out, HF.out, HB.out, Hfin.out], ?_⟩
            refine hb.trans ?_
            (repeat (first | (with_reducible exact Below.refl _ _) | (with_reducible refine below_drewN ?_ _) | (with_reducible refine Below.drew ?_) | (with_reducible refine Below.alloc ?_ ?_ _; rotate_left; focus (first | (simp; done) | (simp; omega))) | (with_reducible refine Below.setCell ?_ ?_ _; rotate_left; focus (first | (simp; done) | (simp; omega)))))
        · have c2' : (((ByteArray.mk wh.toArray)[0].toNat : Int) == 48) = false := by simpa using c2
          have hfin : isNumL s.data.toList = !(b && (wh ++ fr).all (· == 48)) := by
            rw [isNum_of HW.out HF.out HB.out Hfo.out, H48.out, c2']; simp
          have Hfin := Lib.hid hfin
          clear hfin c2
          refine wp_region_takes (fun W' : World => W'.cell? ⟨w.heap.size + 1, 0, none⟩ = some (.bool b) ∧ W'.cell? ⟨w.heap.size + 1, 1, none⟩ = some (strv wh) ∧ W'.cell? ⟨w.heap.size + 1, 2, none⟩ = some (strv fr))
            [0, 1, 2, 3, 4, 5, 6, 7, 8, 9, 10, 11, 12, 13, 14, 15, 16, 17] 2 (by intro _ _ d _ _ h; cases d <;> exact h) (by kernel_rfl) (by kernel_rfl) hS0 ?_
          (iterate 18 (first | (refine takes_yes (v := ?_) rfl (by rfl) ?_ ?_; rotate_left; (focus ((intro w' hS'; (try dsimp only at hS'); go_simp; try (with_reducible rfl)); done)); (try simp only [Act.put, List.setIfInBounds_toArray, List.set_cons_zero, List.set_cons_succ])) | (refine takes_no rfl (by rfl) ?_; (try simp only [Act.put, List.setIfInBounds_toArray, List.set_cons_zero, List.set_cons_succ]))))
          refine takes_nil ?_
          refine wpAnyH_only 18 (by kernel_rfl) rfl (fun K hK => ?_)
          go_simp
          refine hK.out _ _ ?_ (fun _ => ?_)
          · simp [*, World.cell?_setCell_far]
          clear hK K
          refine wpAnyH_only 19 (by kernel_rfl) rfl (fun K hK => ?_)
          go_simp
          refine hK.out _ _ ?_ (fun _ => ?_)
          · simp [*, World.cell?_setCell_far]
          clear hK K
          refine wpAnyH_done (by kernel_rfl) ?_ _
          go_wp2
          refine bodyPost_ret (v := .tuple #[.agg #[.bool b, strv wh, strv fr], .bool (!(b && (wh ++ fr).all (· == 48)))]) ?_ rfl ?_
          · simp [results, Tryz.results13, go_sem, *]
          · refine ⟨by rw [HW.out, HF.out, HB.out, Hfin.out], ?_⟩
            refine hb.trans ?_
            (repeat (first | (with_reducible exact Below.refl _ _) | (with_reducible refine below_drewN ?_ _) | (with_reducible refine Below.drew ?_) | (with_reducible refine Below.alloc ?_ ?_ _; rotate_left; focus (first | (simp; done) | (simp; omega))) | (with_reducible refine Below.setCell ?_ ?_ _; rotate_left; focus (first | (simp; done) | (simp; omega)))))
      · have hfin : isNumL s.data.toList = !(b && (wh ++ fr).all (· == 48)) := by
          rw [isNum_of HW.out HF.out HB.out Hfo.out, decide_eq_false (by omega)]; simp
        have Hfin := Lib.hid hfin
        clear hfin
        refine wp_region_takes (fun W' : World => W'.cell? ⟨w.heap.size + 1, 0, none⟩ = some (.bool b) ∧ W'.cell? ⟨w.heap.size + 1, 1, none⟩ = some (strv wh) ∧ W'.cell? ⟨w.heap.size + 1, 2, none⟩ = some (strv fr))
          [0, 1, 2, 3, 4, 5, 6, 7, 8, 9, 10, 11, 12, 13, 14, 15, 16, 17] 2 (by intro _ _ d _ _ h; cases d <;> exact h) (by kernel_rfl) (by kernel_rfl) hS0 ?_
        (iterate 18 (first | (refine takes_yes (v := ?_) rfl (by rfl) ?_ ?_; rotate_left; (focus ((intro w' hS'; (try dsimp only at hS'); go_simp; try (with_reducible rfl)); done)); (try simp only [Act.put, List.setIfInBounds_toArray, List.set_cons_zero, List.set_cons_succ])) | (refine takes_no rfl (by rfl) ?_; (try simp only [Act.put, List.setIfInBounds_toArray, List.set_cons_zero, List.set_cons_succ]))))
        refine takes_nil ?_
        refine wpAnyH_only 18 (by kernel_rfl) rfl (fun K hK => ?_)
        go_simp
        refine hK.out _ _ ?_ (fun _ => ?_)
        · simp [*, World.cell?_setCell_far]
        clear hK K
        refine wpAnyH_only 19 (by kernel_rfl) rfl (fun K hK => ?_)
        go_simp
        refine hK.out _ _ ?_ (fun _ => ?_)
        · simp [*, World.cell?_setCell_far]
        clear hK K
        refine wpAnyH_done (by kernel_rfl) ?_ _
        go_wp2
        refine bodyPost_ret (v := .tuple #[.agg #[.bool b, strv wh, strv fr], .bool (!(b && (wh ++ fr).all (· == 48)))]) ?_ rfl ?_
        · simp [results, Tryz.results13, go_sem, *]
        · refine ⟨by rw [HW.out, HF.out, HB.out, Hfin.out], ?_⟩
          refine hb.trans ?_
          (repeat (first | (with_reducible exact Below.refl _ _) | (with_reducible refine below_drewN ?_ _) | (with_reducible refine Below.drew ?_) | (with_reducible refine Below.alloc ?_ ?_ _; rotate_left; focus (first | (simp; done) | (simp; omega))) | (with_reducible refine Below.setCell ?_ ?_ _; rotate_left; focus (first | (simp; done) | (simp; omega)))))
end Go.Proofs.YtkhdbolnhcfgkaaGreatDoor

/- decimal.Parse: the number that a text says. -/
namespace Go.Proofs.YtkhdbolnhcfgkaaGreatDoor
open Go Go.RowKit
set_option maxRecDepth 10000

theorem slice_of {w : World} {base size n : Nat} {e : TypeId} {v : Value} {xs : List Value} (h : w.ownsRow base e size v n xs) : ∃ a m k, v = .slice a m k := by
  obtain ⟨a, cap, hv⟩ := own_slice h
  exact ⟨a, n, cap, hv⟩

/-- what decimal.Parse gives back -/
def DecPost (l : List UInt8) (w : World) (e : Ending) (w' : World) : Prop :=
  ∃ (b : Bool) (v : Value) (k : Int), e = .returned (.tuple #[.agg #[.bool b, v, .int .i64 k], .bool (isNumL l)]) ∧ (∃ a n k', v = .slice a n k') ∧ Below w.heap.size w w' ∧
    (isNumL l = true → b = negL l ∧ k = ((fracL l).length : Int) ∧ w'.ownsRow w.heap.size 5 1 v ((wholeL l).length + (fracL l).length) (digs (wholeL l ++ fracL l)))

theorem cutDot_any (s : ByteArray) (l : List UInt8) (hl : s.data.toList = l) (w : World) (hs : s.size ≤ 1000000) :
    Calls Tryz.prog 38 #[.string s, .string ⟨#[46]⟩] w fun e w' =>
      e = .returned (.tuple #[strv (l.take (l.idxOf 46)), strv (l.drop (l.idxOf 46 + 1)), .bool (decide (l.idxOf 46 < l.length))]) ∧ ∃ n, w' = w.drewN n := by
  subst hl
  go_enter Tryz.func38, Tryz.ntmps38
  go_wp2_with fail
  refine (liteCut_any s 46 _ hs).mono ?_
  rintro e w' ⟨rfl, n, rfl⟩
  go_wp2
  go_ret3
  exact ⟨by rw [size_toList]; rfl, n, rfl⟩

theorem prefix_eq (l : List UInt8) : Lib.trimPrefix l [45] = absL l ∧ Lib.hasPrefix l [45] = negL l := by
  cases l with
  | nil => exact ⟨rfl, rfl⟩
  | cons x l =>
    by_cases h : x = 45
    · subst h; simp [Lib.trimPrefix, Lib.hasPrefix, absL, negL, List.isPrefixOf]
    · have h2 : ((45 : UInt8) == x) = false := by rw [beq_eq_false_iff_ne]; exact fun e => h e.symm
      simp [Lib.trimPrefix, Lib.hasPrefix, absL, negL, List.isPrefixOf, h, h2]

theorem own_mono {w : World} {base base' size n : Nat} {e : TypeId} {v : Value} {xs : List Value} (h : w.ownsRow base e size v n xs) (hb : base' ≤ base) : w.ownsRow base' e size v n xs :=
  ⟨h.1, h.2.imp id fun ⟨g, cap, cur, a, b, c⟩ => ⟨g, cap, cur, a, Nat.le_trans hb b, c⟩⟩

/-- digits' values -/
def vals (l : List UInt8) : List Int := l.map fun c => (c.toNat : Int) - 48

theorem zero_eq (l : List UInt8) : (!(vals l).any (· != 0)) = l.all (· == 48) := by
  induction l with
  | nil => rfl
  | cons c l ih =>
    have h : (((c.toNat : Int) - 48) != 0) = !(c == 48) := by
      have h2 := toNat_beq c 48
      have h3 : ((48 : UInt8).toNat : Int) = 48 := rfl
      rw [h3] at h2
      by_cases h4 : c = 48
      · subst h4; rfl
      · have h5 : (c == 48) = false := by simpa using h4
        rw [h5, Bool.not_false, bne_iff_ne]
        intro h6
        have h7 : ((c.toNat : Int) == 48) = true := by rw [beq_iff_eq]; omega
        rw [h7] at h2
        simp [h4] at h2
    simp only [vals, List.map_cons, List.any_cons, List.all_cons] at ih ⊢
    rw [h, ← ih]
    simp

theorem bytesAt_own {w : World} {B n cap : Nat} {ad : Option Addr} {l : List UInt8} (h : w.ownsRow B 5 1 (.slice ad n cap) n (digs l)) (hn : n = l.length) : BytesAt w ad (vals l) := by
  subst hn
  intro j hj
  have hj2 : j < l.length := by simpa [vals] using hj
  obtain ⟨g, cap', hv, _, _, hc⟩ := own_some h (by omega)
  cases hv
  refine ⟨⟨g, 0, none⟩, rfl, ?_⟩
  have := hc j (by omega)
  rw [addr_add0, this]
  simp [digs, vals, hj2]

theorem BytesAt.set {w : World} {a : Option Addr} {l : List Int} (h : BytesAt w a l) {p : Addr} (hp : ∀ b, a = some b → b.block ≠ p.block) (u : Value) : BytesAt (w.setCell p u) a l := fun j hj => by
  obtain ⟨b, hb, hc⟩ := h j hj
  refine ⟨b, hb, ?_⟩
  rw [← hc]
  exact World.cell?_of_block (Below.heap_setCell _ _ _ _ (by rw [addr_add]; exact hp b hb))

theorem zero_list (l : List UInt8) (n : Nat) (hn : n = l.length) (a : Option Addr) (c : Nat) (b : Bool) (sc : Int) (w : World) (hl : l.length ≤ 1000000) (hc : BytesAt w a (vals l)) :
    Calls Tryz.prog 40 #[.agg #[.bool b, .slice a n c, .int .i64 sc]] w fun e w' => e = .returned (.bool (l.all (· == 48))) ∧ Below w.heap.size w w' := by
  subst hn
  have := zero_any (vals l) a c b sc w (by simpa [vals] using hl) hc
  rw [zero_eq] at this
  simpa [vals] using this

theorem own_set {w : World} {base size n : Nat} {e : TypeId} {v : Value} {xs : List Value} (h : w.ownsRow base e size v n xs) {p : Addr} (hp : some p.block ≠ v.ownBlock) (u : Value) : (w.setCell p u).ownsRow base e size v n xs :=
  h.kept (row := some p.block) ⟨rfl, rfl, rfl, by simp, fun i _ hne => Below.heap_setCell _ _ _ _ (fun he => hne (by rw [he]))⟩ (.inr (fun he => hp he.symm))

theorem own_below {w w' : World} {base size n : Nat} {e : TypeId} {v : Value} {xs : List Value} (h : w.ownsRow base e size v n xs) (hb : Below w.heap.size w w') : w'.ownsRow base e size v n xs :=
  h.kept (row := none) ⟨hb.os, hb.tape, hb.output, hb.size, fun i hi _ => hb.block i hi⟩ (by cases v.ownBlock <;> simp)

theorem dec_no {l wh fr : List UInt8} {pt : Bool} (hW : wholeL l = wh) (hF : fracL l = fr) (hP : pointL l = pt) (hN : pt = false → fr = []) (h : ¬ ((wh ++ fr).all isDig = true ∧ wh ≠ [] ∧ (pt = true → fr ≠ []) ∧ wh.length + fr.length ≤ 30)) : isNumL l = false := by
  refine notNum hW hF hP fun ⟨h1, h2, h3⟩ => h ⟨?_, ?_, ?_, h3⟩
  · simp only [numeralsL, Bool.and_eq_true] at h1 h2
    rw [List.all_append, h1.1]
    cases pt with
    | false => rw [hN rfl]; rfl
    | true => simp [(h2 rfl).1]
  · intro e; subst e; simp [numeralsL] at h1
  · intro hp e; subst e; simp [numeralsL] at h2; exact absurd hp (by simpa using h2)

theorem dec_yes {l wh fr : List UInt8} {pt : Bool} (hW : wholeL l = wh) (hF : fracL l = fr) (hP : pointL l = pt) (h1 : (wh ++ fr).all isDig = true) (h2 : wh ≠ []) (h3 : pt = true → fr ≠ []) (h4 : wh.length + fr.length ≤ 30) : formL l = true := by
  rw [List.all_append, Bool.and_eq_true] at h1
  refine form_of hW hF hP (by simp [numeralsL, h1.1, h2]) (fun hp => by simp [numeralsL, h1.2, h3 hp]) (by omega)

set_option maxHeartbeats 4000000 in
theorem parse_any (s : ByteArray) (w : World) (hs : s.size ≤ 1000000) :
    Calls Tryz.prog 29 #[.string s] w (DecPost s.data.toList w) := by
  have hlen : (absL s.data.toList).length ≤ s.size := by unfold absL; split <;> simp
  have hp := prefix_eq s.data.toList
  have HP0 := Lib.hid hp
  generalize hal : absL s.data.toList = al at hlen
  have Hal := Lib.hid hal
  clear hal hp
  go_enter Tryz.func29, Tryz.ntmps29
  go_wp2_with fail
  refine (Tryz.strings_CutPrefix s _ _).mono ?_
  rintro e w' ⟨rfl, rfl⟩
  have hq1 : Lib.trimPrefix s.data.toList [45] = al := HP0.out.1.trans Hal.out
  have hq2 := HP0.out.2
  rw [show ({ data := #[45] } : ByteArray).data.toList = [45] from rfl, hq1, hq2]
  clear hq1 hq2
  generalize hbq : negL s.data.toList = b
  have HB := Lib.hid hbq
  clear hbq
  go_wp2_with fail
  refine (cutDot_any _ al (toList_mk al) _ (by rw [size_mk]; omega)).mono ?_
  rintro e w' ⟨rfl, nq, rfl⟩
  have hwl : (al.take (al.idxOf 46)).length + (al.drop (al.idxOf 46 + 1)).length ≤ s.size := by simp; omega
  have hW : wholeL s.data.toList = al.take (al.idxOf 46) := by rw [wholeL, Hal.out]
  have hF : fracL s.data.toList = al.drop (al.idxOf 46 + 1) := by rw [fracL, Hal.out]
  have hP : pointL s.data.toList = decide (al.idxOf 46 < al.length) := by rw [pointL, Hal.out]
  have hN : decide (al.idxOf 46 < al.length) = false → al.drop (al.idxOf 46 + 1) = [] := by
    intro h; simp at h; exact List.drop_of_length_le (by omega)
  generalize al.take (al.idxOf 46) = wh at hW hwl ⊢
  generalize al.drop (al.idxOf 46 + 1) = fr at hF hwl hN ⊢
  generalize decide (al.idxOf 46 < al.length) = pt at hP hN ⊢
  have HW := Lib.hid hW
  have HF := Lib.hid hF
  have HP := Lib.hid hP
  have HN := Lib.hid hN
  clear hW hF hP hN
  go_wp2_with fail
  refine (values_any _ _ (by first | (rw [append_mk, size_mk]; simp; omega) | simp; omega)).mono ?_
  rw [append_mk, toList_mk]
  rintro e w' ⟨hv, hb⟩
  have hsz : w.heap.size + 1 ≤ w'.heap.size := by have := hb.size; simpa using this
  have hB : Below w.heap.size w w' := (below_drewN ((Below.refl _ _).alloc (Nat.le_refl _) _) nq).trans (hb.mono (by simp))
  have hc0 : w'.cell? ⟨w.heap.size, 0, none⟩ = some (.bool b) := by rw [hb.cell (by simp)]; go_simp
  have hc1 : w'.cell? ⟨w.heap.size, 1, none⟩ = some (.slice none 0 0) := by rw [hb.cell (by simp)]; go_simp
  have hc2 : w'.cell? ⟨w.heap.size, 2, none⟩ = some (.int .i64 0) := by rw [hb.cell (by simp)]; go_simp
  have hf0 : w'.frozen? ⟨w.heap.size, 0, none⟩ = false := by rw [hb.frozen (by simp)]; go_simp
  have hf1 : w'.frozen? ⟨w.heap.size, 1, none⟩ = false := by rw [hb.frozen (by simp)]; go_simp
  have hf2 : w'.frozen? ⟨w.heap.size, 2, none⟩ = false := by rw [hb.frozen (by simp)]; go_simp
  have hown : ∀ v, w'.ownsRow ((w.alloc (.cells #[.bool b, .slice none 0 0, .int .i64 0] 73)).drewN nq).heap.size 5 1 v (wh ++ fr).length (digs (wh ++ fr)) → w'.ownsRow w.heap.size 5 1 v (wh ++ fr).length (digs (wh ++ fr)) := fun v h => own_mono h (by simp)
  have hlo : ∀ v, w'.ownsRow ((w.alloc (.cells #[.bool b, .slice none 0 0, .int .i64 0] 73)).drewN nq).heap.size 5 1 v (wh ++ fr).length (digs (wh ++ fr)) → some w.heap.size ≠ v.ownBlock := fun v h e => by have := (World.ownsRow.lt h _ e.symm).1; simp at this; omega
  clear hb
  by_cases hall : (wh ++ fr).all isDig = true
  · rw [if_pos hall] at hv
    obtain ⟨v, rfl, hrow⟩ := hv
    have HSV := Lib.hid (slice_of hrow)
    have hrow2 := hown v hrow
    have hnb := hlo v hrow
    clear hown hlo hrow
    obtain ⟨ad, cap, rfl⟩ := own_slice hrow2
    have HALL := Lib.hid hall
    clear hall
    have hln : (wh ++ fr).length = wh.length + fr.length := by simp
    rw [hln] at hrow2 hnb ⊢
    have HROW := Lib.hid hrow2
    clear hln hrow2
    by_cases hbad : ¬ (wh ≠ [] ∧ (pt = true → fr ≠ []) ∧ wh.length + fr.length ≤ 30)
    · have hfin := dec_no HW.out HF.out HP.out HN.out (fun h => hbad h.2)
      have HFIN := Lib.hid hfin
      clear hfin
      go_wp2
      all_goals first
        | (exfalso; refine hbad ⟨by assumption, ?_, ?_⟩ <;> first | (intro h; contradiction) | (intro _; assumption) | omega)
        | (refine bodyPost_ret (v := .tuple #[.agg #[.bool b, .slice none 0 0, .int .i64 0], .bool false]) ?_ rfl ?_
           focus (simp [results, Tryz.results29, go_sem, *])
           refine ⟨b, _, _, by rw [HFIN.out], by first | exact ⟨_, _, _, rfl⟩ | exact HSV.out, ?_, fun h => by rw [HFIN.out] at h; cases h⟩
           refine hB.trans ?_
           (repeat (first | (with_reducible exact Below.refl _ _) | (with_reducible refine below_drewN ?_ _) | (with_reducible refine Below.drew ?_) | (with_reducible refine Below.alloc ?_ ?_ _; rotate_left; focus (first | (simp; done) | (simp; omega))) | (with_reducible refine Below.setCell ?_ ?_ _; rotate_left; focus (first | (simp; done) | (simp; omega)))))
           done)
    · have hgood : wh ≠ [] ∧ (pt = true → fr ≠ []) ∧ wh.length + fr.length ≤ 30 := Classical.not_not.1 hbad
      clear hbad
      obtain ⟨hg1, hg2, hg3⟩ := hgood
      have hfo := dec_yes HW.out HF.out HP.out HALL.out hg1 hg2 hg3
      have HFO := Lib.hid hfo
      clear hfo
      have h30 : ¬ ((30 : Int) < (wh.length : Int) + (fr.length : Int)) := by omega
      have hsz0 : 0 < (ByteArray.mk wh.toArray).size := by
        rw [size_mk]
        cases wh with
        | nil => exact absurd rfl hg1
        | cons x l => simp
      have h48 := head48 wh hsz0
      have H48 := Lib.hid h48
      clear h48
      have hpt : (pt = true ∧ ¬ fr = []) ∨ pt = false := by
        cases pt
        · exact .inr rfl
        · exact .inl ⟨rfl, hg2 rfl⟩
      clear hg2
      rcases hpt with ⟨hpt, hfr⟩ | hpt
      all_goals
        by_cases c1 : (1 : Int) < (wh.length : Int)
        · by_cases c2 : (((ByteArray.mk wh.toArray)[0].toNat : Int) == 48) = true
          · have hfin : isNumL s.data.toList = false := by
              rw [isNum_of HW.out HF.out HB.out HFO.out, H48.out, c2]; simp; omega
            have HFIN := Lib.hid hfin
            clear hfin
            go_wp2
            all_goals first
              | (exfalso; rename_i hh; simp [hg1, hfr] at hh; omega) | (exfalso; rename_i hh; simp [hg1] at hh; omega)
              | skip
            refine bodyPost_ret (v := .tuple #[.agg #[.bool b, .slice ad (wh.length + fr.length) cap, .int .i64 (fr.length : Int)], .bool false]) ?_ rfl ?_
            · simp [results, Tryz.results29, go_sem, cellSet, *]
            · refine ⟨b, _, _, by rw [HFIN.out], by first | exact ⟨_, _, _, rfl⟩ | exact HSV.out, ?_, fun h => by rw [HFIN.out] at h; cases h⟩
              refine hB.trans ?_
              (repeat (first | (with_reducible exact Below.refl _ _) | (with_reducible refine below_drewN ?_ _) | (with_reducible refine Below.drew ?_) | (with_reducible refine Below.alloc ?_ ?_ _; rotate_left; focus (first | (simp; done) | (simp; omega))) | (with_reducible refine Below.setCell ?_ ?_ _; rotate_left; focus (first | (simp; done) | (simp; omega)))))
          · have c2' : (((ByteArray.mk wh.toArray)[0].toNat : Int) == 48) = false := by simpa using c2
            have hfin : isNumL s.data.toList = !(b && (wh ++ fr).all (· == 48)) := by
              rw [isNum_of HW.out HF.out HB.out HFO.out, H48.out, c2']; simp
            have HFIN := Lib.hid hfin
            clear hfin c2
            cases b
            · have HR := HROW
              simp only [Bool.false_and, Bool.not_false] at HFIN
              go_wp2
              all_goals first
                | (exfalso; rename_i hh; simp [hg1, hfr] at hh; omega) | (exfalso; rename_i hh; simp [hg1] at hh; omega)
                | skip
              refine bodyPost_ret (v := .tuple #[.agg #[.bool false, .slice ad (wh.length + fr.length) cap, .int .i64 (fr.length : Int)], .bool true]) ?_ rfl ?_
              · simp [results, Tryz.results29, go_sem, cellSet, *]
              · refine ⟨_, _, _, by rw [HFIN.out], by first | exact ⟨_, _, _, rfl⟩ | exact HSV.out, ?_, ?_⟩
                · refine hB.trans ?_
                  (repeat (first | (with_reducible exact Below.refl _ _) | (with_reducible refine below_drewN ?_ _) | (with_reducible refine Below.drew ?_) | (with_reducible refine Below.alloc ?_ ?_ _; rotate_left; focus (first | (simp; done) | (simp; omega))) | (with_reducible refine Below.setCell ?_ ?_ _; rotate_left; focus (first | (simp; done) | (simp; omega)))))
                · intro _
                  rw [HW.out, HF.out]
                  refine ⟨HB.out.symm, rfl, ?_⟩
                  (repeat (with_reducible refine own_set ?_ hnb _))
                  exact HR.out
            · simp only [Bool.true_and] at HFIN
              go_wp2_with fail
              all_goals first
                | (exfalso; rename_i hh; simp [hg1, hfr] at hh; omega) | (exfalso; rename_i hh; simp [hg1] at hh; omega)
                | skip
              refine (zero_list (wh ++ fr) (wh.length + fr.length) (by simp) ad cap true _ _ (by simp; omega) (((bytesAt_own HROW.out (by simp)).set ?_ _).set ?_ _)).mono ?_
              · intro q hq he; subst hq; exact hnb (by simp [Value.ownBlock]; exact he.symm)
              · intro q hq he; subst hq; exact hnb (by simp [Value.ownBlock]; exact he.symm)
              rintro e w2 ⟨rfl, hb2⟩
              have hsz2 : w.heap.size + 1 ≤ w2.heap.size := by have := hb2.size; simp at this; omega
              have hB2 : Below w.heap.size w w2 := ((hB.setCell (p := ⟨w.heap.size, 1, none⟩) (Nat.le_refl _) _).setCell (p := ⟨w.heap.size, 2, none⟩) (Nat.le_refl _) _).trans (hb2.mono (by simp; omega))
              have hd0 : w2.cell? ⟨w.heap.size, 0, none⟩ = some (.bool true) := by rw [hb2.cell (by simp; omega)]; simp [cellSet, hc0]
              have hd1 : w2.cell? ⟨w.heap.size, 1, none⟩ = some (.slice ad (wh.length + fr.length) cap) := by rw [hb2.cell (by simp; omega)]; simp [cellSet, hc1]
              have hd2 : w2.cell? ⟨w.heap.size, 2, none⟩ = some (.int .i64 (fr.length : Int)) := by rw [hb2.cell (by simp; omega)]; simp [cellSet, hc2]
              have he0 : w2.frozen? ⟨w.heap.size, 0, none⟩ = false := by rw [hb2.frozen (by simp; omega)]; go_simp
              have he1 : w2.frozen? ⟨w.heap.size, 1, none⟩ = false := by rw [hb2.frozen (by simp; omega)]; go_simp
              have he2 : w2.frozen? ⟨w.heap.size, 2, none⟩ = false := by rw [hb2.frozen (by simp; omega)]; go_simp
              have HR := Lib.hid (own_below (own_set (own_set HROW.out hnb _) hnb _) hb2)
              clear hb2 hc0 hc1 hc2 hf0 hf1 hf2
              generalize (wh ++ fr).all (· == 48) = z at HFIN ⊢
              cases z
              · simp only [Bool.not_false] at HFIN
                go_wp2
                refine bodyPost_ret (v := .tuple #[.agg #[.bool true, .slice ad (wh.length + fr.length) cap, .int .i64 (fr.length : Int)], .bool true]) ?_ rfl ?_
                · simp [results, Tryz.results29, go_sem, cellSet, *]
                · refine ⟨_, _, _, by rw [HFIN.out], by first | exact ⟨_, _, _, rfl⟩ | exact HSV.out, ?_, ?_⟩
                  · refine hB2.trans ?_
                    (repeat (first | (with_reducible exact Below.refl _ _) | (with_reducible refine below_drewN ?_ _) | (with_reducible refine Below.drew ?_) | (with_reducible refine Below.alloc ?_ ?_ _; rotate_left; focus (first | (simp; done) | (simp; omega))) | (with_reducible refine Below.setCell ?_ ?_ _; rotate_left; focus (first | (simp; done) | (simp; omega)))))
                  · intro _
                    rw [HW.out, HF.out]
                    refine ⟨HB.out.symm, rfl, ?_⟩
                    (repeat (with_reducible refine own_set ?_ hnb _))
                    exact HR.out
              · simp only [Bool.not_true] at HFIN
                go_wp2
                refine bodyPost_ret (v := .tuple #[.agg #[.bool true, .slice ad (wh.length + fr.length) cap, .int .i64 (fr.length : Int)], .bool false]) ?_ rfl ?_
                · simp [results, Tryz.results29, go_sem, cellSet, *]
                · refine ⟨_, _, _, by rw [HFIN.out], by first | exact ⟨_, _, _, rfl⟩ | exact HSV.out, ?_, ?_⟩
                  · refine hB2.trans ?_
                    (repeat (first | (with_reducible exact Below.refl _ _) | (with_reducible refine below_drewN ?_ _) | (with_reducible refine Below.drew ?_) | (with_reducible refine Below.alloc ?_ ?_ _; rotate_left; focus (first | (simp; done) | (simp; omega))) | (with_reducible refine Below.setCell ?_ ?_ _; rotate_left; focus (first | (simp; done) | (simp; omega)))))
                  · intro h; rw [HFIN.out] at h; cases h
        · have hfin : isNumL s.data.toList = !(b && (wh ++ fr).all (· == 48)) := by
            rw [isNum_of HW.out HF.out HB.out HFO.out, decide_eq_false (by omega)]; simp
          have HFIN := Lib.hid hfin
          clear hfin
          cases b
          · have HR := HROW
            simp only [Bool.false_and, Bool.not_false] at HFIN
            go_wp2
            all_goals first
              | (exfalso; rename_i hh; simp [hg1, hfr] at hh; omega) | (exfalso; rename_i hh; simp [hg1] at hh; omega)
              | skip
            refine bodyPost_ret (v := .tuple #[.agg #[.bool false, .slice ad (wh.length + fr.length) cap, .int .i64 (fr.length : Int)], .bool true]) ?_ rfl ?_
            · simp [results, Tryz.results29, go_sem, cellSet, *]
            · refine ⟨_, _, _, by rw [HFIN.out], by first | exact ⟨_, _, _, rfl⟩ | exact HSV.out, ?_, ?_⟩
              · refine hB.trans ?_
                (repeat (first | (with_reducible exact Below.refl _ _) | (with_reducible refine below_drewN ?_ _) | (with_reducible refine Below.drew ?_) | (with_reducible refine Below.alloc ?_ ?_ _; rotate_left; focus (first | (simp; done) | (simp; omega))) | (with_reducible refine Below.setCell ?_ ?_ _; rotate_left; focus (first | (simp; done) | (simp; omega)))))
              · intro _
                rw [HW.out, HF.out]
                refine ⟨HB.out.symm, rfl, ?_⟩
                (repeat (with_reducible refine own_set ?_ hnb _))
                exact HR.out
          · simp only [Bool.true_and] at HFIN
            go_wp2_with fail
            all_goals first
              | (exfalso; rename_i hh; simp [hg1, hfr] at hh; omega) | (exfalso; rename_i hh; simp [hg1] at hh; omega)
              | skip
            refine (zero_list (wh ++ fr) (wh.length + fr.length) (by simp) ad cap true _ _ (by simp; omega) (((bytesAt_own HROW.out (by simp)).set ?_ _).set ?_ _)).mono ?_
            · intro q hq he; subst hq; exact hnb (by simp [Value.ownBlock]; exact he.symm)
            · intro q hq he; subst hq; exact hnb (by simp [Value.ownBlock]; exact he.symm)
            rintro e w2 ⟨rfl, hb2⟩
            have hsz2 : w.heap.size + 1 ≤ w2.heap.size := by have := hb2.size; simp at this; omega
            have hB2 : Below w.heap.size w w2 := ((hB.setCell (p := ⟨w.heap.size, 1, none⟩) (Nat.le_refl _) _).setCell (p := ⟨w.heap.size, 2, none⟩) (Nat.le_refl _) _).trans (hb2.mono (by simp; omega))
            have hd0 : w2.cell? ⟨w.heap.size, 0, none⟩ = some (.bool true) := by rw [hb2.cell (by simp; omega)]; simp [cellSet, hc0]
            have hd1 : w2.cell? ⟨w.heap.size, 1, none⟩ = some (.slice ad (wh.length + fr.length) cap) := by rw [hb2.cell (by simp; omega)]; simp [cellSet, hc1]
            have hd2 : w2.cell? ⟨w.heap.size, 2, none⟩ = some (.int .i64 (fr.length : Int)) := by rw [hb2.cell (by simp; omega)]; simp [cellSet, hc2]
            have he0 : w2.frozen? ⟨w.heap.size, 0, none⟩ = false := by rw [hb2.frozen (by simp; omega)]; go_simp
            have he1 : w2.frozen? ⟨w.heap.size, 1, none⟩ = false := by rw [hb2.frozen (by simp; omega)]; go_simp
            have he2 : w2.frozen? ⟨w.heap.size, 2, none⟩ = false := by rw [hb2.frozen (by simp; omega)]; go_simp
            have HR := Lib.hid (own_below (own_set (own_set HROW.out hnb _) hnb _) hb2)
            clear hb2 hc0 hc1 hc2 hf0 hf1 hf2
            generalize (wh ++ fr).all (· == 48) = z at HFIN ⊢
            cases z
            · simp only [Bool.not_false] at HFIN
              go_wp2
              refine bodyPost_ret (v := .tuple #[.agg #[.bool true, .slice ad (wh.length + fr.length) cap, .int .i64 (fr.length : Int)], .bool true]) ?_ rfl ?_
              · simp [results, Tryz.results29, go_sem, cellSet, *]
              · refine ⟨_, _, _, by rw [HFIN.out], by first | exact ⟨_, _, _, rfl⟩ | exact HSV.out, ?_, ?_⟩
                · refine hB2.trans ?_
                  (repeat (first | (with_reducible exact Below.refl _ _) | (with_reducible refine below_drewN ?_ _) | (with_reducible refine Below.drew ?_) | (with_reducible refine Below.alloc ?_ ?_ _; rotate_left; focus (first | (simp; done) | (simp; omega))) | (with_reducible refine Below.setCell ?_ ?_ _; rotate_left; focus (first | (simp; done) | (simp; omega)))))
                · intro _
                  rw [HW.out, HF.out]
                  refine ⟨HB.out.symm, rfl, ?_⟩
                  (repeat (with_reducible refine own_set ?_ hnb _))
                  exact HR.out
            · simp only [Bool.not_true] at HFIN
              go_wp2
              refine bodyPost_ret (v := .tuple #[.agg #[.bool true, .slice ad (wh.length + fr.length) cap, .int .i64 (fr.length : Int)], .bool false]) ?_ rfl ?_
              · simp [results, Tryz.results29, go_sem, cellSet, *]
              · refine ⟨_, _, _, by rw [HFIN.out], by first | exact ⟨_, _, _, rfl⟩ | exact HSV.out, ?_, ?_⟩
                · refine hB2.trans ?_
                  (repeat (first | (with_reducible exact Below.refl _ _) | (with_reducible refine below_drewN ?_ _) | (with_reducible refine Below.drew ?_) | (with_reducible refine Below.alloc ?_ ?_ _; rotate_left; focus (first | (simp; done) | (simp; omega))) | (with_reducible refine Below.setCell ?_ ?_ _; rotate_left; focus (first | (simp; done) | (simp; omega)))))
                · intro h; rw [HFIN.out] at h; cases h
  · rw [if_neg hall] at hv
    subst hv
    have hfin := dec_no HW.out HF.out HP.out HN.out (fun h => hall h.1)
    have HFIN := Lib.hid hfin
    clear hfin hall hown hlo
    go_wp2
    refine bodyPost_ret (v := .tuple #[.agg #[.bool b, .slice none 0 0, .int .i64 0], .bool false]) ?_ rfl ?_
    · simp [results, Tryz.results29, go_sem, *]
    · refine ⟨b, _, _, by rw [HFIN.out], by first | exact ⟨_, _, _, rfl⟩ | exact HSV.out, ?_, fun h => by rw [HFIN.out] at h; cases h⟩
      refine hB.trans ?_
      (repeat (first | (with_reducible exact Below.refl _ _) | (with_reducible refine below_drewN ?_ _) | (with_reducible refine Below.drew ?_) | (with_reducible refine Below.alloc ?_ ?_ _; rotate_left; focus (first | (simp; done) | (simp; omega))) | (with_reducible refine Below.setCell ?_ ?_ _; rotate_left; focus (first | (simp; done) | (simp; omega)))))
end Go.Proofs.YtkhdbolnhcfgkaaGreatDoor

/- decimal's Int and Frac: slices of the digits. -/
namespace Go.Proofs.YtkhdbolnhcfgkaaGreatDoor
open Go Go.RowKit
set_option maxRecDepth 10000

theorem addr_addo (g o j : Nat) : (⟨g, o, none⟩ : Addr).add j = ⟨g, o + j, none⟩ := by
  unfold Addr.add
  split
  · simp_all
  · simp

theorem BytesAt.take {w : World} {a : Option Addr} {l : List Int} (h : BytesAt w a l) (m : Nat) : BytesAt w a (l.take m) := fun j hj => by
  have hj2 : j < l.length := by simp at hj; omega
  obtain ⟨b, hb, hc⟩ := h j hj2
  exact ⟨b, hb, by simpa using hc⟩

theorem BytesAt.drop {w : World} {g : Nat} {l : List Int} (h : BytesAt w (some ⟨g, 0, none⟩) l) (k : Nat) : BytesAt w (some ⟨g, k, none⟩) (l.drop k) := fun j hj => by
  have hj2 : k + j < l.length := by simp at hj; omega
  obtain ⟨b, hb, hc⟩ := h (k + j) hj2
  cases hb
  refine ⟨_, rfl, ?_⟩
  rw [addr_addo]
  rw [addr_add0] at hc
  simpa using hc

set_option maxHeartbeats 1000000 in
theorem int_any (g : Nat) (n cap sc : Nat) (b : Bool) (l : List Int) (w : World) (hl : l.length = n) (hs : sc ≤ n) (hcap : n ≤ cap) (hn : n ≤ 1000000) (hB : BytesAt w (some ⟨g, 0, none⟩) l) :
    Calls Tryz.prog 88 #[.agg #[.bool b, .slice (some ⟨g, 0, none⟩) n cap, .int .i64 sc]] w fun e w' => (∃ ad' cap', e = .returned (.slice ad' (n - sc) cap') ∧ (∀ q, ad' = some q → q.block = g) ∧ BytesAt w' ad' (l.take (n - sc))) ∧ Below w.heap.size w w' := by
  obtain ⟨k, hk⟩ : ∃ k, n = k + sc := ⟨n - sc, by omega⟩
  subst hk
  rw [show k + sc - sc = k from by omega]
  have h0 : (0 : Int) ≤ ((k + sc : Nat) : Int) - (sc : Int) := by omega
  have h1 : ((k + sc : Nat) : Int) - (sc : Int) = (k : Int) := by omega
  have h2 : k ≤ cap := by omega
  go_enter Tryz.func88, Tryz.ntmps88
  go_wp2
  go_ret
  exact ⟨⟨_, _, rfl, (by intro q hq; cases hq; rfl), (hB.alloc _).take k⟩, (Below.refl _ _).alloc (Nat.le_refl _) _⟩

set_option maxHeartbeats 1000000 in
theorem frac_any (g : Nat) (n cap sc : Nat) (b : Bool) (l : List Int) (w : World) (hl : l.length = n) (hs : sc ≤ n) (hcap : n ≤ cap) (hn : n ≤ 1000000) (hB : BytesAt w (some ⟨g, 0, none⟩) l) :
    Calls Tryz.prog 94 #[.agg #[.bool b, .slice (some ⟨g, 0, none⟩) n cap, .int .i64 sc]] w fun e w' => (∃ ad' cap', e = .returned (.slice ad' sc cap') ∧ (∀ q, ad' = some q → q.block = g) ∧ BytesAt w' ad' (l.drop (n - sc))) ∧ Below w.heap.size w w' := by
  obtain ⟨k, hk⟩ : ∃ k, n = k + sc := ⟨n - sc, by omega⟩
  subst hk
  rw [show k + sc - sc = k from by omega]
  have h1 : ((k + sc : Nat) : Int) - (sc : Int) = (k : Int) := by omega
  have h2 : k ≤ cap := by omega
  go_enter Tryz.func94, Tryz.ntmps94
  by_cases hck : cap = k
  · have hz : l.drop k = [] := List.drop_of_length_le (by omega)
    have HZ := Lib.hid hz
    clear hz
    go_wp2
    go_ret
    refine ⟨⟨_, _, rfl, (by intro q hq; cases hq; rfl), ?_⟩, (Below.refl _ _).alloc (Nat.le_refl _) _⟩
    rw [HZ.out]
    intro j hj
    simp at hj
  · go_wp2
    go_ret
    exact ⟨⟨_, _, rfl, (by intro q hq; cases hq; rfl), (hB.alloc _).drop k⟩, (Below.refl _ _).alloc (Nat.le_refl _) _⟩
end Go.Proofs.YtkhdbolnhcfgkaaGreatDoor

/- The plain law of rules, second part: the program's words are the document's. -/
namespace Go.Proofs.YtkhdbolnhcfgkaaGreatDoor
open Go

/-- the class that a kind goes with -/
def clsOf (k : Nat) : Nat := if k = 1 then 3 else if k = 2 then 2 else if k = 3 then 1 else 0

theorem class_kind (c : UInt8) : classL c = clsOf (kindL c) := by
  unfold classL kindL clsOf
  split
  · rfl
  split
  · rfl
  split
  · rfl
  · rfl

theorem cls_inj {a b : Nat} (ha : a ≤ 3) (hb : b ≤ 3) (h : clsOf a = clsOf b) : a = b := by
  unfold clsOf at h
  rcases (by omega : a = 0 ∨ a = 1 ∨ a = 2 ∨ a = 3) with rfl | rfl | rfl | rfl <;> rcases (by omega : b = 0 ∨ b = 1 ∨ b = 2 ∨ b = 3) with rfl | rfl | rfl | rfl <;> simp_all

theorem class_beq (d c : UInt8) : (classL d == classL c) = (kindL d == kindL c) := by
  rw [class_kind, class_kind, Bool.eq_iff_iff, beq_iff_eq, beq_iff_eq]
  exact ⟨cls_inj (kindL_le d) (kindL_le c), fun h => by rw [h]⟩

theorem words_blank : ∀ (t : List UInt8) (out : List Wd), wordsGo t out 3 = wordsGo (t.dropWhile (fun d => kindL d == 3)) out 3
  | [], _ => rfl
  | c :: t, out => by
    by_cases h : kindL c = 3
    · rw [go_blank h, words_blank t out, List.dropWhile_cons_of_pos (by simp [h])]
    · rw [List.dropWhile_cons_of_neg (by simp [h])]

theorem join_snoc (out : List Wd) (w : Wd) (c : UInt8) : joinL (out ++ [w]) c = out ++ [w ++ [c]] := by
  unfold joinL
  simp

theorem words_run {k : Nat} (h3 : k ≠ 3) (h0 : 0 < k) : ∀ (t : List UInt8) (out : List Wd) (w : Wd),
    wordsGo t (out ++ [w]) k = wordsGo (t.dropWhile (fun d => kindL d == k)) (out ++ [w ++ t.takeWhile (fun d => kindL d == k)]) k
  | [], _, _ => by simp
  | c :: t, out, w => by
    by_cases h : kindL c = k
    · rw [go_join (by rw [h]; exact h3) ⟨by rw [h]; exact h0, h⟩, join_snoc, h, words_run h3 h0 t out (w ++ [c]), List.dropWhile_cons_of_pos (by simp [h]), List.takeWhile_cons_of_pos (by simp [h])]
      simp
    · rw [List.dropWhile_cons_of_neg (by simp [h]), List.takeWhile_cons_of_neg (by simp [h])]
      simp

theorem drop_head {p : UInt8 → Bool} : ∀ {t u : List UInt8} {c : UInt8}, t.dropWhile p = c :: u → p c = false
  | [], _, _, h => by cases h
  | d :: t, u, c, h => by
    by_cases hd : p d = true
    · rw [List.dropWhile_cons_of_pos hd] at h; exact drop_head h
    · rw [List.dropWhile_cons_of_neg hd] at h
      cases h
      simpa using hd

theorem drop_len (p : UInt8 → Bool) (t : List UInt8) : (t.dropWhile p).length ≤ t.length := (List.dropWhile_sublist p).length_le

theorem sign_none {c : UInt8} {t : List UInt8} (h : signL (c :: t) = none) : ¬ (c = 61 ∨ c = 44 ∨ c = 37) ∧ ∀ d u, t = d :: u → ¬ ((c = 33 ∧ d = 61) ∨ (c = 46 ∧ d = 46)) := by
  constructor
  · rintro (rfl | rfl | rfl) <;> simp [signL] at h
  · rintro d u rfl (⟨rfl, rfl⟩ | ⟨rfl, rfl⟩) <;> simp [signL] at h

theorem kind_sign {c : UInt8} (h : c = 61 ∨ c = 44 ∨ c = 37 ∨ c = 33 ∨ c = 46) : kindL c = 0 := by
  rcases h with rfl | rfl | rfl | rfl | rfl <;> decide

theorem tok_words : ∀ (n : Nat) (l : List UInt8) (acc : List Wd) (last : Nat), l.length < n → (∀ c t, l = c :: t → kindL c = 1 ∨ kindL c = 2 → kindL c ≠ last) → tokGo n acc l = wordsGo l acc last
  | 0, _, _, _, h, _ => absurd h (Nat.not_lt_zero _)
  | n + 1, [], acc, last, _, _ => by rw [tokGo, wordsGo]
  | n + 1, c :: t, acc, last, hl, hk => by
    rw [List.length_cons] at hl
    cases hs : signL (c :: t) with
    | some g =>
      rw [tokGo, hs]
      dsimp only
      unfold signL at hs
      split at hs
      · rename_i u heq
        cases heq; cases hs
        rw [go_two (kind_sign (by simp)) (by decide) (by simp)]
        exact tok_words n u _ 0 (by simp at hl; omega) (fun c t _ h => by omega)
      · rename_i u heq
        cases heq; cases hs
        rw [go_two (kind_sign (by simp)) (by decide) (by simp)]
        exact tok_words n u _ 0 (by simp at hl; omega) (fun c t _ h => by omega)
      · rename_i u heq
        cases heq; cases hs
        have e := kind_sign (c := 61) (by simp)
        rw [go_one (by rw [e]; decide) (by rw [e]; omega) (by simp), e]
        exact tok_words n _ _ 0 (by simp; omega) (fun c t _ h => by omega)
      · rename_i u heq
        cases heq; cases hs
        have e := kind_sign (c := 44) (by simp)
        rw [go_one (by rw [e]; decide) (by rw [e]; omega) (by simp), e]
        exact tok_words n _ _ 0 (by simp; omega) (fun c t _ h => by omega)
      · rename_i u heq
        cases heq; cases hs
        have e := kind_sign (c := 37) (by simp)
        rw [go_one (by rw [e]; decide) (by rw [e]; omega) (by simp), e]
        exact tok_words n _ _ 0 (by simp; omega) (fun c t _ h => by omega)
      · cases hs
    | none =>
      obtain ⟨s1, s2⟩ := sign_none hs
      have hk3 := kindL_le c
      rw [tokGo, hs]
      dsimp only
      have hp : (fun d => classL d == classL c) = (fun d => kindL d == kindL c) := funext fun d => class_beq d c
      rw [hp, class_kind]
      rcases (by omega : kindL c = 0 ∨ kindL c = 1 ∨ kindL c = 2 ∨ kindL c = 3) with e | e | e | e
      · rw [e, if_pos (by decide)]
        cases t with
        | nil => rw [go_bad1 e s1]
        | cons d u => rw [go_bad e s1 (s2 d u rfl)]
      · rw [e, if_neg (by decide), if_neg (by decide)]
        have hne := hk c t rfl (by omega)
        rw [go_one (by omega) (fun q => hne q.2) (.inl (by omega)), e, words_run (by decide) (by decide)]
        exact tok_words n _ _ 1 (by have := drop_len (fun d => kindL d == 1) t; omega) (fun d u hd _ => by have := drop_head hd; simpa using this)
      · rw [e, if_neg (by decide), if_neg (by decide)]
        have hne := hk c t rfl (by omega)
        rw [go_one (by omega) (fun q => hne q.2) (.inl (by omega)), e, words_run (by decide) (by decide)]
        exact tok_words n _ _ 2 (by have := drop_len (fun d => kindL d == 2) t; omega) (fun d u hd _ => by have := drop_head hd; simpa using this)
      · rw [e, if_neg (by decide), if_pos (by decide), go_blank e, words_blank]
        exact tok_words n _ _ 3 (by have := drop_len (fun d => kindL d == 3) t; omega) (fun d u hd _ => by have := drop_head hd; simpa using this)

theorem tokL_eq (s : List UInt8) : tokL s = wordsL s := by
  unfold tokL wordsL
  refine tok_words _ _ _ _ (by simp; omega) (fun c t h h0 => ?_)
  omega
end Go.Proofs.YtkhdbolnhcfgkaaGreatDoor

/- The plain law of rules, third part: numbers of a rule: their texts and their values. -/
namespace Go.Proofs.YtkhdbolnhcfgkaaGreatDoor
open Go

theorem val_foldl (l : List UInt8) : ∀ a : Nat, l.foldl (fun v c => 10 * v + (c.toNat - 48)) a = a * 10 ^ l.length + valL l := by
  induction l with
  | nil => intro a; simp [valL]
  | cons c t ih =>
    intro a
    unfold valL
    rw [List.foldl_cons, List.foldl_cons, ih, ih, List.length_cons, Nat.pow_succ, Nat.mul_zero, Nat.zero_add, Nat.add_mul, Nat.add_assoc]
    congr 1
    rw [Nat.mul_comm 10 a, Nat.mul_assoc, Nat.mul_comm 10]

theorem valL_cons (c : UInt8) (t : List UInt8) : valL (c :: t) = (c.toNat - 48) * 10 ^ t.length + valL t := by
  show (c :: t).foldl (fun v c => 10 * v + (c.toNat - 48)) 0 = _
  rw [List.foldl_cons, val_foldl]
  simp

/-- digits, at least one, without a nought ahead -/
structure Fig (l : List UInt8) : Prop where
  dig : l.all isDig = true
  ne : l ≠ []
  lead : l.length = 1 ∨ l.headD 0 ≠ 48

theorem Fig.of {l : List UInt8} (h : figB l = true) : Fig l ∧ l.length ≤ 9 := by
  simp only [figB, numeralsL, Bool.and_eq_true, Bool.or_eq_true, decide_eq_true_eq, Bool.not_eq_true'] at h
  refine ⟨⟨h.1.1, fun e => ?_, h.2.2⟩, h.2.1⟩
  rw [e] at h
  exact absurd h.1.2 (by decide)

theorem valL_low {c : UInt8} {t : List UInt8} (hc : isDig c = true) (h : c ≠ 48) : 10 ^ t.length ≤ valL (c :: t) := by
  rw [valL_cons]
  have h1 := (isDig_iff c).1 hc
  have h2 : c.toNat ≠ 48 := fun e => h (UInt8.toNat_inj.1 (by rw [e]; rfl))
  have : 1 * 10 ^ t.length ≤ (c.toNat - 48) * 10 ^ t.length := Nat.mul_le_mul_right _ (by omega)
  omega

theorem dchar_of {c : UInt8} (hc : isDig c = true) : dchar (c.toNat - 48) = c := by
  have h1 := (isDig_iff c).1 hc
  unfold dchar
  apply UInt8.toNat_inj.1
  rw [UInt8.toNat_ofNat']
  omega

theorem decL_valL : ∀ (n : Nat) (l : List UInt8), l.length = n → Fig l → decL (valL l) = l := by
  intro n
  induction n with
  | zero => intro l hl h; exact absurd (List.eq_nil_of_length_eq_zero hl) h.ne
  | succ n ih =>
    intro l hl h
    obtain ⟨t, c, rfl⟩ : ∃ t c, l = t ++ [c] := ⟨l.dropLast, l.getLast h.ne, by rw [List.dropLast_concat_getLast]⟩
    have hd := h.dig
    rw [List.all_append, Bool.and_eq_true] at hd
    have hc : isDig c = true := by simpa using hd.2
    have h1 := (isDig_iff c).1 hc
    rw [valL_snoc]
    by_cases ht : t = []
    · subst ht
      have : (10 * valL [] + (c.toNat - 48)) = c.toNat - 48 := by simp [valL]
      rw [this, decL_small (by omega), dchar_of hc]
      rfl
    · have hlen : t.length = n := by simpa using hl
      have hlead : (t ++ [c]).headD 0 ≠ 48 := by
        rcases h.lead with q | q
        · exact absurd (List.eq_nil_of_length_eq_zero (by simpa using q)) ht
        · exact q
      obtain ⟨e, u, rfl⟩ : ∃ e u, t = e :: u := by cases t with | nil => exact absurd rfl ht | cons e u => exact ⟨e, u, rfl⟩
      have he : e ≠ 48 := by simpa using hlead
      have hde : isDig e = true := by have := hd.1; simp at this; exact this.1
      have hlow := valL_low (t := u) hde he
      have : 0 < 10 ^ u.length := Nat.pow_pos (by decide)
      rw [decL_big (by omega), show (10 * valL (e :: u) + (c.toNat - 48)) / 10 = valL (e :: u) by omega, show (10 * valL (e :: u) + (c.toNat - 48)) % 10 = c.toNat - 48 by omega, dchar_of hc,
        ih (e :: u) hlen ⟨hd.1, by simp, .inr (by simpa using he)⟩]

theorem Fig.val {l : List UInt8} (h : Fig l) : decL (valL l) = l := decL_valL _ l rfl h

theorem val_shorter {x y : List UInt8} (hx : Fig x) (hy : Fig y) (h : x.length < y.length) : valL x < valL y := by
  have h1 := valL_lt x hx.dig
  obtain ⟨c, t, rfl⟩ : ∃ c t, y = c :: t := by cases y with | nil => exact absurd rfl hy.ne | cons e u => exact ⟨e, u, rfl⟩
  have h0 : 0 < x.length := List.length_pos_iff.2 hx.ne
  have hc : c ≠ 48 := by
    rcases hy.lead with q | q
    · rw [q] at h; omega
    · simpa using q
  have hd := hy.dig
  simp only [List.all_cons, Bool.and_eq_true] at hd
  have h2 := valL_low (t := t) hd.1 hc
  have h3 : 10 ^ x.length ≤ 10 ^ t.length := Nat.pow_le_pow_right (by decide) (by simp at h; omega)
  omega

theorem bytesLess_val : ∀ (x y : List UInt8), x.length = y.length → x.all isDig = true → y.all isDig = true → (Op.bytesLess x y = true ↔ valL x < valL y)
  | [], [], _, _, _ => by simp [Op.bytesLess, valL]
  | c :: x, d :: y, hl, hx, hy => by
    simp only [List.all_cons, Bool.and_eq_true] at hx hy
    have hl' : x.length = y.length := by simpa using hl
    have ih := bytesLess_val x y hl' hx.2 hy.2
    have h1 := (isDig_iff c).1 hx.1
    have h2 := (isDig_iff d).1 hy.1
    have bx := valL_lt x hx.2
    have by' := valL_lt y hy.2
    rw [valL_cons, valL_cons, ← hl']
    rw [← hl'] at by'
    rw [Op.bytesLess, Bool.or_eq_true, decide_eq_true_eq, Bool.and_eq_true, beq_iff_eq, ih, UInt8.lt_iff_toNat_lt]
    generalize 10 ^ x.length = p at *
    constructor
    · rintro (q | ⟨rfl, q⟩)
      · have : (c.toNat - 48 + 1) * p ≤ (d.toNat - 48) * p := Nat.mul_le_mul_right _ (by omega)
        rw [Nat.add_mul] at this
        omega
      · omega
    · intro q
      by_cases hcd : c.toNat < d.toNat
      · exact .inl hcd
      · by_cases hde : c = d
        · subst hde; exact .inr ⟨rfl, by omega⟩
        · exfalso
          have hne : c.toNat ≠ d.toNat := fun e => hde (UInt8.toNat_inj.1 e)
          have : (d.toNat - 48 + 1) * p ≤ (c.toNat - 48) * p := Nat.mul_le_mul_right _ (by omega)
          rw [Nat.add_mul] at this
          omega

theorem cmp_val {x y : List UInt8} (hx : Fig x) (hy : Fig y) : 0 < cmpL x y ↔ valL y < valL x := by
  unfold cmpL
  by_cases h1 : x.length < y.length
  · rw [if_pos (.inl h1)]
    have := val_shorter hx hy h1
    constructor <;> intro q <;> omega
  · by_cases h2 : x.length = y.length
    · have hb := bytesLess_val x y h2 hx.dig hy.dig
      by_cases h3 : Op.bytesLess x y = true
      · rw [if_pos (.inr ⟨h2, h3⟩)]
        have := hb.1 h3
        constructor <;> intro q <;> omega
      · rw [if_neg (fun q => q.elim h1 (fun q => h3 q.2))]
        have hn : ¬ valL x < valL y := fun q => h3 (hb.2 q)
        by_cases h4 : x = y
        · rw [if_pos h4, h4]; simp
        · rw [if_neg h4]
          have : valL x ≠ valL y := fun e => h4 (by rw [← hx.val, ← hy.val, e])
          constructor <;> intro q <;> omega
    · have := val_shorter hy hx (by omega)
      rw [if_neg (fun q => q.elim h1 (fun q => h2 q.1)), if_neg (fun e => h2 (by rw [e]))]
      constructor <;> intro q <;> omega

theorem cmp_cases (x y : List UInt8) : cmpL x y = -1 ∨ cmpL x y = 0 ∨ cmpL x y = 1 := by
  unfold cmpL
  split
  · exact .inl rfl
  split
  · exact .inr (.inl rfl)
  · exact .inr (.inr rfl)

/-- a range of the document is a span of the program -/
theorem in_span (wi : Bool) (a f lo hi : List UInt8) (hl : Fig lo) (hh : Fig hi) : inB wi a (brk f) lo hi = spanT (valL lo) (valL hi) wi (a, f) := by
  unfold inB spanT cmpT
  dsimp only
  rw [hl.val, hh.val]
  cases brk f <;> cases wi <;> rcases cmp_cases a lo with q | q | q <;> rcases cmp_cases a hi with r | r | r <;> rw [q, r] <;> decide
end Go.Proofs.YtkhdbolnhcfgkaaGreatDoor

/- The plain law of rules, fourth part: the program's parser against the document's parting. -/
namespace Go.Proofs.YtkhdbolnhcfgkaaGreatDoor
open Go

abbrev wAnd : Wd := [97, 110, 100]
abbrev wOr : Wd := [111, 114]
abbrev wComma : Wd := [44]

/-- what a parser makes of seg ++ rest: it stops just ahead of rest (good), or it fails or stops within seg (bad) -/
def Out {α : Type} (R : Option (α × List Wd)) (seg rest : List Wd) (good : α → Prop) (bad : Prop) : Prop :=
  (∃ a, R = some (a, rest) ∧ good a) ∨ (bad ∧ (R = none ∨ ∃ a h t, h ∈ seg ∧ R = some (a, h :: (t ++ rest))))

theorem Out.imp {α : Type} {R : Option (α × List Wd)} {seg rest : List Wd} {g g' : α → Prop} {b b' : Prop} (h : Out R seg rest g b) (hg : ∀ a, g a → g' a) (hb : b → b') : Out R seg rest g' b' := by
  rcases h with ⟨a, r, q⟩ | ⟨q, r⟩
  · exact .inl ⟨a, r, hg a q⟩
  · exact .inr ⟨hb q, r⟩

theorem Out.wider {α : Type} {R : Option (α × List Wd)} {seg seg' rest : List Wd} {g : α → Prop} {b : Prop} (h : Out R seg rest g b) (hs : ∀ x ∈ seg, x ∈ seg') : Out R seg' rest g b := by
  rcases h with h | ⟨q, r | ⟨a, h, t, hm, r⟩⟩
  · exact .inl h
  · exact .inr ⟨q, .inl r⟩
  · exact .inr ⟨q, .inr ⟨a, h, t, hs h hm, r⟩⟩

theorem Out.map {α β : Type} {R : Option (α × List Wd)} {seg rest : List Wd} {g : α → Prop} {b : Prop} (f : α → β) {g' : β → Prop} (h : Out R seg rest g b) (hg : ∀ a, g a → g' (f a)) :
    Out (R.map fun q => (f q.1, q.2)) seg rest g' b := by
  rcases h with ⟨a, r, q⟩ | ⟨q, r | ⟨a, h, t, hm, r⟩⟩
  · exact .inl ⟨f a, by rw [r]; rfl, hg a q⟩
  · exact .inr ⟨q, .inl (by rw [r]; rfl)⟩
  · exact .inr ⟨q, .inr ⟨f a, h, t, hm, by rw [r]; rfl⟩⟩

/-- what may stand behind a segment -/
def Stop (rest : List Wd) : Prop := ∀ c, rest.head? = some c → c = wAnd ∨ c = wOr
/-- .. behind a range -/
def Stop3 (rest : List Wd) : Prop := ∀ c, rest.head? = some c → c = wComma ∨ c = wAnd ∨ c = wOr

theorem Stop.three {rest : List Wd} (h : Stop rest) : Stop3 rest := fun c hc => .inr (h c hc)

theorem isW_stop {w : Wd} {rest : List Wd} (h : Stop3 rest) (h1 : w ≠ wComma) (h2 : w ≠ wAnd) (h3 : w ≠ wOr) : isW w rest = false := by
  unfold isW
  cases rest with
  | nil => rfl
  | cons c t =>
    have := h c rfl
    simp only [List.head?_cons, beq_eq_false_iff_ne, ne_eq, Option.some.injEq]
    rintro rfl
    rcases this with q | q | q
    · exact h1 q
    · exact h2 q
    · exact h3 q

theorem isW_comma {rest : List Wd} (h : Stop rest) : isW wComma rest = false := by
  unfold isW
  cases rest with
  | nil => rfl
  | cons c t =>
    have := h c rfl
    simp only [List.head?_cons, beq_eq_false_iff_ne, ne_eq, Option.some.injEq]
    rintro rfl
    rcases this with q | q <;> exact absurd q (by decide)

theorem num_stop {rest : List Wd} (h : Stop3 rest) : pNum rest = none := by
  cases rest with
  | nil => rfl
  | cons c t =>
    have := h c rfl
    have : figB c = false := by rcases this with rfl | rfl | rfl <;> decide
    simp [pNum, this]

theorem isW_cons (w c : Wd) (t : List Wd) : isW w (c :: t) = (c == w) := by
  unfold isW
  rw [List.head?_cons, Bool.eq_iff_iff]
  simp

/-! ### parting -/
theorem parts_go_none {m : Wd} : ∀ (s cur : List Wd), m ∉ s → partsGo m cur s = [cur ++ s]
  | [], cur, _ => by simp [partsGo]
  | c :: t, cur, h => by
    have hc : ¬ c = m := fun e => h (by simp [e])
    rw [partsGo, if_neg hc, parts_go_none t _ (fun q => h (by simp [q]))]
    simp
theorem parts_go_cut {m : Wd} (r : List Wd) : ∀ (s cur : List Wd), m ∉ s → partsGo m cur (s ++ m :: r) = (cur ++ s) :: partsGo m [] r
  | [], cur, _ => by simp [partsGo]
  | c :: t, cur, h => by
    have hc : ¬ c = m := fun e => h (by simp [e])
    rw [List.cons_append, partsGo, if_neg hc, parts_go_cut r t _ (fun q => h (by simp [q]))]
    simp
theorem parts_none {m : Wd} {s : List Wd} (h : m ∉ s) : partsL m s = [s] := by
  unfold partsL
  rw [parts_go_none s [] h]
  rfl
theorem parts_cut {m : Wd} {s : List Wd} (r : List Wd) (h : m ∉ s) : partsL m (s ++ m :: r) = s :: partsL m r := by
  unfold partsL
  rw [parts_go_cut r s [] h]
  rfl

/-! ### ranges -/
theorem item_law (s rest : List Wd) (hs : wComma ∉ s) (hr : Stop3 rest) :
    Out (pItem (s ++ rest)) s rest (fun q => ∃ lo hi, oneRange s = some (lo, hi) ∧ Fig lo ∧ Fig hi ∧ q = (valL lo, valL hi)) (oneRange s = none) := by
  have hdots : isW [46, 46] rest = false := isW_stop hr (by decide) (by decide) (by decide)
  match s, hs with
  | [], _ => exact .inr ⟨rfl, .inl (by simp [pItem, num_stop hr])⟩
  | [x], _ =>
    by_cases hx : figB x = true
    · refine .inl ⟨(valL x, valL x), ?_, x, x, by simp [oneRange, hx], (Fig.of hx).1, (Fig.of hx).1, rfl⟩
      simp [pItem, pNum, hx, hdots]
    · exact .inr ⟨by simp [oneRange, hx], .inl (by simp [pItem, pNum, hx])⟩
  | x :: d :: u, hs =>
    by_cases hx : figB x = true
    · by_cases hd : d = [46, 46]
      · subst hd
        have hp : pItem (x :: [46, 46] :: u ++ rest) = match pNum (u ++ rest) with
            | none => none
            | some (b, u) => if b < valL x then none else some ((valL x, b), u) := by
          simp [pItem, pNum, hx, isW_cons]
          rfl
        rw [hp]
        match u with
        | [] => exact .inr ⟨rfl, .inl (by simp [num_stop hr])⟩
        | [y] =>
          by_cases hy : figB y = true
          · have fx := (Fig.of hx).1
            have fy := (Fig.of hy).1
            have hc := cmp_val fx fy
            by_cases hlt : valL y < valL x
            · refine .inr ⟨?_, .inl (by simp [pNum, hy, hlt])⟩
              have h0 := hc.2 hlt
              simp only [oneRange]
              rw [if_neg (fun q => q.2.2.2 h0)]
            · refine .inl ⟨(valL x, valL y), by simp [pNum, hy, hlt], x, y, ?_, fx, fy, rfl⟩
              have h0 : cmpL x y ≤ 0 := by
                have : ¬ 0 < cmpL x y := fun q => hlt (hc.1 q)
                omega
              simp [oneRange, hx, hy, h0]
          · refine .inr ⟨?_, .inl (by simp [pNum, hy])⟩
            simp only [oneRange]
            rw [if_neg (fun q => hy q.2.2.1)]
        | y :: z :: v =>
          refine .inr ⟨by simp [oneRange], ?_⟩
          by_cases hy : figB y = true
          · by_cases hlt : valL y < valL x
            · exact .inl (by simp [pNum, hy, hlt])
            · exact .inr ⟨(valL x, valL y), z, v, by simp, by simp [pNum, hy, hlt]⟩
          · exact .inl (by simp [pNum, hy])
      · have hone : oneRange (x :: d :: u) = none := by
          match u with
          | [] => rfl
          | [y] => simp only [oneRange]; rw [if_neg (fun q => hd q.1)]
          | y :: z :: v => rfl
        refine .inr ⟨hone, .inr ⟨(valL x, valL x), d, u, by simp, ?_⟩⟩
        simp [pItem, pNum, hx, isW_cons, hd]
    · have hone : oneRange (x :: d :: u) = none := by
        match u with
        | [] => rfl
        | [y] => simp only [oneRange]; rw [if_neg (fun q => hx q.2.1)]
        | y :: z :: v => rfl
      exact .inr ⟨hone, .inl (by simp [pItem, pNum, hx])⟩

/-- a list cut at its first m, or without any -/
theorem first_cut (m : Wd) (l : List Wd) : m ∉ l ∨ ∃ s r, l = s ++ m :: r ∧ m ∉ s := by
  by_cases h : m ∈ l
  · obtain ⟨s, r, h1, h2⟩ := List.eq_append_cons_of_mem h
    exact .inr ⟨s, r, h1, h2⟩
  · exact .inl h

theorem list_law (wi : Bool) : ∀ (n : Nat) (l rest : List Wd) (acc : List Tst), l.length < n → Stop rest →
    Out (pListGo wi n acc (l ++ rest)) l rest (fun ts => ∃ new, ts = acc ++ new ∧ ∀ a f b, listedGo wi a (brk f) (partsL wComma l) b = some (b || new.any (fun t => t (a, f))))
      (∀ a f b, listedGo wi a (brk f) (partsL wComma l) b = none)
  | 0, _, _, _, h, _ => absurd h (Nat.not_lt_zero _)
  | n + 1, l, rest, acc, hl, hr => by
    rcases first_cut wComma l with hc | ⟨s, r, rfl, hs⟩
    · have hi := item_law l rest hc hr.three
      rw [parts_none hc]
      rcases hi with ⟨q, hq, lo, hi, h1, h2, h3, rfl⟩ | ⟨hb, hq | ⟨q, h, t, hm, hq⟩⟩
      · refine .inl ⟨acc ++ [spanT (valL lo) (valL hi) wi], ?_, [spanT (valL lo) (valL hi) wi], rfl, fun a f b => ?_⟩
        · rw [pListGo, hq]; simp [isW_comma hr]
        · simp [listedGo, h1, in_span wi a f lo hi h2 h3]
      · exact .inr ⟨fun a f b => by simp [listedGo, hb], .inl (by rw [pListGo, hq])⟩
      · refine .inr ⟨fun a f b => by simp [listedGo, hb], .inr ⟨acc ++ [spanT q.1 q.2 wi], h, t, hm, ?_⟩⟩
        have hne : ¬ h = wComma := fun e => hc (e ▸ hm)
        rw [pListGo, hq]
        simp [isW_cons, hne]
    · have hi := item_law s (wComma :: (r ++ rest)) hs (fun c hc => .inl (by simpa using hc.symm))
      rw [parts_cut r hs]
      have hap : s ++ wComma :: r ++ rest = s ++ (wComma :: (r ++ rest)) := by simp
      rw [hap]
      rcases hi with ⟨q, hq, lo, hi, h1, h2, h3, rfl⟩ | ⟨hb, hq | ⟨q, h, t, hm, hq⟩⟩
      · have ih := list_law wi n r rest (acc ++ [spanT (valL lo) (valL hi) wi]) (by simp at hl; omega) hr
        have hg : pListGo wi (n + 1) acc (s ++ wComma :: (r ++ rest)) = pListGo wi n (acc ++ [spanT (valL lo) (valL hi) wi]) (r ++ rest) := by
          rw [pListGo, hq]; simp [isW_cons]
        rw [hg]
        refine (ih.imp ?_ ?_).wider (fun x hx => by simp [hx])
        · rintro ts ⟨new, rfl, hn⟩
          refine ⟨spanT (valL lo) (valL hi) wi :: new, by simp, fun a f b => ?_⟩
          rw [listedGo, h1]
          dsimp only
          rw [hn, in_span wi a f lo hi h2 h3, List.any_cons, Bool.or_assoc]
        · intro hn a f b
          rw [listedGo, h1]
          dsimp only
          rw [hn]
      · exact .inr ⟨fun a f b => by rw [listedGo, hb], .inl (by rw [pListGo, hq])⟩
      · refine .inr ⟨fun a f b => by rw [listedGo, hb], .inr ⟨acc ++ [spanT q.1 q.2 wi], h, t ++ wComma :: r, by simp [hm], ?_⟩⟩
        have hne : ¬ h = wComma := fun e => hs (e ▸ hm)
        rw [pListGo, hq]
        simp [isW_cons, hne]

/-- a list behind 'in', '=' .. -/
theorem plist_law (wi : Bool) (l rest : List Wd) (hr : Stop rest) :
    Out (pList wi (l ++ rest)) l rest (fun T => ∀ a f, listedL l a f wi false = some (T (a, f))) (∀ a f, listedL l a f wi false = none) := by
  have h := list_law wi ((l ++ rest).length + 1) l rest [] (by simp; omega) hr
  unfold pList
  refine (h.map someT ?_).imp (fun _ q => q) ?_
  · rintro ts ⟨new, rfl, hn⟩ a f
    unfold listedL
    rw [if_neg (fun q => by cases q.1), hn]
    simp [someT]
  · intro hn a f
    unfold listedL
    rw [if_neg (fun q => by cases q.1), hn]

/-- one number behind 'is' -/
theorem one_law (l rest : List Wd) (hr : Stop rest) :
    Out (pNum (l ++ rest)) l rest (fun v => ∀ a f, listedL l a f false true = some (spanT v v false (a, f))) (∀ a f, listedL l a f false true = none) := by
  match l with
  | [] => exact .inr ⟨fun a f => by simp [listedL, partsL, partsGo], .inl (num_stop hr.three)⟩
  | [x] =>
    by_cases hx : figB x = true
    · have hc : wComma ∉ [x] := by
        intro e
        simp at e
        subst e
        exact absurd hx (by decide)
      refine .inl ⟨valL x, by simp [pNum, hx], fun a f => ?_⟩
      have fx := (Fig.of hx).1
      unfold listedL
      rw [parts_none hc, if_neg (by simp)]
      simp [listedGo, oneRange, hx, in_span false a f x x fx fx]
    · refine .inr ⟨fun a f => ?_, .inl (by simp [pNum, hx])⟩
      unfold listedL
      by_cases hc : wComma ∉ [x]
      · rw [parts_none hc, if_neg (by simp)]
        simp [listedGo, oneRange, hx]
      · have : x = wComma := by simpa [eq_comm] using hc
        subst this
        rw [if_pos ⟨rfl, by decide⟩]
  | x :: y :: u =>
    have hlong : ∀ a f, listedL (x :: y :: u) a f false true = none := by
      intro a f
      unfold listedL
      rw [if_pos]
      refine ⟨rfl, fun q => ?_⟩
      rcases first_cut wComma (x :: y :: u) with hc | ⟨s, r, e, hs⟩
      · rw [parts_none hc] at q
        simp at q
      · rw [e, parts_cut r hs] at q
        have : 0 < (partsL wComma r).length := by
          rcases first_cut wComma r with hc | ⟨s', r', e', hs'⟩
          · rw [parts_none hc]; simp
          · rw [e', parts_cut r' hs']; simp
        have q1 := q.1
        simp only [List.length_cons] at q1
        omega
    refine .inr ⟨hlong, ?_⟩
    by_cases hx : figB x = true
    · exact .inr ⟨valL x, y, u, by simp, by simp [pNum, hx]⟩
    · exact .inl (by simp [pNum, hx])
end Go.Proofs.YtkhdbolnhcfgkaaGreatDoor
