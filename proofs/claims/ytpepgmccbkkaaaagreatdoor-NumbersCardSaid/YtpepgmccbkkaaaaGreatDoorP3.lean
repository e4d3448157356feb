/- decimal.Parse: the number that a text says. -/
import Derived.Test.YtpepgmccbkkaaaaGreatDoorP2
import Derived.Test.YtpepgmccbkkaaaaGreatDoorR7
namespace Go.Proofs.YtpepgmccbkkaaaaGreatDoor
open Go Go.RowKit
set_option maxRecDepth 10000

theorem slice_of {w : World} {base size n : Nat} {e : TypeId} {v : Value} {xs : List Value} (h : w.ownsRow base e size v n xs) : ∃ a m k, v = .slice a m k := by
  obtain ⟨a, cap, hv⟩ := own_slice h
  exact ⟨a, n, cap, hv⟩

/-- what decimal.Parse gives back -/
def DecPost (l : List UInt8) (w : World) (e : Ending) (w' : World) : Prop :=
  ∃ (b : Bool) (v : Value) (k : Int), e = .returned (.tuple #[.agg #[.bool b, v, .int .i64 k], .bool (isNumL l)]) ∧ (∃ a n k', v = .slice a n k') ∧ Below w.heap.size w w' ∧
    (isNumL l = true → b = negL l ∧ k = ((fracL l).length : Int) ∧ w'.ownsRow w.heap.size 5 1 v ((wholeL l).length + (fracL l).length) (digs (wholeL l ++ fracL l)))

theorem cutDot_any (s : ByteArray) (l : List UInt8) (hl : s.data.toList = l) (w : World) (hs : s.size ≤ 1000000) :
    Calls Tryz.prog 39 #[.string s, .string ⟨#[46]⟩] w fun e w' =>
      e = .returned (.tuple #[strv (l.take (l.idxOf 46)), strv (l.drop (l.idxOf 46 + 1)), .bool (decide (l.idxOf 46 < l.length))]) ∧ ∃ n, w' = w.drewN n := by
  subst hl
  go_enter Tryz.func39, Tryz.ntmps39
  go_wp2_with fail
  refine (liteCut_any s 46 _ hs).mono ?_
  rintro e w' ⟨rfl, n, rfl⟩
  go_wp2
  go_ret3
  exact ⟨by rw [size_toList]; rfl, n, rfl⟩

theorem prefix_eq (l : List UInt8) : Lib.trimPrefix l [45] = absL l ∧ Lib.hasPrefix l [45] = negL l := by
  cases l with
  | nil => exact ⟨rfl, rfl⟩
  | cons x l =>
    by_cases h : x = 45
    · subst h; simp [Lib.trimPrefix, Lib.hasPrefix, absL, negL, List.isPrefixOf]
    · have h2 : ((45 : UInt8) == x) = false := by rw [beq_eq_false_iff_ne]; exact fun e => h e.symm
      simp [Lib.trimPrefix, Lib.hasPrefix, absL, negL, List.isPrefixOf, h, h2]

theorem own_mono {w : World} {base base' size n : Nat} {e : TypeId} {v : Value} {xs : List Value} (h : w.ownsRow base e size v n xs) (hb : base' ≤ base) : w.ownsRow base' e size v n xs :=
  ⟨h.1, h.2.imp id fun ⟨g, cap, cur, a, b, c⟩ => ⟨g, cap, cur, a, Nat.le_trans hb b, c⟩⟩

/-- digits' values -/
def vals (l : List UInt8) : List Int := l.map fun c => (c.toNat : Int) - 48

theorem zero_eq (l : List UInt8) : (!(vals l).any (· != 0)) = l.all (· == 48) := by
  induction l with
  | nil => rfl
  | cons c l ih =>
    have h : (((c.toNat : Int) - 48) != 0) = !(c == 48) := by
      have h2 := toNat_beq c 48
      have h3 : ((48 : UInt8).toNat : Int) = 48 := rfl
      rw [h3] at h2
      by_cases h4 : c = 48
      · subst h4; rfl
      · have h5 : (c == 48) = false := by simpa using h4
        rw [h5, Bool.not_false, bne_iff_ne]
        intro h6
        have h7 : ((c.toNat : Int) == 48) = true := by rw [beq_iff_eq]; omega
        rw [h7] at h2
        simp [h4] at h2
    simp only [vals, List.map_cons, List.any_cons, List.all_cons] at ih ⊢
    rw [h, ← ih]
    simp

theorem bytesAt_own {w : World} {B n cap : Nat} {ad : Option Addr} {l : List UInt8} (h : w.ownsRow B 5 1 (.slice ad n cap) n (digs l)) (hn : n = l.length) : BytesAt w ad (vals l) := by
  subst hn
  intro j hj
  have hj2 : j < l.length := by simpa [vals] using hj
  obtain ⟨g, cap', hv, _, _, hc⟩ := own_some h (by omega)
  cases hv
  refine ⟨⟨g, 0, none⟩, rfl, ?_⟩
  have := hc j (by omega)
  rw [addr_add0, this]
  simp [digs, vals, hj2]

theorem BytesAt.set {w : World} {a : Option Addr} {l : List Int} (h : BytesAt w a l) {p : Addr} (hp : ∀ b, a = some b → b.block ≠ p.block) (u : Value) : BytesAt (w.setCell p u) a l := fun j hj => by
  obtain ⟨b, hb, hc⟩ := h j hj
  refine ⟨b, hb, ?_⟩
  rw [← hc]
  exact World.cell?_of_block (Below.heap_setCell _ _ _ _ (by rw [addr_add]; exact hp b hb))

theorem zero_list (l : List UInt8) (n : Nat) (hn : n = l.length) (a : Option Addr) (c : Nat) (b : Bool) (sc : Int) (w : World) (hl : l.length ≤ 1000000) (hc : BytesAt w a (vals l)) :
    Calls Tryz.prog 41 #[.agg #[.bool b, .slice a n c, .int .i64 sc]] w fun e w' => e = .returned (.bool (l.all (· == 48))) ∧ Below w.heap.size w w' := by
  subst hn
  have := zero_any (vals l) a c b sc w (by simpa [vals] using hl) hc
  rw [zero_eq] at this
  simpa [vals] using this

theorem own_set {w : World} {base size n : Nat} {e : TypeId} {v : Value} {xs : List Value} (h : w.ownsRow base e size v n xs) {p : Addr} (hp : some p.block ≠ v.ownBlock) (u : Value) : (w.setCell p u).ownsRow base e size v n xs :=
  h.kept (row := some p.block) ⟨rfl, rfl, rfl, by simp, fun i _ hne => Below.heap_setCell _ _ _ _ (fun he => hne (by rw [he]))⟩ (.inr (fun he => hp he.symm))

theorem own_below {w w' : World} {base size n : Nat} {e : TypeId} {v : Value} {xs : List Value} (h : w.ownsRow base e size v n xs) (hb : Below w.heap.size w w') : w'.ownsRow base e size v n xs :=
  h.kept (row := none) ⟨hb.os, hb.tape, hb.output, hb.size, fun i hi _ => hb.block i hi⟩ (by cases v.ownBlock <;> simp)

theorem dec_no {l wh fr : List UInt8} {pt : Bool} (hW : wholeL l = wh) (hF : fracL l = fr) (hP : pointL l = pt) (hN : pt = false → fr = []) (h : ¬ ((wh ++ fr).all isDig = true ∧ wh ≠ [] ∧ (pt = true → fr ≠ []) ∧ wh.length + fr.length ≤ 30)) : isNumL l = false := by
  refine notNum hW hF hP fun ⟨h1, h2, h3⟩ => h ⟨?_, ?_, ?_, h3⟩
  · simp only [numeralsL, Bool.and_eq_true] at h1 h2
    rw [List.all_append, h1.1]
    cases pt with
    | false => rw [hN rfl]; rfl
    | true => simp [(h2 rfl).1]
  · intro e; subst e; simp [numeralsL] at h1
  · intro hp e; subst e; simp [numeralsL] at h2; exact absurd hp (by simpa using h2)

theorem dec_yes {l wh fr : List UInt8} {pt : Bool} (hW : wholeL l = wh) (hF : fracL l = fr) (hP : pointL l = pt) (h1 : (wh ++ fr).all isDig = true) (h2 : wh ≠ []) (h3 : pt = true → fr ≠ []) (h4 : wh.length + fr.length ≤ 30) : formL l = true := by
  rw [List.all_append, Bool.and_eq_true] at h1
  refine form_of hW hF hP (by simp [numeralsL, h1.1, h2]) (fun hp => by simp [numeralsL, h1.2, h3 hp]) (by omega)

set_option maxHeartbeats 4000000 in
theorem parse_any (s : ByteArray) (w : World) (hs : s.size ≤ 1000000) :
    Calls Tryz.prog 27 #[.string s] w (DecPost s.data.toList w) := by
  have hlen : (absL s.data.toList).length ≤ s.size := by unfold absL; split <;> simp
  have hp := prefix_eq s.data.toList
  have HP0 := Lib.hid hp
  generalize hal : absL s.data.toList = al at hlen
  have Hal := Lib.hid hal
  clear hal hp
  go_enter Tryz.func27, Tryz.ntmps27
  go_wp2_with fail
  refine (Tryz.strings_CutPrefix s _ _).mono ?_
  rintro e w' ⟨rfl, rfl⟩
  have hq1 : Lib.trimPrefix s.data.toList [45] = al := HP0.out.1.trans Hal.out
  have hq2 := HP0.out.2
  rw [show ({ data := #[45] } : ByteArray).data.toList = [45] from rfl, hq1, hq2]
  clear hq1 hq2
  generalize hbq : negL s.data.toList = b
  have HB := Lib.hid hbq
  clear hbq
  go_wp2_with fail
  refine (cutDot_any _ al (toList_mk al) _ (by rw [size_mk]; omega)).mono ?_
  rintro e w' ⟨rfl, nq, rfl⟩
  have hwl : (al.take (al.idxOf 46)).length + (al.drop (al.idxOf 46 + 1)).length ≤ s.size := by simp; omega
  have hW : wholeL s.data.toList = al.take (al.idxOf 46) := by rw [wholeL, Hal.out]
  have hF : fracL s.data.toList = al.drop (al.idxOf 46 + 1) := by rw [fracL, Hal.out]
  have hP : pointL s.data.toList = decide (al.idxOf 46 < al.length) := by rw [pointL, Hal.out]
  have hN : decide (al.idxOf 46 < al.length) = false → al.drop (al.idxOf 46 + 1) = [] := by
    intro h; simp at h; exact List.drop_of_length_le (by omega)
  generalize al.take (al.idxOf 46) = wh at hW hwl ⊢
  generalize al.drop (al.idxOf 46 + 1) = fr at hF hwl hN ⊢
  generalize decide (al.idxOf 46 < al.length) = pt at hP hN ⊢
  have HW := Lib.hid hW
  have HF := Lib.hid hF
  have HP := Lib.hid hP
  have HN := Lib.hid hN
  clear hW hF hP hN
  go_wp2_with fail
  refine (values_any _ _ (by first | (rw [append_mk, size_mk]; simp; omega) | simp; omega)).mono ?_
  rw [append_mk, toList_mk]
  rintro e w' ⟨hv, hb⟩
  have hsz : w.heap.size + 1 ≤ w'.heap.size := by have := hb.size; simpa using this
  have hB : Below w.heap.size w w' := (below_drewN ((Below.refl _ _).alloc (Nat.le_refl _) _) nq).trans (hb.mono (by simp))
  have hc0 : w'.cell? ⟨w.heap.size, 0, none⟩ = some (.bool b) := by rw [hb.cell (by simp)]; go_simp
  have hc1 : w'.cell? ⟨w.heap.size, 1, none⟩ = some (.slice none 0 0) := by rw [hb.cell (by simp)]; go_simp
  have hc2 : w'.cell? ⟨w.heap.size, 2, none⟩ = some (.int .i64 0) := by rw [hb.cell (by simp)]; go_simp
  have hf0 : w'.frozen? ⟨w.heap.size, 0, none⟩ = false := by rw [hb.frozen (by simp)]; go_simp
  have hf1 : w'.frozen? ⟨w.heap.size, 1, none⟩ = false := by rw [hb.frozen (by simp)]; go_simp
  have hf2 : w'.frozen? ⟨w.heap.size, 2, none⟩ = false := by rw [hb.frozen (by simp)]; go_simp
  have hown : ∀ v, w'.ownsRow ((w.alloc (.cells #[.bool b, .slice none 0 0, .int .i64 0] 65)).drewN nq).heap.size 5 1 v (wh ++ fr).length (digs (wh ++ fr)) → w'.ownsRow w.heap.size 5 1 v (wh ++ fr).length (digs (wh ++ fr)) := fun v h => own_mono h (by simp)
  have hlo : ∀ v, w'.ownsRow ((w.alloc (.cells #[.bool b, .slice none 0 0, .int .i64 0] 65)).drewN nq).heap.size 5 1 v (wh ++ fr).length (digs (wh ++ fr)) → some w.heap.size ≠ v.ownBlock := fun v h e => by have := (World.ownsRow.lt h _ e.symm).1; simp at this; omega
  clear hb
  by_cases hall : (wh ++ fr).all isDig = true
  · rw [if_pos hall] at hv
    obtain ⟨v, rfl, hrow⟩ := hv
    have HSV := Lib.hid (slice_of hrow)
    have hrow2 := hown v hrow
    have hnb := hlo v hrow
    clear hown hlo hrow
    obtain ⟨ad, cap, rfl⟩ := own_slice hrow2
    have HALL := Lib.hid hall
    clear hall
    have hln : (wh ++ fr).length = wh.length + fr.length := by simp
    rw [hln] at hrow2 hnb ⊢
    have HROW := Lib.hid hrow2
    clear hln hrow2
    by_cases hbad : ¬ (wh ≠ [] ∧ (pt = true → fr ≠ []) ∧ wh.length + fr.length ≤ 30)
    · have hfin := dec_no HW.out HF.out HP.out HN.out (fun h => hbad h.2)
      have HFIN := Lib.hid hfin
      clear hfin
      go_wp2
      all_goals first
        | (exfalso; refine hbad ⟨by assumption, ?_, ?_⟩ <;> first | (intro h; contradiction) | (intro _; assumption) | omega)
        | (refine bodyPost_ret (v := .tuple #[.agg #[.bool b, .slice none 0 0, .int .i64 0], .bool false]) ?_ rfl ?_
           focus (simp [results, Tryz.results27, go_sem, *])
           refine ⟨b, _, _, by rw [HFIN.out], by first | exact ⟨_, _, _, rfl⟩ | exact HSV.out, ?_, fun h => by rw [HFIN.out] at h; cases h⟩
           refine hB.trans ?_
           (repeat (first | (with_reducible exact Below.refl _ _) | (with_reducible refine below_drewN ?_ _) | (with_reducible refine Below.drew ?_) | (with_reducible refine Below.alloc ?_ ?_ _; rotate_left; focus (first | (simp; done) | (simp; omega))) | (with_reducible refine Below.setCell ?_ ?_ _; rotate_left; focus (first | (simp; done) | (simp; omega)))))
           done)
    · have hgood : wh ≠ [] ∧ (pt = true → fr ≠ []) ∧ wh.length + fr.length ≤ 30 := Classical.not_not.1 hbad
      clear hbad
      obtain ⟨hg1, hg2, hg3⟩ := hgood
      have hfo := dec_yes HW.out HF.out HP.out HALL.out hg1 hg2 hg3
      have HFO := Lib.hid hfo
      clear hfo
      have h30 : ¬ ((30 : Int) < (wh.length : Int) + (fr.length : Int)) := by omega
      have hsz0 : 0 < (ByteArray.mk wh.toArray).size := by
        rw [size_mk]
        cases wh with
        | nil => exact absurd rfl hg1
        | cons x l => simp
      have h48 := head48 wh hsz0
      have H48 := Lib.hid h48
      clear h48
      have hpt : (pt = true ∧ ¬ fr = []) ∨ pt = false := by
        cases pt
        · exact .inr rfl
        · exact .inl ⟨rfl, hg2 rfl⟩
      clear hg2
      rcases hpt with ⟨hpt, hfr⟩ | hpt
      all_goals
        by_cases c1 : (1 : Int) < (wh.length : Int)
        · by_cases c2 : (((ByteArray.mk wh.toArray)[0].toNat : Int) == 48) = true
          · have hfin : isNumL s.data.toList = false := by
              rw [isNum_of HW.out HF.out HB.out HFO.out, H48.out, c2]; simp; omega
            have HFIN := Lib.hid hfin
            clear hfin
            go_wp2
            all_goals first
              | (exfalso; rename_i hh; simp [hg1, hfr] at hh; omega) | (exfalso; rename_i hh; simp [hg1] at hh; omega)
              | skip
            refine bodyPost_ret (v := .tuple #[.agg #[.bool b, .slice ad (wh.length + fr.length) cap, .int .i64 (fr.length : Int)], .bool false]) ?_ rfl ?_
            · simp [results, Tryz.results27, go_sem, cellSet, *]
            · refine ⟨b, _, _, by rw [HFIN.out], by first | exact ⟨_, _, _, rfl⟩ | exact HSV.out, ?_, fun h => by rw [HFIN.out] at h; cases h⟩
              refine hB.trans ?_
              (repeat (first | (with_reducible exact Below.refl _ _) | (with_reducible refine below_drewN ?_ _) | (with_reducible refine Below.drew ?_) | (with_reducible refine Below.alloc ?_ ?_ _; rotate_left; focus (first | (simp; done) | (simp; omega))) | (with_reducible refine Below.setCell ?_ ?_ _; rotate_left; focus (first | (simp; done) | (simp; omega)))))
          · have c2' : (((ByteArray.mk wh.toArray)[0].toNat : Int) == 48) = false := by simpa using c2
            have hfin : isNumL s.data.toList = !(b && (wh ++ fr).all (· == 48)) := by
              rw [isNum_of HW.out HF.out HB.out HFO.out, H48.out, c2']; simp
            have HFIN := Lib.hid hfin
            clear hfin c2
            cases b
            · have HR := HROW
              simp only [Bool.false_and, Bool.not_false] at HFIN
              go_wp2
              all_goals first
                | (exfalso; rename_i hh; simp [hg1, hfr] at hh; omega) | (exfalso; rename_i hh; simp [hg1] at hh; omega)
                | skip
              refine bodyPost_ret (v := .tuple #[.agg #[.bool false, .slice ad (wh.length + fr.length) cap, .int .i64 (fr.length : Int)], .bool true]) ?_ rfl ?_
              · simp [results, Tryz.results27, go_sem, cellSet, *]
              · refine ⟨_, _, _, by rw [HFIN.out], by first | exact ⟨_, _, _, rfl⟩ | exact HSV.out, ?_, ?_⟩
                · refine hB.trans ?_
                  (repeat (first | (with_reducible exact Below.refl _ _) | (with_reducible refine below_drewN ?_ _) | (with_reducible refine Below.drew ?_) | (with_reducible refine Below.alloc ?_ ?_ _; rotate_left; focus (first | (simp; done) | (simp; omega))) | (with_reducible refine Below.setCell ?_ ?_ _; rotate_left; focus (first | (simp; done) | (simp; omega)))))
                · intro _
                  rw [HW.out, HF.out]
                  refine ⟨HB.out.symm, rfl, ?_⟩
                  (repeat (with_reducible refine own_set ?_ hnb _))
                  exact HR.out
            · simp only [Bool.true_and] at HFIN
              go_wp2_with fail
              all_goals first
                | (exfalso; rename_i hh; simp [hg1, hfr] at hh; omega) | (exfalso; rename_i hh; simp [hg1] at hh; omega)
                | skip
              refine (zero_list (wh ++ fr) (wh.length + fr.length) (by simp) ad cap true _ _ (by simp; omega) (((bytesAt_own HROW.out (by simp)).set ?_ _).set ?_ _)).mono ?_
              · intro q hq he; subst hq; exact hnb (by simp [Value.ownBlock]; exact he.symm)
              · intro q hq he; subst hq; exact hnb (by simp [Value.ownBlock]; exact he.symm)
              rintro e w2 ⟨rfl, hb2⟩
              have hsz2 : w.heap.size + 1 ≤ w2.heap.size := by have := hb2.size; simp at this; omega
              have hB2 : Below w.heap.size w w2 := ((hB.setCell (p := ⟨w.heap.size, 1, none⟩) (Nat.le_refl _) _).setCell (p := ⟨w.heap.size, 2, none⟩) (Nat.le_refl _) _).trans (hb2.mono (by simp; omega))
              have hd0 : w2.cell? ⟨w.heap.size, 0, none⟩ = some (.bool true) := by rw [hb2.cell (by simp; omega)]; simp [cellSet, hc0]
              have hd1 : w2.cell? ⟨w.heap.size, 1, none⟩ = some (.slice ad (wh.length + fr.length) cap) := by rw [hb2.cell (by simp; omega)]; simp [cellSet, hc1]
              have hd2 : w2.cell? ⟨w.heap.size, 2, none⟩ = some (.int .i64 (fr.length : Int)) := by rw [hb2.cell (by simp; omega)]; simp [cellSet, hc2]
              have he0 : w2.frozen? ⟨w.heap.size, 0, none⟩ = false := by rw [hb2.frozen (by simp; omega)]; go_simp
              have he1 : w2.frozen? ⟨w.heap.size, 1, none⟩ = false := by rw [hb2.frozen (by simp; omega)]; go_simp
              have he2 : w2.frozen? ⟨w.heap.size, 2, none⟩ = false := by rw [hb2.frozen (by simp; omega)]; go_simp
              have HR := Lib.hid (own_below (own_set (own_set HROW.out hnb _) hnb _) hb2)
              clear hb2 hc0 hc1 hc2 hf0 hf1 hf2
              generalize (wh ++ fr).all (· == 48) = z at HFIN ⊢
              cases z
              · simp only [Bool.not_false] at HFIN
                go_wp2
                refine bodyPost_ret (v := .tuple #[.agg #[.bool true, .slice ad (wh.length + fr.length) cap, .int .i64 (fr.length : Int)], .bool true]) ?_ rfl ?_
                · simp [results, Tryz.results27, go_sem, cellSet, *]
                · refine ⟨_, _, _, by rw [HFIN.out], by first | exact ⟨_, _, _, rfl⟩ | exact HSV.out, ?_, ?_⟩
                  · refine hB2.trans ?_
                    (repeat (first | (with_reducible exact Below.refl _ _) | (with_reducible refine below_drewN ?_ _) | (with_reducible refine Below.drew ?_) | (with_reducible refine Below.alloc ?_ ?_ _; rotate_left; focus (first | (simp; done) | (simp; omega))) | (with_reducible refine Below.setCell ?_ ?_ _; rotate_left; focus (first | (simp; done) | (simp; omega)))))
                  · intro _
                    rw [HW.out, HF.out]
                    refine ⟨HB.out.symm, rfl, ?_⟩
                    (repeat (with_reducible refine own_set ?_ hnb _))
                    exact HR.out
              · simp only [Bool.not_true] at HFIN
                go_wp2
                refine bodyPost_ret (v := .tuple #[.agg #[.bool true, .slice ad (wh.length + fr.length) cap, .int .i64 (fr.length : Int)], .bool false]) ?_ rfl ?_
                · simp [results, Tryz.results27, go_sem, cellSet, *]
                · refine ⟨_, _, _, by rw [HFIN.out], by first | exact ⟨_, _, _, rfl⟩ | exact HSV.out, ?_, ?_⟩
                  · refine hB2.trans ?_
                    (repeat (first | (with_reducible exact Below.refl _ _) | (with_reducible refine below_drewN ?_ _) | (with_reducible refine Below.drew ?_) | (with_reducible refine Below.alloc ?_ ?_ _; rotate_left; focus (first | (simp; done) | (simp; omega))) | (with_reducible refine Below.setCell ?_ ?_ _; rotate_left; focus (first | (simp; done) | (simp; omega)))))
                  · intro h; rw [HFIN.out] at h; cases h
        · have hfin : isNumL s.data.toList = !(b && (wh ++ fr).all (· == 48)) := by
            rw [isNum_of HW.out HF.out HB.out HFO.out, decide_eq_false (by omega)]; simp
          have HFIN := Lib.hid hfin
          clear hfin
          cases b
          · have HR := HROW
            simp only [Bool.false_and, Bool.not_false] at HFIN
            go_wp2
            all_goals first
              | (exfalso; rename_i hh; simp [hg1, hfr] at hh; omega) | (exfalso; rename_i hh; simp [hg1] at hh; omega)
              | skip
            refine bodyPost_ret (v := .tuple #[.agg #[.bool false, .slice ad (wh.length + fr.length) cap, .int .i64 (fr.length : Int)], .bool true]) ?_ rfl ?_
            · simp [results, Tryz.results27, go_sem, cellSet, *]
            · refine ⟨_, _, _, by rw [HFIN.out], by first | exact ⟨_, _, _, rfl⟩ | exact HSV.out, ?_, ?_⟩
              · refine hB.trans ?_
                (repeat (first | (with_reducible exact Below.refl _ _) | (with_reducible refine below_drewN ?_ _) | (with_reducible refine Below.drew ?_) | (with_reducible refine Below.alloc ?_ ?_ _; rotate_left; focus (first | (simp; done) | (simp; omega))) | (with_reducible refine Below.setCell ?_ ?_ _; rotate_left; focus (first | (simp; done) | (simp; omega)))))
              · intro _
                rw [HW.out, HF.out]
                refine ⟨HB.out.symm, rfl, ?_⟩
                (repeat (with_reducible refine own_set ?_ hnb _))
                exact HR.out
          · simp only [Bool.true_and] at HFIN
            go_wp2_with fail
            all_goals first
              | (exfalso; rename_i hh; simp [hg1, hfr] at hh; omega) | (exfalso; rename_i hh; simp [hg1] at hh; omega)
              | skip
            refine (zero_list (wh ++ fr) (wh.length + fr.length) (by simp) ad cap true _ _ (by simp; omega) (((bytesAt_own HROW.out (by simp)).set ?_ _).set ?_ _)).mono ?_
            · intro q hq he; subst hq; exact hnb (by simp [Value.ownBlock]; exact he.symm)
            · intro q hq he; subst hq; exact hnb (by simp [Value.ownBlock]; exact he.symm)
            rintro e w2 ⟨rfl, hb2⟩
            have hsz2 : w.heap.size + 1 ≤ w2.heap.size := by have := hb2.size; simp at this; omega
            have hB2 : Below w.heap.size w w2 := ((hB.setCell (p := ⟨w.heap.size, 1, none⟩) (Nat.le_refl _) _).setCell (p := ⟨w.heap.size, 2, none⟩) (Nat.le_refl _) _).trans (hb2.mono (by simp; omega))
            have hd0 : w2.cell? ⟨w.heap.size, 0, none⟩ = some (.bool true) := by rw [hb2.cell (by simp; omega)]; simp [cellSet, hc0]
            have hd1 : w2.cell? ⟨w.heap.size, 1, none⟩ = some (.slice ad (wh.length + fr.length) cap) := by rw [hb2.cell (by simp; omega)]; simp [cellSet, hc1]
            have hd2 : w2.cell? ⟨w.heap.size, 2, none⟩ = some (.int .i64 (fr.length : Int)) := by rw [hb2.cell (by simp; omega)]; simp [cellSet, hc2]
            have he0 : w2.frozen? ⟨w.heap.size, 0, none⟩ = false := by rw [hb2.frozen (by simp; omega)]; go_simp
            have he1 : w2.frozen? ⟨w.heap.size, 1, none⟩ = false := by rw [hb2.frozen (by simp; omega)]; go_simp
            have he2 : w2.frozen? ⟨w.heap.size, 2, none⟩ = false := by rw [hb2.frozen (by simp; omega)]; go_simp
            have HR := Lib.hid (own_below (own_set (own_set HROW.out hnb _) hnb _) hb2)
            clear hb2 hc0 hc1 hc2 hf0 hf1 hf2
            generalize (wh ++ fr).all (· == 48) = z at HFIN ⊢
            cases z
            · simp only [Bool.not_false] at HFIN
              go_wp2
              refine bodyPost_ret (v := .tuple #[.agg #[.bool true, .slice ad (wh.length + fr.length) cap, .int .i64 (fr.length : Int)], .bool true]) ?_ rfl ?_
              · simp [results, Tryz.results27, go_sem, cellSet, *]
              · refine ⟨_, _, _, by rw [HFIN.out], by first | exact ⟨_, _, _, rfl⟩ | exact HSV.out, ?_, ?_⟩
                · refine hB2.trans ?_
                  (repeat (first | (with_reducible exact Below.refl _ _) | (with_reducible refine below_drewN ?_ _) | (with_reducible refine Below.drew ?_) | (with_reducible refine Below.alloc ?_ ?_ _; rotate_left; focus (first | (simp; done) | (simp; omega))) | (with_reducible refine Below.setCell ?_ ?_ _; rotate_left; focus (first | (simp; done) | (simp; omega)))))
                · intro _
                  rw [HW.out, HF.out]
                  refine ⟨HB.out.symm, rfl, ?_⟩
                  (repeat (with_reducible refine own_set ?_ hnb _))
                  exact HR.out
            · simp only [Bool.not_true] at HFIN
              go_wp2
              refine bodyPost_ret (v := .tuple #[.agg #[.bool true, .slice ad (wh.length + fr.length) cap, .int .i64 (fr.length : Int)], .bool false]) ?_ rfl ?_
              · simp [results, Tryz.results27, go_sem, cellSet, *]
              · refine ⟨_, _, _, by rw [HFIN.out], by first | exact ⟨_, _, _, rfl⟩ | exact HSV.out, ?_, ?_⟩
                · refine hB2.trans ?_
                  (repeat (first | (with_reducible exact Below.refl _ _) | (with_reducible refine below_drewN ?_ _) | (with_reducible refine Below.drew ?_) | (with_reducible refine Below.alloc ?_ ?_ _; rotate_left; focus (first | (simp; done) | (simp; omega))) | (with_reducible refine Below.setCell ?_ ?_ _; rotate_left; focus (first | (simp; done) | (simp; omega)))))
                · intro h; rw [HFIN.out] at h; cases h
  · rw [if_neg hall] at hv
    subst hv
    have hfin := dec_no HW.out HF.out HP.out HN.out (fun h => hall h.1)
    have HFIN := Lib.hid hfin
    clear hfin hall hown hlo
    go_wp2
    refine bodyPost_ret (v := .tuple #[.agg #[.bool b, .slice none 0 0, .int .i64 0], .bool false]) ?_ rfl ?_
    · simp [results, Tryz.results27, go_sem, *]
    · refine ⟨b, _, _, by rw [HFIN.out], by first | exact ⟨_, _, _, rfl⟩ | exact HSV.out, ?_, fun h => by rw [HFIN.out] at h; cases h⟩
      refine hB.trans ?_
      (repeat (first | (with_reducible exact Below.refl _ _) | (with_reducible refine below_drewN ?_ _) | (with_reducible refine Below.drew ?_) | (with_reducible refine Below.alloc ?_ ?_ _; rotate_left; focus (first | (simp; done) | (simp; omega))) | (with_reducible refine Below.setCell ?_ ?_ _; rotate_left; focus (first | (simp; done) | (simp; omega)))))
end Go.Proofs.YtpepgmccbkkaaaaGreatDoor
