import Derived.Test.YtpepgmccbkkaaaaGreatDoorJ4
import Derived.Deep.RegionHeld3

/- Regions that draw their order: what only reads is taken first, in an order that the prover names; what is left goes one by one. -/
namespace Go.Proofs.YtpepgmccbkkaaaaGreatDoor
open Go Go.RowKit

section
variable {P : Program} {ops : Array Oper} {Q : Exit → Act → World → Prop} {md : Region.Mode} {S : World → Prop}

/-- an operation of a list, so that it is laid bare by reckoning -/
def nthOp : List Oper → Nat → Option Oper
  | [], _ => none
  | o :: _, 0 => some o
  | _ :: l, n + 1 => nthOp l n

theorem nthOp_eq : ∀ (l : List Oper) (i : Nat), nthOp l i = l.toArray[i]?
  | [], i => by simp [nthOp]
  | o :: l, 0 => by simp [nthOp]
  | o :: l, n + 1 => by simpa [nthOp] using nthOp_eq l n

/-- the operations of a list are run one by one, each yields one value in every world that meets S -/
def takes (P : Program) (ops : Array Oper) (S : World → Prop) (K : Act → Prop) : List Nat → Act → Prop
  | [], a => K a
  | i :: is, a => ∃ o v, ops[i]? = some o ∧ YieldsIf P ops S o v a ∧ takes P ops S K is (a.put o.dst v)

/-- may they be taken so? -/
def takesB (md : Region.Mode) (ops : Array Oper) : List Nat → Array Bool → Bool
  | [], _ => true
  | i :: is, listed => Region.free md ops listed i && (Region.ready md ops listed).contains i && takesB md ops is (listed.setIfInBounds i true)

def markAll (listed : Array Bool) (is : List Nat) : Array Bool := is.foldl (fun l i => l.setIfInBounds i true) listed

theorem takes_yes {K : Act → Prop} {l : List Oper} {i : Nat} {is : List Nat} {a : Act} {o : Oper} {v : Value} (ho : nthOp l i = some o) (hw : Region.wanted o (yielded l.toArray a.tmps) = true)
    (hy : ∀ w, S w → (execOp a.eval o).run P w = .ok (.value v) w) (h : takes P l.toArray S K is (a.put o.dst v)) : takes P l.toArray S K (i :: is) a :=
  ⟨o, v, (nthOp_eq l i).symm.trans ho, .inl ⟨hw, hy⟩, h⟩

theorem takes_no {K : Act → Prop} {l : List Oper} {i : Nat} {is : List Nat} {a : Act} {o : Oper} (ho : nthOp l i = some o) (hw : Region.wanted o (yielded l.toArray a.tmps) = false)
    (h : takes P l.toArray S K is (a.put o.dst undef)) : takes P l.toArray S K (i :: is) a :=
  ⟨o, undef, (nthOp_eq l i).symm.trans ho, .inr ⟨hw, rfl⟩, h⟩

theorem takes_nil {K : Act → Prop} {a : Act} (h : K a) : takes P ops S K [] a := h

theorem wpAnyH_takes (hQ : ∀ c a d v w, Q (.panic c) (a.put d v) w → Q (.panic c) a w) (hs : Region.noSelect ops = true) {w : World} (hS : S w) {fuel : Nat} :
    ∀ (is : List Nat) (listed : Array Bool) (a : Act), takesB md ops is listed = true →
      takes P ops S (fun a' => wpAnyH P md ops Q S fuel (markAll listed is) a' w) is a → wpAnyH P md ops Q S (fuel + is.length) listed a w
  | [], _, _, _, h => h
  | i :: is, listed, a, hB, ⟨o, v, ho, hy, h⟩ => by
    simp only [takesB, Bool.and_eq_true] at hB
    rw [List.length_cons, ← Nat.add_assoc]
    exact wpAnyH_take ho hs hB.1.1 hB.1.2 (fun c a w => hQ c a o.dst v w) hy hS (wpAnyH_takes hQ hs hS is _ _ hB.2 h)

/-- the beginning: a region whose operations 'is' are taken first; 'fuel' are left -/
theorem wp_region_takes {id : Nat} {l : List Oper} {a : Act} {w : World} (S : World → Prop) (is : List Nat) (fuel : Nat) (hQ : ∀ c a d v w, Q (.panic c) (a.put d v) w → Q (.panic c) a w)
    (hm : P.follows .mixedOrders = true) (hn : (Region.noSelect l.toArray && decide (l.length = fuel + is.length) && takesB .any l.toArray is (Array.replicate l.toArray.size false)) = true) (hS : S w.drew)
    (h : takes P l.toArray S (fun a' => wpAnyH P .any l.toArray Q S fuel (markAll (Array.replicate l.toArray.size false) is) a' w.drew) is a) : (Code.region id l.toArray true).wp P Q a w := by
  simp only [Bool.and_eq_true, decide_eq_true_eq] at hn
  refine wp_region_held (S := S) hm ?_
  have h1 := wpAnyH_takes (Q := Q) (md := .any) (ops := l.toArray) hQ hn.1.1 hS is _ a hn.2 h
  have h2 : l.toArray.size = fuel + is.length := by simpa using hn.1.2
  rw [h2]
  rw [h2] at h1
  exact h1

/-- more are taken, behind an operation that was carried out -/
theorem wpAnyH_more {w : World} (is : List Nat) (fuel : Nat) {f : Nat} {listed : Array Bool} {a : Act} (hf : f = fuel + is.length) (hQ : ∀ c a d v w, Q (.panic c) (a.put d v) w → Q (.panic c) a w)
    (hs : Region.noSelect ops = true) (hB : takesB md ops is listed = true) (hS : S w)
    (h : takes P ops S (fun a' => wpAnyH P md ops Q S fuel (markAll listed is) a' w) is a) : wpAnyH P md ops Q S f listed a w := by
  subst hf
  exact wpAnyH_takes hQ hs hS is listed a hB h

/-- the only one that may come up now -/
theorem wpAnyH_only {l : List Oper} {w : World} (i : Nat) {fuel : Nat} {listed : Array Bool} {a : Act} {o : Oper} (hr : Region.ready md l.toArray listed = [i]) (ho : nthOp l i = some o)
    (h : ∀ K' : Act → World → Prop, Shut (∀ a w, S w → (S w → wpAnyH P md l.toArray Q S fuel (listed.setIfInBounds i true) a w) → K' a w) → if Region.wanted o (yielded l.toArray a.tmps) = true then Oper.wp P o a w K' Q else K' (a.put o.dst undef) w) :
    wpAnyH P md l.toArray Q S (fuel + 1) listed a w :=
  wpAnyH_ready hr (by simp) (AllReadyH.cons ((nthOp_eq l i).symm.trans ho) h AllReadyH.nil)
end
end Go.Proofs.YtpepgmccbkkaaaaGreatDoor

/- phrasesref.NumOf: the number that a text is. -/
namespace Go.Proofs.YtpepgmccbkkaaaaGreatDoor
open Go Go.RowKit
set_option maxRecDepth 10000

/-- a text behind its minus -/
def absL (l : List UInt8) : List UInt8 := if l.head? = some 45 then l.tail else l
def negL (l : List UInt8) : Bool := l.head? == some 45
def wholeL (l : List UInt8) : List UInt8 := (absL l).take ((absL l).idxOf 46)
def fracL (l : List UInt8) : List UInt8 := (absL l).drop ((absL l).idxOf 46 + 1)
def pointL (l : List UInt8) : Bool := decide ((absL l).idxOf 46 < (absL l).length)
/-- digits, a point with digits or none, not too many -/
def formL (l : List UInt8) : Bool := numeralsL (wholeL l) && (!(pointL l) || numeralsL (fracL l)) && decide ((wholeL l).length + (fracL l).length ≤ 30)
def isNumL (l : List UInt8) : Bool :=
  formL l && !(decide (1 < (wholeL l).length) && ((wholeL l).headD 0 == 48)) && !(negL l && (wholeL l ++ fracL l).all (· == 48))

def NumPost (l : List UInt8) (w : World) (e : Ending) (w' : World) : Prop :=
  e = .returned (.tuple #[.agg #[.bool (negL l), strv (wholeL l), strv (fracL l)], .bool (isNumL l)]) ∧ Below w.heap.size w w'

theorem notNum {l wh fr : List UInt8} {pt : Bool} (hW : wholeL l = wh) (hF : fracL l = fr) (hP : pointL l = pt) (h : ¬ (numeralsL wh = true ∧ (pt = true → numeralsL fr = true) ∧ wh.length + fr.length ≤ 30)) : isNumL l = false := by
  have hf : formL l = false := by
    rw [← Bool.not_eq_true]
    intro hf
    unfold formL at hf
    rw [hW, hF, hP] at hf
    simp only [Bool.and_eq_true, Bool.or_eq_true, Bool.not_eq_true', decide_eq_true_eq] at hf
    refine h ⟨hf.1.1, fun hp => ?_, hf.2⟩
    rcases hf.1.2 with h1 | h1
    · rw [h1] at hp; cases hp
    · exact h1
  simp [isNumL, hf]

theorem neg_cases (s : ByteArray) : (negL s.data.toList = true ∧ (0 < s.size ∧ ∀ h : 0 < s.size, ((s[0].toNat : Int) == 45) = true) ∧ (s.extract 1 s.size).data.toList = absL s.data.toList) ∨
      (negL s.data.toList = false ∧ (0 < s.size ∧ ∀ h : 0 < s.size, ((s[0].toNat : Int) == 45) = false) ∧ s.data.toList = absL s.data.toList) ∨
      (negL s.data.toList = false ∧ ¬ (0 < s.size) ∧ s.data.toList = absL s.data.toList) := by
  by_cases h0 : 0 < s.size
  · have h1 : s.data.toList.head? = some s[0] := by
      rw [List.head?_eq_getElem?, List.getElem?_eq_getElem (by simpa using h0), getElem_toList s 0 h0]
    have h2 := toNat_beq s[0] 45
    have h3 : ((45 : UInt8).toNat : Int) = 45 := rfl
    rw [h3] at h2
    by_cases h4 : s[0] = 45
    · refine .inl ⟨by simp [negL, h1, h4], ⟨h0, fun _ => by rw [h2]; simp [h4]⟩, ?_⟩
      rw [extract_drop]
      simp [absL, h1, h4]
    · refine .inr (.inl ⟨by simp [negL, h1, h4], ⟨h0, fun _ => by rw [h2]; simp [h4]⟩, ?_⟩)
      simp [absL, h1, h4]
  · have h1 : s.data.toList = [] := List.eq_nil_of_length_eq_zero (by rw [size_toList]; omega)
    exact .inr (.inr ⟨by simp [negL, h1], h0, by simp [absL, h1]⟩)

theorem isNum_of {l wh fr : List UInt8} {b : Bool} (hW : wholeL l = wh) (hF : fracL l = fr) (hB : negL l = b) (hfo : formL l = true) :
    isNumL l = (!(decide (1 < wh.length) && (wh.headD 0 == 48)) && !(b && (wh ++ fr).all (· == 48))) := by
  simp [isNumL, hfo, hW, hF, hB]

theorem head48 (wh : List UInt8) (h : 0 < (ByteArray.mk wh.toArray).size) : (wh.headD 0 == 48) = (((ByteArray.mk wh.toArray)[0].toNat : Int) == 48) := by
  have h1 := headD_eq ⟨wh.toArray⟩ h
  rw [toList_mk] at h1
  have h2 := toNat_beq (ByteArray.mk wh.toArray)[0] 48
  have h3 : ((48 : UInt8).toNat : Int) = 48 := rfl
  rw [h3] at h2
  rw [h1, h2]
  exact Bool.beq_eq_decide_eq _ _

theorem form_of {l wh fr : List UInt8} {pt : Bool} (hW : wholeL l = wh) (hF : fracL l = fr) (hP : pointL l = pt) (h1 : numeralsL wh = true) (h2 : pt = true → numeralsL fr = true) (h3 : ¬ ((30 : Int) < (wh.length : Int) + (fr.length : Int))) : formL l = true := by
  unfold formL
  rw [hW, hF, hP, h1]
  have h4 : wh.length + fr.length ≤ 30 := by omega
  cases pt
  · simp [h4]
  · simp [h4, h2 rfl]

theorem cut_list (s : ByteArray) (l : List UInt8) (hl : s.data.toList = l) (c : UInt8) (w : World) (hs : s.size ≤ 2000000000) :
    Calls Tryz.prog 22 #[.string s, .int .u8 c.toNat] w fun e w' =>
      e = .returned (.tuple #[strv (l.take (l.idxOf c)), strv (l.drop (l.idxOf c + 1)), .bool (decide (l.idxOf c < l.length))]) ∧ ∃ n, w' = w.drewN n := by
  subst hl
  have := cut_any s c w hs
  rw [← size_toList s] at this
  exact this

theorem numerals_list (l : List UInt8) (w : World) (hs : l.length ≤ 2000000000) :
    Calls Tryz.prog 23 #[strv l] w fun e w' => e = .returned (.bool (numeralsL l)) ∧ w = w' := by
  have := numerals_any ⟨l.toArray⟩ w (by rw [size_mk]; omega)
  rw [toList_mk] at this
  exact this

theorem nought_list (s : ByteArray) (l : List UInt8) (hl : s.data.toList = l) (w : World) (hs : s.size ≤ 2000000000) :
    Calls Tryz.prog 24 #[.string s] w fun e w' => e = .returned (.bool (l.all (· == 48))) ∧ w = w' := by
  subst hl
  exact nought_any s w (by omega)

set_option maxHeartbeats 4000000 in
theorem numOf_any (s : ByteArray) (w : World) (hs : s.size ≤ 1000000) :
    Calls Tryz.prog 15 #[.string s] w (NumPost s.data.toList w) := by
  have hlen : (absL s.data.toList).length ≤ s.size := by unfold absL; split <;> simp
  have hcase : (negL s.data.toList = true ∧ (0 < s.size ∧ ∀ h : 0 < s.size, ((s[0].toNat : Int) == 45) = true) ∧ (s.extract 1 s.size).data.toList = absL s.data.toList) ∨
      (negL s.data.toList = false ∧ (0 < s.size ∧ ∀ h : 0 < s.size, ((s[0].toNat : Int) == 45) = false) ∧ s.data.toList = absL s.data.toList) ∨
      (negL s.data.toList = false ∧ ¬ (0 < s.size) ∧ s.data.toList = absL s.data.toList) := neg_cases s
  generalize hal : absL s.data.toList = al at hcase hlen
  have Hal := Lib.hid hal
  clear hal
  rcases hcase with ⟨hneg, ⟨hp, h45⟩, htl⟩ | ⟨hneg, ⟨hp, h45⟩, htl⟩ | ⟨hneg, hp, htl⟩
  all_goals
    have Hneg := Lib.hid hneg
    have Htl := Lib.hid htl
    clear hneg htl
    go_enter Tryz.func15, Tryz.ntmps15
    go_wp2_with fail
    refine (cut_list _ al Htl.out 46 _ (by first | omega | (simp; omega))).mono ?_
    rintro e w' ⟨rfl, nq, rfl⟩
    have hwl : (al.take (al.idxOf 46)).length + (al.drop (al.idxOf 46 + 1)).length ≤ s.size := by simp; omega
    have hW : wholeL s.data.toList = al.take (al.idxOf 46) := by rw [wholeL, Hal.out]
    have hF : fracL s.data.toList = al.drop (al.idxOf 46 + 1) := by rw [fracL, Hal.out]
    have hP : pointL s.data.toList = decide (al.idxOf 46 < al.length) := by rw [pointL, Hal.out]
    generalize al.take (al.idxOf 46) = wh at hW hwl ⊢
    generalize al.drop (al.idxOf 46 + 1) = fr at hF hwl ⊢
    generalize decide (al.idxOf 46 < al.length) = pt at hP ⊢
    have HW := Lib.hid hW
    have HF := Lib.hid hF
    have HP := Lib.hid hP
    clear hW hF hP
    go_wp2_with fail
    refine (numerals_list wh _ (by omega)).mono ?_
    rintro e w' ⟨rfl, rfl⟩
    go_wp2_with fail
    refine (numerals_list fr _ (by omega)).mono ?_
    rintro e w' ⟨rfl, rfl⟩
    go_wp2_with fail
    refine (nought_list _ (wh ++ fr) (by rw [append_mk, toList_mk]) _ (by rw [append_mk, size_mk]; simp; omega)).mono ?_
    rintro e w' ⟨rfl, rfl⟩
    go_wp2_with fail
    all_goals try (with_reducible refine wp_gen ?_)
    all_goals first
      | intro W hW
      | (have hnn : ¬ (numeralsL wh = true ∧ (pt = true → numeralsL fr = true) ∧ wh.length + fr.length ≤ 30) := (by first | exact (fun h => absurd h.1 (by assumption)) | exact (fun h => absurd (h.2.1 (by assumption)) (by assumption)) | (intro h; have h3 : (30 : Int) < (wh.length : Int) + (fr.length : Int) := (by assumption); omega))
         refine bodyPost_ret (v := .tuple #[.agg #[.bool (negL s.data.toList), strv wh, strv fr], .bool false]) ?_ rfl ?_
         focus (simp [results, Tryz.results15, go_sem, Hneg.out])
         refine ⟨by rw [HW.out, HF.out, notNum HW.out HF.out HP.out hnn], ?_⟩
         (repeat (first | (with_reducible exact Below.refl _ _) | (with_reducible refine below_drewN ?_ _) | (with_reducible refine Below.drew ?_) | (with_reducible refine Below.alloc ?_ ?_ _; rotate_left; focus (first | (simp; done) | (simp; omega))) | (with_reducible refine Below.setCell ?_ ?_ _; rotate_left; focus (first | (simp; done) | (simp; omega)))))
         done)
    all_goals
      have hb : Below w.heap.size w W := by rw [hW]; (repeat (first | (with_reducible exact Below.refl _ _) | (with_reducible refine below_drewN ?_ _) | (with_reducible refine Below.drew ?_) | (with_reducible refine Below.alloc ?_ ?_ _; rotate_left; focus (first | (simp; done) | (simp; omega))) | (with_reducible refine Below.setCell ?_ ?_ _; rotate_left; focus (first | (simp; done) | (simp; omega)))))
      have hsz : W.heap.size = w.heap.size + 2 := by rw [hW]; simp
      have hx0 : W.cell? ⟨w.heap.size + 1, 0, none⟩ = some (.bool (negL s.data.toList)) := by rw [hW]; go_simp; simp [Hneg.out]
      have hx1 : W.cell? ⟨w.heap.size + 1, 1, none⟩ = some (strv wh) := by rw [hW]; go_simp
      have hx2 : W.cell? ⟨w.heap.size + 1, 2, none⟩ = some (strv fr) := by rw [hW]; go_simp
      have hr0 : W.cell? ⟨w.heap.size, 0, none⟩ = some (.bool false) := by rw [hW]; go_simp
      have hr1 : W.cell? ⟨w.heap.size, 1, none⟩ = some (strv []) := by rw [hW]; go_simp
      have hr2 : W.cell? ⟨w.heap.size, 2, none⟩ = some (strv []) := by rw [hW]; go_simp
      have hf0 : W.frozen? ⟨w.heap.size, 0, none⟩ = false := by rw [hW]; go_simp
      have hf1 : W.frozen? ⟨w.heap.size, 1, none⟩ = false := by rw [hW]; go_simp
      have hf2 : W.frozen? ⟨w.heap.size, 2, none⟩ = false := by rw [hW]; go_simp
      clear hW
      clear Hal Htl
      have hn1 : numeralsL wh = true := by assumption
      have hn2 : ¬ ((30 : Int) < (wh.length : Int) + (fr.length : Int)) := by omega
      have hpos : 0 < wh.length := by
        cases wh with
        | nil => simp [numeralsL] at hn1
        | cons x l => simp
      have hsz0 : 0 < (ByteArray.mk wh.toArray).size := by rw [size_mk]; exact hpos
      have hfo : formL s.data.toList = true := form_of HW.out HF.out HP.out hn1 (by first | exact fun _ => by assumption | exact fun h => absurd h (by assumption)) hn2
      have Hfo := Lib.hid hfo
      clear hfo
      have h48 := head48 wh hsz0
      have H48 := Lib.hid h48
      clear h48
      generalize hbq : negL s.data.toList = b at Hneg hx0
      have HB := Lib.hid hbq
      have hbv := Hneg.out
      clear hbq
      have hS0 : W.drew.cell? ⟨w.heap.size + 1, 0, none⟩ = some (.bool b) ∧ W.drew.cell? ⟨w.heap.size + 1, 1, none⟩ = some (strv wh) ∧ W.drew.cell? ⟨w.heap.size + 1, 2, none⟩ = some (strv fr) := ⟨hx0, hx1, hx2⟩
      by_cases c1 : (1 : Int) < (wh.length : Int)
      · by_cases c2 : (((ByteArray.mk wh.toArray)[0].toNat : Int) == 48) = true
        · have hfin : isNumL s.data.toList = false := by
            rw [isNum_of HW.out HF.out HB.out Hfo.out, H48.out, c2]; simp; omega
          have Hfin := Lib.hid hfin
          clear hfin
          refine wp_region_takes (fun W' : World => W'.cell? ⟨w.heap.size + 1, 0, none⟩ = some (.bool b) ∧ W'.cell? ⟨w.heap.size + 1, 1, none⟩ = some (strv wh) ∧ W'.cell? ⟨w.heap.size + 1, 2, none⟩ = some (strv fr))
            [0, 1, 2, 3, 4, 5, 6, 7, 8, 9, 10, 11, 12, 13, 14, 15, 16, 17] 2 (by intro _ _ d _ _ h; cases d <;> exact h) (by kernel_rfl) (by kernel_rfl) hS0 ?_
          (iterate 18 (first | (refine takes_yes (v := ?_) rfl (by rfl) ?_ ?_; rotate_left; (focus ((intro w' hS'; (try dsimp only at hS'); go_simp; try (with_reducible rfl)); done)); (try simp only [Act.put, List.setIfInBounds_toArray, List.set_cons_zero, List.set_cons_succ])) | (refine takes_no rfl (by rfl) ?_; (try simp only [Act.put, List.setIfInBounds_toArray, List.set_cons_zero, List.set_cons_succ]))))
          refine takes_nil ?_
          refine wpAnyH_only 18 (by kernel_rfl) rfl (fun K hK => ?_)
          go_simp
          refine hK.out _ _ ?_ (fun _ => ?_)
          · simp [*, World.cell?_setCell_far]
          clear hK K
          refine wpAnyH_only 19 (by kernel_rfl) rfl (fun K hK => ?_)
          go_simp
          refine hK.out _ _ ?_ (fun _ => ?_)
          · simp [*, World.cell?_setCell_far]
          clear hK K
          refine wpAnyH_done (by kernel_rfl) ?_ _
          go_wp2
          refine bodyPost_ret (v := .tuple #[.agg #[.bool b, strv wh, strv fr], .bool false]) ?_ rfl ?_
          · simp [results, Tryz.results15, go_sem, *]
          · refine ⟨by rw [HW.out, HF.out, HB.out, Hfin.out], ?_⟩
            refine hb.trans ?_
            (repeat (first | (with_reducible exact Below.refl _ _) | (with_reducible refine below_drewN ?_ _) | (with_reducible refine Below.drew ?_) | (with_reducible refine Below.alloc ?_ ?_ _; rotate_left; focus (first | (simp; done) | (simp; omega))) | (with_reducible refine Below.setCell ?_ ?_ _; rotate_left; focus (first | (simp; done) | (simp; omega)))))
        · have c2' : (((ByteArray.mk wh.toArray)[0].toNat : Int) == 48) = false := by simpa using c2
          have hfin : isNumL s.data.toList = !(b && (wh ++ fr).all (· == 48)) := by
            rw [isNum_of HW.out HF.out HB.out Hfo.out, H48.out, c2']; simp
          have Hfin := Lib.hid hfin
          clear hfin c2
          refine wp_region_takes (fun W' : World => W'.cell? ⟨w.heap.size + 1, 0, none⟩ = some (.bool b) ∧ W'.cell? ⟨w.heap.size + 1, 1, none⟩ = some (strv wh) ∧ W'.cell? ⟨w.heap.size + 1, 2, none⟩ = some (strv fr))
            [0, 1, 2, 3, 4, 5, 6, 7, 8, 9, 10, 11, 12, 13, 14, 15, 16, 17] 2 (by intro _ _ d _ _ h; cases d <;> exact h) (by kernel_rfl) (by kernel_rfl) hS0 ?_
          (iterate 18 (first | (refine takes_yes (v := ?_) rfl (by rfl) ?_ ?_; rotate_left; (focus ((intro w' hS'; (try dsimp only at hS'); go_simp; try (with_reducible rfl)); done)); (try simp only [Act.put, List.setIfInBounds_toArray, List.set_cons_zero, List.set_cons_succ])) | (refine takes_no rfl (by rfl) ?_; (try simp only [Act.put, List.setIfInBounds_toArray, List.set_cons_zero, List.set_cons_succ]))))
          refine takes_nil ?_
          refine wpAnyH_only 18 (by kernel_rfl) rfl (fun K hK => ?_)
          go_simp
          refine hK.out _ _ ?_ (fun _ => ?_)
          · simp [*, World.cell?_setCell_far]
          clear hK K
          refine wpAnyH_only 19 (by kernel_rfl) rfl (fun K hK => ?_)
          go_simp
          refine hK.out _ _ ?_ (fun _ => ?_)
          · simp [*, World.cell?_setCell_far]
          clear hK K
          refine wpAnyH_done (by kernel_rfl) ?_ _
          go_wp2
          refine bodyPost_ret (v := .tuple #[.agg #[.bool b, strv wh, strv fr], .bool (!(b && (wh ++ fr).all (· == 48)))]) ?_ rfl ?_
          · simp [results, Tryz.results15, go_sem, *]
          · refine ⟨by rw [HW.out, HF.out, HB.out, Hfin.out], ?_⟩
            refine hb.trans ?_
            (repeat (first | (with_reducible exact Below.refl _ _) | (with_reducible refine below_drewN ?_ _) | (with_reducible refine Below.drew ?_) | (with_reducible refine Below.alloc ?_ ?_ _; rotate_left; focus (first | (simp; done) | (simp; omega))) | (with_reducible refine Below.setCell ?_ ?_ _; rotate_left; focus (first | (simp; done) | (simp; omega)))))
      · have hfin : isNumL s.data.toList = !(b && (wh ++ fr).all (· == 48)) := by
          rw [isNum_of HW.out HF.out HB.out Hfo.out, decide_eq_false (by omega)]; simp
        have Hfin := Lib.hid hfin
        clear hfin
        refine wp_region_takes (fun W' : World => W'.cell? ⟨w.heap.size + 1, 0, none⟩ = some (.bool b) ∧ W'.cell? ⟨w.heap.size + 1, 1, none⟩ = some (strv wh) ∧ W'.cell? ⟨w.heap.size + 1, 2, none⟩ = some (strv fr))
          [0, 1, 2, 3, 4, 5, 6, 7, 8, 9, 10, 11, 12, 13, 14, 15, 16, 17] 2 (by intro _ _ d _ _ h; cases d <;> exact h) (by kernel_rfl) (by kernel_rfl) hS0 ?_
        (iterate 18 (first | (refine takes_yes (v := ?_) rfl (by rfl) ?_ ?_; rotate_left; (focus ((intro w' hS'; (try dsimp only at hS'); go_simp; try (with_reducible rfl)); done)); (try simp only [Act.put, List.setIfInBounds_toArray, List.set_cons_zero, List.set_cons_succ])) | (refine takes_no rfl (by rfl) ?_; (try simp only [Act.put, List.setIfInBounds_toArray, List.set_cons_zero, List.set_cons_succ]))))
        refine takes_nil ?_
        refine wpAnyH_only 18 (by kernel_rfl) rfl (fun K hK => ?_)
        go_simp
        refine hK.out _ _ ?_ (fun _ => ?_)
        · simp [*, World.cell?_setCell_far]
        clear hK K
        refine wpAnyH_only 19 (by kernel_rfl) rfl (fun K hK => ?_)
        go_simp
        refine hK.out _ _ ?_ (fun _ => ?_)
        · simp [*, World.cell?_setCell_far]
        clear hK K
        refine wpAnyH_done (by kernel_rfl) ?_ _
        go_wp2
        refine bodyPost_ret (v := .tuple #[.agg #[.bool b, strv wh, strv fr], .bool (!(b && (wh ++ fr).all (· == 48)))]) ?_ rfl ?_
        · simp [results, Tryz.results15, go_sem, *]
        · refine ⟨by rw [HW.out, HF.out, HB.out, Hfin.out], ?_⟩
          refine hb.trans ?_
          (repeat (first | (with_reducible exact Below.refl _ _) | (with_reducible refine below_drewN ?_ _) | (with_reducible refine Below.drew ?_) | (with_reducible refine Below.alloc ?_ ?_ _; rotate_left; focus (first | (simp; done) | (simp; omega))) | (with_reducible refine Below.setCell ?_ ?_ _; rotate_left; focus (first | (simp; done) | (simp; omega)))))
end Go.Proofs.YtpepgmccbkkaaaaGreatDoor

/- decimal.Parse: the number that a text says. -/
namespace Go.Proofs.YtpepgmccbkkaaaaGreatDoor
open Go Go.RowKit
set_option maxRecDepth 10000

theorem slice_of {w : World} {base size n : Nat} {e : TypeId} {v : Value} {xs : List Value} (h : w.ownsRow base e size v n xs) : ∃ a m k, v = .slice a m k := by
  obtain ⟨a, cap, hv⟩ := own_slice h
  exact ⟨a, n, cap, hv⟩

/-- what decimal.Parse gives back -/
def DecPost (l : List UInt8) (w : World) (e : Ending) (w' : World) : Prop :=
  ∃ (b : Bool) (v : Value) (k : Int), e = .returned (.tuple #[.agg #[.bool b, v, .int .i64 k], .bool (isNumL l)]) ∧ (∃ a n k', v = .slice a n k') ∧ Below w.heap.size w w' ∧
    (isNumL l = true → b = negL l ∧ k = ((fracL l).length : Int) ∧ w'.ownsRow w.heap.size 5 1 v ((wholeL l).length + (fracL l).length) (digs (wholeL l ++ fracL l)))

theorem cutDot_any (s : ByteArray) (l : List UInt8) (hl : s.data.toList = l) (w : World) (hs : s.size ≤ 1000000) :
    Calls Tryz.prog 39 #[.string s, .string ⟨#[46]⟩] w fun e w' =>
      e = .returned (.tuple #[strv (l.take (l.idxOf 46)), strv (l.drop (l.idxOf 46 + 1)), .bool (decide (l.idxOf 46 < l.length))]) ∧ ∃ n, w' = w.drewN n := by
  subst hl
  go_enter Tryz.func39, Tryz.ntmps39
  go_wp2_with fail
  refine (liteCut_any s 46 _ hs).mono ?_
  rintro e w' ⟨rfl, n, rfl⟩
  go_wp2
  go_ret3
  exact ⟨by rw [size_toList]; rfl, n, rfl⟩

theorem prefix_eq (l : List UInt8) : Lib.trimPrefix l [45] = absL l ∧ Lib.hasPrefix l [45] = negL l := by
  cases l with
  | nil => exact ⟨rfl, rfl⟩
  | cons x l =>
    by_cases h : x = 45
    · subst h; simp [Lib.trimPrefix, Lib.hasPrefix, absL, negL, List.isPrefixOf]
    · have h2 : ((45 : UInt8) == x) = false := by rw [beq_eq_false_iff_ne]; exact fun e => h e.symm
      simp [Lib.trimPrefix, Lib.hasPrefix, absL, negL, List.isPrefixOf, h, h2]

theorem own_mono {w : World} {base base' size n : Nat} {e : TypeId} {v : Value} {xs : List Value} (h : w.ownsRow base e size v n xs) (hb : base' ≤ base) : w.ownsRow base' e size v n xs :=
  ⟨h.1, h.2.imp id fun ⟨g, cap, cur, a, b, c⟩ => ⟨g, cap, cur, a, Nat.le_trans hb b, c⟩⟩

/-- digits' values -/
def vals (l : List UInt8) : List Int := l.map fun c => (c.toNat : Int) - 48

theorem zero_eq (l : List UInt8) : (!(vals l).any (· != 0)) = l.all (· == 48) := by
  induction l with
  | nil => rfl
  | cons c l ih =>
    have h : (((c.toNat : Int) - 48) != 0) = !(c == 48) := by
      have h2 := toNat_beq c 48
      have h3 : ((48 : UInt8).toNat : Int) = 48 := rfl
      rw [h3] at h2
      by_cases h4 : c = 48
      · subst h4; rfl
      · have h5 : (c == 48) = false := by simpa using h4
        rw [h5, Bool.not_false, bne_iff_ne]
        intro h6
        have h7 : ((c.toNat : Int) == 48) = true := by rw [beq_iff_eq]; omega
        rw [h7] at h2
        simp [h4] at h2
    simp only [vals, List.map_cons, List.any_cons, List.all_cons] at ih ⊢
    rw [h, ← ih]
    simp

theorem bytesAt_own {w : World} {B n cap : Nat} {ad : Option Addr} {l : List UInt8} (h : w.ownsRow B 5 1 (.slice ad n cap) n (digs l)) (hn : n = l.length) : BytesAt w ad (vals l) := by
  subst hn
  intro j hj
  have hj2 : j < l.length := by simpa [vals] using hj
  obtain ⟨g, cap', hv, _, _, hc⟩ := own_some h (by omega)
  cases hv
  refine ⟨⟨g, 0, none⟩, rfl, ?_⟩
  have := hc j (by omega)
  rw [addr_add0, this]
  simp [digs, vals, hj2]

theorem BytesAt.set {w : World} {a : Option Addr} {l : List Int} (h : BytesAt w a l) {p : Addr} (hp : ∀ b, a = some b → b.block ≠ p.block) (u : Value) : BytesAt (w.setCell p u) a l := fun j hj => by
  obtain ⟨b, hb, hc⟩ := h j hj
  refine ⟨b, hb, ?_⟩
  rw [← hc]
  exact World.cell?_of_block (Below.heap_setCell _ _ _ _ (by rw [addr_add]; exact hp b hb))

theorem zero_list (l : List UInt8) (n : Nat) (hn : n = l.length) (a : Option Addr) (c : Nat) (b : Bool) (sc : Int) (w : World) (hl : l.length ≤ 1000000) (hc : BytesAt w a (vals l)) :
    Calls Tryz.prog 41 #[.agg #[.bool b, .slice a n c, .int .i64 sc]] w fun e w' => e = .returned (.bool (l.all (· == 48))) ∧ Below w.heap.size w w' := by
  subst hn
  have := zero_any (vals l) a c b sc w (by simpa [vals] using hl) hc
  rw [zero_eq] at this
  simpa [vals] using this

theorem own_set {w : World} {base size n : Nat} {e : TypeId} {v : Value} {xs : List Value} (h : w.ownsRow base e size v n xs) {p : Addr} (hp : some p.block ≠ v.ownBlock) (u : Value) : (w.setCell p u).ownsRow base e size v n xs :=
  h.kept (row := some p.block) ⟨rfl, rfl, rfl, by simp, fun i _ hne => Below.heap_setCell _ _ _ _ (fun he => hne (by rw [he]))⟩ (.inr (fun he => hp he.symm))

theorem own_below {w w' : World} {base size n : Nat} {e : TypeId} {v : Value} {xs : List Value} (h : w.ownsRow base e size v n xs) (hb : Below w.heap.size w w') : w'.ownsRow base e size v n xs :=
  h.kept (row := none) ⟨hb.os, hb.tape, hb.output, hb.size, fun i hi _ => hb.block i hi⟩ (by cases v.ownBlock <;> simp)

theorem dec_no {l wh fr : List UInt8} {pt : Bool} (hW : wholeL l = wh) (hF : fracL l = fr) (hP : pointL l = pt) (hN : pt = false → fr = []) (h : ¬ ((wh ++ fr).all isDig = true ∧ wh ≠ [] ∧ (pt = true → fr ≠ []) ∧ wh.length + fr.length ≤ 30)) : isNumL l = false := by
  refine notNum hW hF hP fun ⟨h1, h2, h3⟩ => h ⟨?_, ?_, ?_, h3⟩
  · simp only [numeralsL, Bool.and_eq_true] at h1 h2
    rw [List.all_append, h1.1]
    cases pt with
    | false => rw [hN rfl]; rfl
    | true => simp [(h2 rfl).1]
  · intro e; subst e; simp [numeralsL] at h1
  · intro hp e; subst e; simp [numeralsL] at h2; exact absurd hp (by simpa using h2)

theorem dec_yes {l wh fr : List UInt8} {pt : Bool} (hW : wholeL l = wh) (hF : fracL l = fr) (hP : pointL l = pt) (h1 : (wh ++ fr).all isDig = true) (h2 : wh ≠ []) (h3 : pt = true → fr ≠ []) (h4 : wh.length + fr.length ≤ 30) : formL l = true := by
  rw [List.all_append, Bool.and_eq_true] at h1
  refine form_of hW hF hP (by simp [numeralsL, h1.1, h2]) (fun hp => by simp [numeralsL, h1.2, h3 hp]) (by omega)

set_option maxHeartbeats 4000000 in
theorem parse_any (s : ByteArray) (w : World) (hs : s.size ≤ 1000000) :
    Calls Tryz.prog 27 #[.string s] w (DecPost s.data.toList w) := by
  have hlen : (absL s.data.toList).length ≤ s.size := by unfold absL; split <;> simp
  have hp := prefix_eq s.data.toList
  have HP0 := Lib.hid hp
  generalize hal : absL s.data.toList = al at hlen
  have Hal := Lib.hid hal
  clear hal hp
  go_enter Tryz.func27, Tryz.ntmps27
  go_wp2_with fail
  refine (Tryz.strings_CutPrefix s _ _).mono ?_
  rintro e w' ⟨rfl, rfl⟩
  have hq1 : Lib.trimPrefix s.data.toList [45] = al := HP0.out.1.trans Hal.out
  have hq2 := HP0.out.2
  rw [show ({ data := #[45] } : ByteArray).data.toList = [45] from rfl, hq1, hq2]
  clear hq1 hq2
  generalize hbq : negL s.data.toList = b
  have HB := Lib.hid hbq
  clear hbq
  go_wp2_with fail
  refine (cutDot_any _ al (toList_mk al) _ (by rw [size_mk]; omega)).mono ?_
  rintro e w' ⟨rfl, nq, rfl⟩
  have hwl : (al.take (al.idxOf 46)).length + (al.drop (al.idxOf 46 + 1)).length ≤ s.size := by simp; omega
  have hW : wholeL s.data.toList = al.take (al.idxOf 46) := by rw [wholeL, Hal.out]
  have hF : fracL s.data.toList = al.drop (al.idxOf 46 + 1) := by rw [fracL, Hal.out]
  have hP : pointL s.data.toList = decide (al.idxOf 46 < al.length) := by rw [pointL, Hal.out]
  have hN : decide (al.idxOf 46 < al.length) = false → al.drop (al.idxOf 46 + 1) = [] := by
    intro h; simp at h; exact List.drop_of_length_le (by omega)
  generalize al.take (al.idxOf 46) = wh at hW hwl ⊢
  generalize al.drop (al.idxOf 46 + 1) = fr at hF hwl hN ⊢
  generalize decide (al.idxOf 46 < al.length) = pt at hP hN ⊢
  have HW := Lib.hid hW
  have HF := Lib.hid hF
  have HP := Lib.hid hP
  have HN := Lib.hid hN
  clear hW hF hP hN
  go_wp2_with fail
  refine (values_any _ _ (by first | (rw [append_mk, size_mk]; simp; omega) | simp; omega)).mono ?_
  rw [append_mk, toList_mk]
  rintro e w' ⟨hv, hb⟩
  have hsz : w.heap.size + 1 ≤ w'.heap.size := by have := hb.size; simpa using this
  have hB : Below w.heap.size w w' := (below_drewN ((Below.refl _ _).alloc (Nat.le_refl _) _) nq).trans (hb.mono (by simp))
  have hc0 : w'.cell? ⟨w.heap.size, 0, none⟩ = some (.bool b) := by rw [hb.cell (by simp)]; go_simp
  have hc1 : w'.cell? ⟨w.heap.size, 1, none⟩ = some (.slice none 0 0) := by rw [hb.cell (by simp)]; go_simp
  have hc2 : w'.cell? ⟨w.heap.size, 2, none⟩ = some (.int .i64 0) := by rw [hb.cell (by simp)]; go_simp
  have hf0 : w'.frozen? ⟨w.heap.size, 0, none⟩ = false := by rw [hb.frozen (by simp)]; go_simp
  have hf1 : w'.frozen? ⟨w.heap.size, 1, none⟩ = false := by rw [hb.frozen (by simp)]; go_simp
  have hf2 : w'.frozen? ⟨w.heap.size, 2, none⟩ = false := by rw [hb.frozen (by simp)]; go_simp
  have hown : ∀ v, w'.ownsRow ((w.alloc (.cells #[.bool b, .slice none 0 0, .int .i64 0] 65)).drewN nq).heap.size 5 1 v (wh ++ fr).length (digs (wh ++ fr)) → w'.ownsRow w.heap.size 5 1 v (wh ++ fr).length (digs (wh ++ fr)) := fun v h => own_mono h (by simp)
  have hlo : ∀ v, w'.ownsRow ((w.alloc (.cells #[.bool b, .slice none 0 0, .int .i64 0] 65)).drewN nq).heap.size 5 1 v (wh ++ fr).length (digs (wh ++ fr)) → some w.heap.size ≠ v.ownBlock := fun v h e => by have := (World.ownsRow.lt h _ e.symm).1; simp at this; omega
  clear hb
  by_cases hall : (wh ++ fr).all isDig = true
  · rw [if_pos hall] at hv
    obtain ⟨v, rfl, hrow⟩ := hv
    have HSV := Lib.hid (slice_of hrow)
    have hrow2 := hown v hrow
    have hnb := hlo v hrow
    clear hown hlo hrow
    obtain ⟨ad, cap, rfl⟩ := own_slice hrow2
    have HALL := Lib.hid hall
    clear hall
    have hln : (wh ++ fr).length = wh.length + fr.length := by simp
    rw [hln] at hrow2 hnb ⊢
    have HROW := Lib.hid hrow2
    clear hln hrow2
    by_cases hbad : ¬ (wh ≠ [] ∧ (pt = true → fr ≠ []) ∧ wh.length + fr.length ≤ 30)
    · have hfin := dec_no HW.out HF.out HP.out HN.out (fun h => hbad h.2)
      have HFIN := Lib.hid hfin
      clear hfin
      go_wp2
      all_goals first
        | (exfalso; refine hbad ⟨by assumption, ?_, ?_⟩ <;> first | (intro h; contradiction) | (intro _; assumption) | omega)
        | (refine bodyPost_ret (v := .tuple #[.agg #[.bool b, .slice none 0 0, .int .i64 0], .bool false]) ?_ rfl ?_
           focus (simp [results, Tryz.results27, go_sem, *])
           refine ⟨b, _, _, by rw [HFIN.out], by first | exact ⟨_, _, _, rfl⟩ | exact HSV.out, ?_, fun h => by rw [HFIN.out] at h; cases h⟩
           refine hB.trans ?_
           (repeat (first | (with_reducible exact Below.refl _ _) | (with_reducible refine below_drewN ?_ _) | (with_reducible refine Below.drew ?_) | (with_reducible refine Below.alloc ?_ ?_ _; rotate_left; focus (first | (simp; done) | (simp; omega))) | (with_reducible refine Below.setCell ?_ ?_ _; rotate_left; focus (first | (simp; done) | (simp; omega)))))
           done)
    · have hgood : wh ≠ [] ∧ (pt = true → fr ≠ []) ∧ wh.length + fr.length ≤ 30 := Classical.not_not.1 hbad
      clear hbad
      obtain ⟨hg1, hg2, hg3⟩ := hgood
      have hfo := dec_yes HW.out HF.out HP.out HALL.out hg1 hg2 hg3
      have HFO := Lib.hid hfo
      clear hfo
      have h30 : ¬ ((30 : Int) < (wh.length : Int) + (fr.length : Int)) := by omega
      have hsz0 : 0 < (ByteArray.mk wh.toArray).size := by
        rw [size_mk]
        cases wh with
        | nil => exact absurd rfl hg1
        | cons x l => simp
      have h48 := head48 wh hsz0
      have H48 := Lib.hid h48
      clear h48
      have hpt : (pt = true ∧ ¬ fr = []) ∨ pt = false := by
        cases pt
        · exact .inr rfl
        · exact .inl ⟨rfl, hg2 rfl⟩
      clear hg2
      rcases hpt with ⟨hpt, hfr⟩ | hpt
      all_goals
        by_cases c1 : (1 : Int) < (wh.length : Int)
        · by_cases c2 : (((ByteArray.mk wh.toArray)[0].toNat : Int) == 48) = true
          · have hfin : isNumL s.data.toList = false := by
              rw [isNum_of HW.out HF.out HB.out HFO.out, H48.out, c2]; simp; omega
            have HFIN := Lib.hid hfin
            clear hfin
            go_wp2
            all_goals first
              | (exfalso; rename_i hh; simp [hg1, hfr] at hh; omega) | (exfalso; rename_i hh; simp [hg1] at hh; omega)
              | skip
            refine bodyPost_ret (v := .tuple #[.agg #[.bool b, .slice ad (wh.length + fr.length) cap, .int .i64 (fr.length : Int)], .bool false]) ?_ rfl ?_
            · simp [results, Tryz.results27, go_sem, cellSet, *]
            · refine ⟨b, _, _, by rw [HFIN.out], by first | exact ⟨_, _, _, rfl⟩ | exact HSV.out, ?_, fun h => by rw [HFIN.out] at h; cases h⟩
              refine hB.trans ?_
              (repeat (first | (with_reducible exact Below.refl _ _) | (with_reducible refine below_drewN ?_ _) | (with_reducible refine Below.drew ?_) | (with_reducible refine Below.alloc ?_ ?_ _; rotate_left; focus (first | (simp; done) | (simp; omega))) | (with_reducible refine Below.setCell ?_ ?_ _; rotate_left; focus (first | (simp; done) | (simp; omega)))))
          · have c2' : (((ByteArray.mk wh.toArray)[0].toNat : Int) == 48) = false := by simpa using c2
            have hfin : isNumL s.data.toList = !(b && (wh ++ fr).all (· == 48)) := by
              rw [isNum_of HW.out HF.out HB.out HFO.out, H48.out, c2']; simp
            have HFIN := Lib.hid hfin
            clear hfin c2
            cases b
            · have HR := HROW
              simp only [Bool.false_and, Bool.not_false] at HFIN
              go_wp2
              all_goals first
                | (exfalso; rename_i hh; simp [hg1, hfr] at hh; omega) | (exfalso; rename_i hh; simp [hg1] at hh; omega)
                | skip
              refine bodyPost_ret (v := .tuple #[.agg #[.bool false, .slice ad (wh.length + fr.length) cap, .int .i64 (fr.length : Int)], .bool true]) ?_ rfl ?_
              · simp [results, Tryz.results27, go_sem, cellSet, *]
              · refine ⟨_, _, _, by rw [HFIN.out], by first | exact ⟨_, _, _, rfl⟩ | exact HSV.out, ?_, ?_⟩
                · refine hB.trans ?_
                  (repeat (first | (with_reducible exact Below.refl _ _) | (with_reducible refine below_drewN ?_ _) | (with_reducible refine Below.drew ?_) | (with_reducible refine Below.alloc ?_ ?_ _; rotate_left; focus (first | (simp; done) | (simp; omega))) | (with_reducible refine Below.setCell ?_ ?_ _; rotate_left; focus (first | (simp; done) | (simp; omega)))))
                · intro _
                  rw [HW.out, HF.out]
                  refine ⟨HB.out.symm, rfl, ?_⟩
                  (repeat (with_reducible refine own_set ?_ hnb _))
                  exact HR.out
            · simp only [Bool.true_and] at HFIN
              go_wp2_with fail
              all_goals first
                | (exfalso; rename_i hh; simp [hg1, hfr] at hh; omega) | (exfalso; rename_i hh; simp [hg1] at hh; omega)
                | skip
              refine (zero_list (wh ++ fr) (wh.length + fr.length) (by simp) ad cap true _ _ (by simp; omega) (((bytesAt_own HROW.out (by simp)).set ?_ _).set ?_ _)).mono ?_
              · intro q hq he; subst hq; exact hnb (by simp [Value.ownBlock]; exact he.symm)
              · intro q hq he; subst hq; exact hnb (by simp [Value.ownBlock]; exact he.symm)
              rintro e w2 ⟨rfl, hb2⟩
              have hsz2 : w.heap.size + 1 ≤ w2.heap.size := by have := hb2.size; simp at this; omega
              have hB2 : Below w.heap.size w w2 := ((hB.setCell (p := ⟨w.heap.size, 1, none⟩) (Nat.le_refl _) _).setCell (p := ⟨w.heap.size, 2, none⟩) (Nat.le_refl _) _).trans (hb2.mono (by simp; omega))
              have hd0 : w2.cell? ⟨w.heap.size, 0, none⟩ = some (.bool true) := by rw [hb2.cell (by simp; omega)]; simp [cellSet, hc0]
              have hd1 : w2.cell? ⟨w.heap.size, 1, none⟩ = some (.slice ad (wh.length + fr.length) cap) := by rw [hb2.cell (by simp; omega)]; simp [cellSet, hc1]
              have hd2 : w2.cell? ⟨w.heap.size, 2, none⟩ = some (.int .i64 (fr.length : Int)) := by rw [hb2.cell (by simp; omega)]; simp [cellSet, hc2]
              have he0 : w2.frozen? ⟨w.heap.size, 0, none⟩ = false := by rw [hb2.frozen (by simp; omega)]; go_simp
              have he1 : w2.frozen? ⟨w.heap.size, 1, none⟩ = false := by rw [hb2.frozen (by simp; omega)]; go_simp
              have he2 : w2.frozen? ⟨w.heap.size, 2, none⟩ = false := by rw [hb2.frozen (by simp; omega)]; go_simp
              have HR := Lib.hid (own_below (own_set (own_set HROW.out hnb _) hnb _) hb2)
              clear hb2 hc0 hc1 hc2 hf0 hf1 hf2
              generalize (wh ++ fr).all (· == 48) = z at HFIN ⊢
              cases z
              · simp only [Bool.not_false] at HFIN
                go_wp2
                refine bodyPost_ret (v := .tuple #[.agg #[.bool true, .slice ad (wh.length + fr.length) cap, .int .i64 (fr.length : Int)], .bool true]) ?_ rfl ?_
                · simp [results, Tryz.results27, go_sem, cellSet, *]
                · refine ⟨_, _, _, by rw [HFIN.out], by first | exact ⟨_, _, _, rfl⟩ | exact HSV.out, ?_, ?_⟩
                  · refine hB2.trans ?_
                    (repeat (first | (with_reducible exact Below.refl _ _) | (with_reducible refine below_drewN ?_ _) | (with_reducible refine Below.drew ?_) | (with_reducible refine Below.alloc ?_ ?_ _; rotate_left; focus (first | (simp; done) | (simp; omega))) | (with_reducible refine Below.setCell ?_ ?_ _; rotate_left; focus (first | (simp; done) | (simp; omega)))))
                  · intro _
                    rw [HW.out, HF.out]
                    refine ⟨HB.out.symm, rfl, ?_⟩
                    (repeat (with_reducible refine own_set ?_ hnb _))
                    exact HR.out
              · simp only [Bool.not_true] at HFIN
                go_wp2
                refine bodyPost_ret (v := .tuple #[.agg #[.bool true, .slice ad (wh.length + fr.length) cap, .int .i64 (fr.length : Int)], .bool false]) ?_ rfl ?_
                · simp [results, Tryz.results27, go_sem, cellSet, *]
                · refine ⟨_, _, _, by rw [HFIN.out], by first | exact ⟨_, _, _, rfl⟩ | exact HSV.out, ?_, ?_⟩
                  · refine hB2.trans ?_
                    (repeat (first | (with_reducible exact Below.refl _ _) | (with_reducible refine below_drewN ?_ _) | (with_reducible refine Below.drew ?_) | (with_reducible refine Below.alloc ?_ ?_ _; rotate_left; focus (first | (simp; done) | (simp; omega))) | (with_reducible refine Below.setCell ?_ ?_ _; rotate_left; focus (first | (simp; done) | (simp; omega)))))
                  · intro h; rw [HFIN.out] at h; cases h
        · have hfin : isNumL s.data.toList = !(b && (wh ++ fr).all (· == 48)) := by
            rw [isNum_of HW.out HF.out HB.out HFO.out, decide_eq_false (by omega)]; simp
          have HFIN := Lib.hid hfin
          clear hfin
          cases b
          · have HR := HROW
            simp only [Bool.false_and, Bool.not_false] at HFIN
            go_wp2
            all_goals first
              | (exfalso; rename_i hh; simp [hg1, hfr] at hh; omega) | (exfalso; rename_i hh; simp [hg1] at hh; omega)
              | skip
            refine bodyPost_ret (v := .tuple #[.agg #[.bool false, .slice ad (wh.length + fr.length) cap, .int .i64 (fr.length : Int)], .bool true]) ?_ rfl ?_
            · simp [results, Tryz.results27, go_sem, cellSet, *]
            · refine ⟨_, _, _, by rw [HFIN.out], by first | exact ⟨_, _, _, rfl⟩ | exact HSV.out, ?_, ?_⟩
              · refine hB.trans ?_
                (repeat (first | (with_reducible exact Below.refl _ _) | (with_reducible refine below_drewN ?_ _) | (with_reducible refine Below.drew ?_) | (with_reducible refine Below.alloc ?_ ?_ _; rotate_left; focus (first | (simp; done) | (simp; omega))) | (with_reducible refine Below.setCell ?_ ?_ _; rotate_left; focus (first | (simp; done) | (simp; omega)))))
              · intro _
                rw [HW.out, HF.out]
                refine ⟨HB.out.symm, rfl, ?_⟩
                (repeat (with_reducible refine own_set ?_ hnb _))
                exact HR.out
          · simp only [Bool.true_and] at HFIN
            go_wp2_with fail
            all_goals first
              | (exfalso; rename_i hh; simp [hg1, hfr] at hh; omega) | (exfalso; rename_i hh; simp [hg1] at hh; omega)
              | skip
            refine (zero_list (wh ++ fr) (wh.length + fr.length) (by simp) ad cap true _ _ (by simp; omega) (((bytesAt_own HROW.out (by simp)).set ?_ _).set ?_ _)).mono ?_
            · intro q hq he; subst hq; exact hnb (by simp [Value.ownBlock]; exact he.symm)
            · intro q hq he; subst hq; exact hnb (by simp [Value.ownBlock]; exact he.symm)
            rintro e w2 ⟨rfl, hb2⟩
            have hsz2 : w.heap.size + 1 ≤ w2.heap.size := by have := hb2.size; simp at this; omega
            have hB2 : Below w.heap.size w w2 := ((hB.setCell (p := ⟨w.heap.size, 1, none⟩) (Nat.le_refl _) _).setCell (p := ⟨w.heap.size, 2, none⟩) (Nat.le_refl _) _).trans (hb2.mono (by simp; omega))
            have hd0 : w2.cell? ⟨w.heap.size, 0, none⟩ = some (.bool true) := by rw [hb2.cell (by simp; omega)]; simp [cellSet, hc0]
            have hd1 : w2.cell? ⟨w.heap.size, 1, none⟩ = some (.slice ad (wh.length + fr.length) cap) := by rw [hb2.cell (by simp; omega)]; simp [cellSet, hc1]
            have hd2 : w2.cell? ⟨w.heap.size, 2, none⟩ = some (.int .i64 (fr.length : Int)) := by rw [hb2.cell (by simp; omega)]; simp [cellSet, hc2]
            have he0 : w2.frozen? ⟨w.heap.size, 0, none⟩ = false := by rw [hb2.frozen (by simp; omega)]; go_simp
            have he1 : w2.frozen? ⟨w.heap.size, 1, none⟩ = false := by rw [hb2.frozen (by simp; omega)]; go_simp
            have he2 : w2.frozen? ⟨w.heap.size, 2, none⟩ = false := by rw [hb2.frozen (by simp; omega)]; go_simp
            have HR := Lib.hid (own_below (own_set (own_set HROW.out hnb _) hnb _) hb2)
            clear hb2 hc0 hc1 hc2 hf0 hf1 hf2
            generalize (wh ++ fr).all (· == 48) = z at HFIN ⊢
            cases z
            · simp only [Bool.not_false] at HFIN
              go_wp2
              refine bodyPost_ret (v := .tuple #[.agg #[.bool true, .slice ad (wh.length + fr.length) cap, .int .i64 (fr.length : Int)], .bool true]) ?_ rfl ?_
              · simp [results, Tryz.results27, go_sem, cellSet, *]
              · refine ⟨_, _, _, by rw [HFIN.out], by first | exact ⟨_, _, _, rfl⟩ | exact HSV.out, ?_, ?_⟩
                · refine hB2.trans ?_
                  (repeat (first | (with_reducible exact Below.refl _ _) | (with_reducible refine below_drewN ?_ _) | (with_reducible refine Below.drew ?_) | (with_reducible refine Below.alloc ?_ ?_ _; rotate_left; focus (first | (simp; done) | (simp; omega))) | (with_reducible refine Below.setCell ?_ ?_ _; rotate_left; focus (first | (simp; done) | (simp; omega)))))
                · intro _
                  rw [HW.out, HF.out]
                  refine ⟨HB.out.symm, rfl, ?_⟩
                  (repeat (with_reducible refine own_set ?_ hnb _))
                  exact HR.out
            · simp only [Bool.not_true] at HFIN
              go_wp2
              refine bodyPost_ret (v := .tuple #[.agg #[.bool true, .slice ad (wh.length + fr.length) cap, .int .i64 (fr.length : Int)], .bool false]) ?_ rfl ?_
              · simp [results, Tryz.results27, go_sem, cellSet, *]
              · refine ⟨_, _, _, by rw [HFIN.out], by first | exact ⟨_, _, _, rfl⟩ | exact HSV.out, ?_, ?_⟩
                · refine hB2.trans ?_
                  (repeat (first | (with_reducible exact Below.refl _ _) | (with_reducible refine below_drewN ?_ _) | (with_reducible refine Below.drew ?_) | (with_reducible refine Below.alloc ?_ ?_ _; rotate_left; focus (first | (simp; done) | (simp; omega))) | (with_reducible refine Below.setCell ?_ ?_ _; rotate_left; focus (first | (simp; done) | (simp; omega)))))
                · intro h; rw [HFIN.out] at h; cases h
  · rw [if_neg hall] at hv
    subst hv
    have hfin := dec_no HW.out HF.out HP.out HN.out (fun h => hall h.1)
    have HFIN := Lib.hid hfin
    clear hfin hall hown hlo
    go_wp2
    refine bodyPost_ret (v := .tuple #[.agg #[.bool b, .slice none 0 0, .int .i64 0], .bool false]) ?_ rfl ?_
    · simp [results, Tryz.results27, go_sem, *]
    · refine ⟨b, _, _, by rw [HFIN.out], by first | exact ⟨_, _, _, rfl⟩ | exact HSV.out, ?_, fun h => by rw [HFIN.out] at h; cases h⟩
      refine hB.trans ?_
      (repeat (first | (with_reducible exact Below.refl _ _) | (with_reducible refine below_drewN ?_ _) | (with_reducible refine Below.drew ?_) | (with_reducible refine Below.alloc ?_ ?_ _; rotate_left; focus (first | (simp; done) | (simp; omega))) | (with_reducible refine Below.setCell ?_ ?_ _; rotate_left; focus (first | (simp; done) | (simp; omega)))))
end Go.Proofs.YtpepgmccbkkaaaaGreatDoor
