import Derived.Test.YtkhdbolnhcfgkaaGreatDoorJ4
import Derived.Laws.Externs
import Derived.Lib.BytesEntry
import Derived.Lib.BufferMore
import Derived.Test.YtkhdbolnhcfgkaaGreatDoorShelfR
import Derived.Shelf.SlicesE.Reverse

/- The plain law of rules, fifth part: relations, rows of them, a whole rule. -/
namespace Go.Proofs.YtkhdbolnhcfgkaaGreatDoor
open Go

theorem rel_short (l : List Wd) (a f : Wd) (h : l.length < 2) : relTail l a f = none := by
  have hnil : ∀ a f wi one, listedL [] a f wi one = none := by
    intro a f wi one
    unfold listedL
    have : partsL [44] [] = [[]] := rfl
    rw [this]
    split
    · rfl
    · rfl
  match l, h with
  | [], _ => rfl
  | [k], _ =>
    unfold relTail
    have hq : ∀ n, n ≠ 0 → List.drop n [k] = ([] : List Wd) := fun n h => by
      cases n with
      | zero => exact absurd rfl h
      | succ m => simp
    cases hm : mannerL ([k].getD 0 []) ([k].getD 1 []) with
    | mk nt q => cases q with
      | mk wi q => cases q with
        | mk one n =>
          dsimp only
          by_cases h0 : n = 0
          · rw [if_pos h0]
          · rw [if_neg h0, hq n h0, hnil]; rfl

theorem tail_list (u : List Wd) (a f : Wd) (nt wi : Bool) (n : Nat) (hn : n ≠ 0) (one : Bool) (l : List Wd) (h : mannerL (u.getD 0 []) (u.getD 1 []) = (nt, wi, one, n)) (hl : u.drop n = l) :
    relTail u a f = (listedL l a f wi one).map (fun b => b != nt) := by
  unfold relTail
  rw [h]
  dsimp only
  rw [if_neg hn, hl]

/-- the list behind, with what stands ahead of it -/
theorem man_list {u seg rest : List Wd} {wi nt : Bool} {n : Nat} (hn : n ≠ 0) (hm : mannerL (u.getD 0 []) (u.getD 1 []) = (nt, wi, false, n)) (hd : u.drop n = seg) (hsub : ∀ x ∈ seg, x ∈ u) (hr : Stop rest) :
    Out ((pList wi (seg ++ rest)).map fun q => ((q.1, nt), q.2)) u rest (fun (i : Tst × Bool) => ∀ a f, relTail u a f = some (i.1 (a, f) != i.2)) (∀ a f, relTail u a f = none) := by
  refine (((plist_law wi seg rest hr).wider hsub).map (fun T => (T, nt)) ?_).imp (fun _ q => q) ?_
  · intro T hT a f
    rw [tail_list u a f nt wi n hn false seg hm hd, hT]
    rfl
  · intro hT a f
    rw [tail_list u a f nt wi n hn false seg hm hd, hT]
    rfl

theorem man_one {u seg rest : List Wd} {nt : Bool} {n : Nat} (hn : n ≠ 0) (hm : mannerL (u.getD 0 []) (u.getD 1 []) = (nt, false, true, n)) (hd : u.drop n = seg) (hsub : ∀ x ∈ seg, x ∈ u) (hr : Stop rest) :
    Out ((pNum (seg ++ rest)).map fun q => ((spanT q.1 q.1 false, nt), q.2)) u rest (fun (i : Tst × Bool) => ∀ a f, relTail u a f = some (i.1 (a, f) != i.2)) (∀ a f, relTail u a f = none) := by
  refine (((one_law seg rest hr).wider hsub).map (fun v => (spanT v v false, nt)) ?_).imp (fun _ q => q) ?_
  · intro T hT a f
    rw [tail_list u a f nt false n hn true seg hm hd, hT]
    rfl
  · intro hT a f
    rw [tail_list u a f nt false n hn true seg hm hd, hT]
    rfl

theorem man_none {u : List Wd} (h : (mannerL (u.getD 0 []) (u.getD 1 [])).2.2.2 = 0) (a f : Wd) : relTail u a f = none := by
  unfold relTail
  cases hm : mannerL (u.getD 0 []) (u.getD 1 []) with
  | mk nt q => cases q with
    | mk wi q => cases q with
      | mk one n =>
        rw [hm] at h
        dsimp only at h ⊢
        rw [if_pos h]

theorem manner_law (u rest : List Wd) (hr : Stop rest) :
    Out (pManner (u ++ rest)) u rest (fun (i : Tst × Bool) => ∀ a f, relTail u a f = some (i.1 (a, f) != i.2)) (∀ a f, relTail u a f = none) := by
  have s3 := hr.three
  have w1 := isW_stop (w := [61]) s3 (by decide) (by decide) (by decide)
  have w2 := isW_stop (w := [33, 61]) s3 (by decide) (by decide) (by decide)
  have w3 := isW_stop (w := [105, 115]) s3 (by decide) (by decide) (by decide)
  have w4 := isW_stop (w := [110, 111, 116]) s3 (by decide) (by decide) (by decide)
  have w5 := isW_stop (w := [119, 105, 116, 104, 105, 110]) s3 (by decide) (by decide) (by decide)
  have w6 := isW_stop (w := [105, 110]) s3 (by decide) (by decide) (by decide)
  match u with
  | [] =>
    refine .inr ⟨fun a f => man_none (by decide) a f, .inl ?_⟩
    simp [pManner, w1, w2, w3, w4, w5, w6]
  | k :: u' =>
    have g0 : (k :: u').getD 0 [] = k := rfl
    by_cases k1 : k = [61]
    · subst k1
      have e : pManner ([61] :: u' ++ rest) = (pList false (u' ++ rest)).map fun q => ((q.1, false), q.2) := by simp [pManner, isW_cons]
      rw [e]
      exact man_list (n := 1) (by decide) (by simp [mannerL]) (by simp) (fun x h => by simp [h]) hr
    by_cases k2 : k = [33, 61]
    · subst k2
      have e : pManner ([33, 61] :: u' ++ rest) = (pList false (u' ++ rest)).map fun q => ((q.1, true), q.2) := by simp [pManner, isW_cons]
      rw [e]
      exact man_list (n := 1) (by decide) (by simp [mannerL]) (by simp) (fun x h => by simp [h]) hr
    by_cases k3 : k = [105, 110]
    · subst k3
      have e : pManner ([105, 110] :: u' ++ rest) = (pList false (u' ++ rest)).map fun q => ((q.1, false), q.2) := by simp [pManner, isW_cons]
      rw [e]
      exact man_list (n := 1) (by decide) (by simp [mannerL]) (by simp) (fun x h => by simp [h]) hr
    by_cases k4 : k = [119, 105, 116, 104, 105, 110]
    · subst k4
      have e : pManner ([119, 105, 116, 104, 105, 110] :: u' ++ rest) = (pList true (u' ++ rest)).map fun q => ((q.1, false), q.2) := by simp [pManner, isW_cons]
      rw [e]
      exact man_list (n := 1) (by decide) (by simp [mannerL]) (by simp) (fun x h => by simp [h]) hr
    by_cases k5 : k = [105, 115]
    · subst k5
      match u' with
      | [] =>
        have e : pManner ([[105, 115]] ++ rest) = (pNum ([] ++ rest)).map fun q => ((spanT q.1 q.1 false, false), q.2) := by simp [pManner, isW_cons, w4]
        rw [e]
        exact man_one (n := 1) (by decide) (by simp [mannerL]) (by simp) (fun x h => by simp at h) hr
      | z :: v =>
        by_cases kz : z = [110, 111, 116]
        · subst kz
          have e : pManner ([105, 115] :: [110, 111, 116] :: v ++ rest) = (pNum (v ++ rest)).map fun q => ((spanT q.1 q.1 false, true), q.2) := by simp [pManner, isW_cons]
          rw [e]
          exact man_one (n := 2) (by decide) (by simp [mannerL]) (by simp) (fun x h => by simp [h]) hr
        · have kb : (z == [110, 111, 116]) = false := by simpa using kz
          have e : pManner ([105, 115] :: z :: v ++ rest) = (pNum ((z :: v) ++ rest)).map fun q => ((spanT q.1 q.1 false, false), q.2) := by simp [pManner, isW_cons, kb]
          rw [e]
          exact man_one (n := 1) (by decide) (by simp [mannerL, kz]) (by simp) (fun x h => by simp at h; simp [h]) hr
    by_cases k6 : k = [110, 111, 116]
    · subst k6
      match u' with
      | [] =>
        refine .inr ⟨fun a f => man_none (by decide) a f, .inl ?_⟩
        simp [pManner, isW_cons, w5, w6]
      | z :: v =>
        by_cases kz : z = [105, 110]
        · subst kz
          have e : pManner ([110, 111, 116] :: [105, 110] :: v ++ rest) = (pList false (v ++ rest)).map fun q => ((q.1, true), q.2) := by simp [pManner, isW_cons]
          rw [e]
          exact man_list (n := 2) (by decide) (by simp [mannerL]) (by simp) (fun x h => by simp [h]) hr
        by_cases kz2 : z = [119, 105, 116, 104, 105, 110]
        · subst kz2
          have e : pManner ([110, 111, 116] :: [119, 105, 116, 104, 105, 110] :: v ++ rest) = (pList true (v ++ rest)).map fun q => ((q.1, true), q.2) := by simp [pManner, isW_cons]
          rw [e]
          exact man_list (n := 2) (by decide) (by simp [mannerL]) (by simp) (fun x h => by simp [h]) hr
        · refine .inr ⟨fun a f => man_none (by simp [mannerL, kz, kz2]) a f, .inl ?_⟩
          simp [pManner, isW_cons, kz, kz2]
    · refine .inr ⟨fun a f => man_none (by simp [mannerL, k1, k2, k3, k4, k5, k6]) a f, .inl ?_⟩
      simp [pManner, isW_cons, k1, k2, k3, k4, k5, k6]

/-- a number without noughts ahead -/
def Good (x : Dg) : Prop := plainL x.1 = x.1

theorem operand_eq {x : Dg} (h : Good x) (c : Wd) : operandL x.1 x.2 c = (operandF c).map (fun f => f x) := by
  unfold operandL operandF
  split
  · rfl
  split
  · show some (x.1, []) = some (plainL x.1, [])
    rw [show plainL x.1 = x.1 from h]
  split
  · rfl
  split
  · rfl
  split
  · rfl
  split
  · rfl
  · rfl

theorem operand_none_eq {c : Wd} (h : operandF c = none) (x : Dg) : operandL x.1 x.2 c = none := by
  unfold operandF at h
  unfold operandL
  split at h
  · cases h
  split at h
  · cases h
  split at h
  · cases h
  split at h
  · cases h
  split at h
  · cases h
  split at h
  · cases h
  · rename_i h1 h2 h3 h4 h5 h6
    rw [if_neg h1, if_neg h2, if_neg h3, if_neg h4, if_neg h5, if_neg h6]

theorem rel_none_op {s : List Wd} (h : operandF (s.headD []) = none) (x : Dg) : relL s x = none := by
  unfold relL
  rw [operand_none_eq h x]
  split <;> rfl

theorem rel_plain {w : Wd} {t : List Wd} {of : Dg → Dg} (ho : operandF w = some of) (hm : modW (t.headD []) = false) {x : Dg} (hx : Good x) : relL (w :: t) x = relTail t (of x).1 (of x).2 := by
  unfold relL
  have hh : (w :: t).headD [] = w := rfl
  have h1 : (w :: t).getD 1 [] = t.headD [] := by cases t <;> rfl
  rw [hh, operand_eq hx, ho, h1, hm]
  by_cases hl : (w :: t).length < 3
  · rw [if_pos hl, rel_short t _ _ (by simp at hl; omega)]
  · rw [if_neg hl]
    simp

theorem rel_mod {w c m : Wd} {u : List Wd} {of : Dg → Dg} (ho : operandF w = some of) (hm : modW c = true) {x : Dg} (hx : Good x) (hf : figB m = true) (h0 : m ≠ [48]) :
    relL (w :: c :: m :: u) x = relTail u (decL (leftL (of x).1 (valL m))) (of x).2 := by
  unfold relL
  have hh : (w :: c :: m :: u).headD [] = w := rfl
  have h1 : (w :: c :: m :: u).getD 1 [] = c := rfl
  have h2 : (w :: c :: m :: u).getD 2 [] = m := rfl
  rw [hh, operand_eq hx, ho, h1, h2, hm, if_neg (by simp)]
  dsimp only [Option.map_some]
  rw [if_pos rfl]
  by_cases hl : 5 ≤ (w :: c :: m :: u).length
  · rw [if_pos ⟨hf, h0, hl⟩]
    rfl
  · rw [if_neg (fun q => hl q.2.2), rel_short u _ _ (by simp at hl; omega)]

theorem rel_mod_bad {w c : Wd} {t : List Wd} {of : Dg → Dg} (ho : operandF w = some of) (hm : modW c = true) {x : Dg} (hx : Good x) (hb : ¬ (figB (t.headD []) = true ∧ t.headD [] ≠ [48])) :
    relL (w :: c :: t) x = none := by
  unfold relL
  have hh : (w :: c :: t).headD [] = w := rfl
  have h1 : (w :: c :: t).getD 1 [] = c := rfl
  have h2 : (w :: c :: t).getD 2 [] = t.headD [] := by cases t <;> rfl
  rw [hh, operand_eq hx, ho, h1, h2, hm]
  split
  · rfl
  · dsimp only [Option.map_some]
    rw [if_pos rfl, if_neg (fun q => hb ⟨q.1, q.2.1⟩)]

theorem val_zero {m : Wd} (h : figB m = true) : valL m = 0 ↔ m = [48] := by
  have hf := (Fig.of h).1
  constructor
  · intro e
    have := hf.val
    rw [e] at this
    rw [← this, decL_small (by decide)]
    rfl
  · rintro rfl
    rfl

theorem modW_stop {rest : List Wd} (h : Stop rest) : modW (rest.headD []) = false := by
  cases rest with
  | nil => rfl
  | cons c t =>
    rcases h c rfl with rfl | rfl <;> rfl

/-- the end of a relation -/
theorem rel_done {u rest seg : List Wd} {of' : Dg → Dg} (hr : Stop rest) (hsub : ∀ x ∈ u, x ∈ seg) (hrel : ∀ x, Good x → relL seg x = relTail u (of' x).1 (of' x).2) :
    Out (match pManner (u ++ rest) with
        | none => none
        | some ((i, nt), v) => some ((fun x => i (of' x) != nt), v)) seg rest (fun T => ∀ x, Good x → relL seg x = some (T x)) (∀ x, Good x → relL seg x = none) := by
  rcases (manner_law u rest hr) with ⟨⟨i, nt⟩, hq, hg⟩ | ⟨hb, hq | ⟨⟨i, nt⟩, h, t, hm, hq⟩⟩
  · refine .inl ⟨_, by rw [hq], fun x hx => ?_⟩
    rw [hrel x hx, hg]
  · exact .inr ⟨fun x hx => by rw [hrel x hx, hb], .inl (by rw [hq])⟩
  · exact .inr ⟨fun x hx => by rw [hrel x hx, hb], .inr ⟨_, h, t, hsub h hm, by rw [hq]⟩⟩

theorem rel_law (s rest : List Wd) (hr : Stop rest) :
    Out (pRel (s ++ rest)) s rest (fun T => ∀ x, Good x → relL s x = some (T x)) (∀ x, Good x → relL s x = none) := by
  match s with
  | [] =>
    refine .inr ⟨fun x _ => rfl, .inl ?_⟩
    cases rest with
    | nil => rfl
    | cons c t =>
      have : operandF c = none := by rcases hr c rfl with rfl | rfl <;> decide
      simp [pRel, this]
  | w :: t =>
    cases ho : operandF w with
    | none => exact .inr ⟨fun x _ => rel_none_op (s := w :: t) ho x, .inl (by simp [pRel, ho])⟩
    | some of =>
      have hp : pRel (w :: t ++ rest) = match pMod of (t ++ rest) with
          | none => none
          | some (of', u) => match pManner u with
            | none => none
            | some ((i, nt), v) => some ((fun x => i (of' x) != nt), v) := by
        rw [List.cons_append, pRel, ho]
        rfl
      rw [hp]
      match t with
      | [] =>
        have : pMod of ([] ++ rest) = some (of, [] ++ rest) := by unfold pMod; rw [List.nil_append, modW_stop hr]; rfl
        rw [this]
        exact rel_done hr (fun x h => by simp at h) (fun x hx => rel_plain ho rfl hx)
      | c :: t' =>
        by_cases hc : modW c = true
        · have hpm : pMod of (c :: t' ++ rest) = match pNum (t' ++ rest) with
              | none => none
              | some (m, u) => if m = 0 then none else some (modF of m, u) := by
            unfold pMod
            rw [show ((c :: t' ++ rest).headD []) = c from rfl, hc, if_pos rfl]
            rfl
          rw [hpm]
          match t' with
          | [] =>
            rw [List.nil_append, num_stop hr.three]
            exact .inr ⟨fun x hx => rel_mod_bad ho hc hx (by decide), .inl rfl⟩
          | m :: u =>
            by_cases hf : figB m = true
            · have hn : pNum (m :: u ++ rest) = some (valL m, u ++ rest) := by simp [pNum, hf]
              rw [hn]
              dsimp only
              by_cases h0 : m = [48]
              · rw [if_pos ((val_zero hf).2 h0)]
                exact .inr ⟨fun x hx => rel_mod_bad ho hc hx (fun q => q.2 h0), .inl rfl⟩
              · rw [if_neg (fun e => h0 ((val_zero hf).1 e))]
                exact rel_done hr (fun x h => by simp [h]) (fun x hx => rel_mod ho hc hx hf h0)
            · have hn : pNum (m :: u ++ rest) = none := by simp [pNum, hf]
              rw [hn]
              exact .inr ⟨fun x hx => rel_mod_bad ho hc hx (fun q => hf q.1), .inl rfl⟩
        · have hc' : modW c = false := by simpa using hc
          have hpm : pMod of (c :: t' ++ rest) = some (of, c :: t' ++ rest) := by
            unfold pMod
            rw [show ((c :: t' ++ rest).headD []) = c from rfl, hc']
            rfl
          rw [hpm]
          exact rel_done hr (fun x h => by simp at h; simp [h]) (fun x hx => rel_plain (t := c :: t') ho hc' hx)

/-! ### rows -/
def rowEv (c : Bool → Bool → Bool) (ev : List Wd → Dg → Option Bool) (x : Dg) : List (List Wd) → Bool → Option Bool
  | [], b => some b
  | s :: t, b => match ev s x with
    | none => none
    | some h => rowEv c ev x t (c b h)

theorem row_law (m : Wd) (stop : Wd → Prop) (one : Parser) (ev : List Wd → Dg → Option Bool) (c : Bool → Bool → Bool)
    (hone : ∀ s rest, m ∉ s → (∀ w ∈ s, ¬ stop w) → (∀ w, rest.head? = some w → w = m ∨ stop w) → Out (one (s ++ rest)) s rest (fun T => ∀ x, Good x → ev s x = some (T x)) (∀ x, Good x → ev s x = none)) (hm : ¬ stop m) :
    ∀ (n : Nat) (seg rest : List Wd) (acc : List Tst), seg.length < n → (∀ w ∈ seg, ¬ stop w) → (∀ w, rest.head? = some w → stop w) →
      Out (pRowGo m one n acc (seg ++ rest)) seg rest (fun ts => ∃ new, ts = acc ++ new ∧ ∀ x, Good x → ∀ b, rowEv c ev x (partsL m seg) b = some (new.foldl (fun b T => c b (T x)) b))
        (∀ x, Good x → ∀ b, rowEv c ev x (partsL m seg) b = none)
  | 0, _, _, _, h, _, _ => absurd h (Nat.not_lt_zero _)
  | n + 1, seg, rest, acc, hl, hs, hr => by
    have hrest : isW m rest = false := by
      cases rest with
      | nil => rfl
      | cons w t =>
        rw [isW_cons, beq_eq_false_iff_ne]
        rintro rfl
        exact hm (hr w rfl)
    rcases first_cut m seg with hc | ⟨s, r, rfl, hms⟩
    · rw [parts_none hc]
      rcases hone seg rest hc hs (fun w hw => .inr (hr w hw)) with ⟨T, hq, hg⟩ | ⟨hb, hq | ⟨T, h, t, hmem, hq⟩⟩
      · refine .inl ⟨acc ++ [T], by rw [pRowGo, hq]; simp [hrest], [T], rfl, fun x hx b => ?_⟩
        rw [rowEv, hg x hx]
        rfl
      · exact .inr ⟨fun x hx b => by rw [rowEv, hb x hx], .inl (by rw [pRowGo, hq])⟩
      · refine .inr ⟨fun x hx b => by rw [rowEv, hb x hx], .inr ⟨acc ++ [T], h, t, hmem, ?_⟩⟩
        have hne : ¬ h = m := fun e => hc (e ▸ hmem)
        rw [pRowGo, hq]
        simp [isW_cons, hne]
    · rw [parts_cut r hms]
      have hap : s ++ m :: r ++ rest = s ++ (m :: (r ++ rest)) := by simp
      rw [hap]
      rcases hone s (m :: (r ++ rest)) hms (fun w hw => hs w (by simp [hw])) (fun w hw => .inl (by simpa using hw.symm)) with ⟨T, hq, hg⟩ | ⟨hb, hq | ⟨T, h, t, hmem, hq⟩⟩
      · have ih := row_law m stop one ev c hone hm n r rest (acc ++ [T]) (by simp at hl; omega) (fun w hw => hs w (by simp [hw])) hr
        have hg2 : pRowGo m one (n + 1) acc (s ++ m :: (r ++ rest)) = pRowGo m one n (acc ++ [T]) (r ++ rest) := by
          rw [pRowGo, hq]; simp [isW_cons]
        rw [hg2]
        refine (ih.imp ?_ ?_).wider (fun x hx => by simp [hx])
        · rintro ts ⟨new, rfl, hn⟩
          refine ⟨T :: new, by simp, fun x hx b => ?_⟩
          rw [rowEv, hg x hx]
          dsimp only
          rw [hn x hx]
          rfl
        · intro hn x hx b
          rw [rowEv, hg x hx]
          dsimp only
          rw [hn x hx]
      · exact .inr ⟨fun x hx b => by rw [rowEv, hb x hx], .inl (by rw [pRowGo, hq])⟩
      · refine .inr ⟨fun x hx b => by rw [rowEv, hb x hx], .inr ⟨acc ++ [T], h, t ++ m :: r, by simp [hmem], ?_⟩⟩
        have hne : ¬ h = m := fun e => hms (e ▸ hmem)
        rw [pRowGo, hq]
        simp [isW_cons, hne]

theorem fold_and (x : Dg) : ∀ (l : List Tst) (b : Bool), l.foldl (fun b T => b && T x) b = (b && allT l x)
  | [], b => by simp [allT]
  | T :: l, b => by rw [List.foldl_cons, fold_and x l]; simp [allT, Bool.and_assoc]
theorem fold_or (x : Dg) : ∀ (l : List Tst) (b : Bool), l.foldl (fun b T => b || T x) b = (b || someT l x)
  | [], b => by simp [someT]
  | T :: l, b => by rw [List.foldl_cons, fold_or x l]; simp [someT, Bool.or_assoc]

theorem ands_row (x : Dg) : ∀ (l : List (List Wd)) (b : Bool), andsGo x l b = rowEv (fun a b => a && b) relL x l b
  | [], b => rfl
  | s :: t, b => by
    rw [andsGo, rowEv]
    cases relL s x with
    | none => rfl
    | some h => exact ands_row x t _
def andL (o : List Wd) (x : Dg) : Option Bool := andsGo x (partsL wAnd o) true
theorem ors_row (x : Dg) : ∀ (l : List (List Wd)) (b : Bool), orsGo x l b = rowEv (fun a b => a || b) andL x l b
  | [], b => rfl
  | s :: t, b => by
    rw [orsGo, rowEv]
    show _ = match andL s x with | none => none | some h => _
    unfold andL
    cases andsGo x (partsL [97, 110, 100] s) true with
    | none => rfl
    | some h => exact ors_row x t _

theorem and_law (o rest : List Wd) (hs : ∀ w ∈ o, ¬ w = wOr) (hr : ∀ w, rest.head? = some w → w = wOr) :
    Out (pAnd (o ++ rest)) o rest (fun T => ∀ x, Good x → andL o x = some (T x)) (∀ x, Good x → andL o x = none) := by
  have h := row_law wAnd (fun w => w = wOr) pRel relL (fun a b => a && b) (fun s rest _ _ h => rel_law s rest h) (by decide) ((o ++ rest).length + 1) o rest [] (by simp; omega) hs hr
  unfold pAnd pRow
  refine (h.map allT ?_).imp (fun _ q => q) ?_
  · rintro ts ⟨new, rfl, hn⟩ x hx
    unfold andL
    rw [ands_row, hn x hx, fold_and]
    simp
  · intro hn x hx
    unfold andL
    rw [ands_row, hn x hx]

theorem or_law (ws : List Wd) : Out (pOr ws) ws [] (fun T => ∀ x, Good x → orsGo x (partsL wOr ws) false = some (T x)) (∀ x, Good x → orsGo x (partsL wOr ws) false = none) := by
  have h := row_law wOr (fun _ => False) pAnd andL (fun a b => a || b) (fun s rest hm _ h => and_law s rest (fun w hw e => hm (e ▸ hw)) (fun w hw => (h w hw).elim id False.elim)) (fun q => q) (ws.length + 1) ws [] [] (by omega) (fun _ _ q => q) (fun w hw => by cases hw)
  rw [List.append_nil] at h
  unfold pOr pRow
  refine (h.map someT ?_).imp (fun _ q => q) ?_
  · rintro ts ⟨new, rfl, hn⟩ x hx
    rw [ors_row, hn x hx, fold_or]
    simp
  · intro hn x hx
    rw [ors_row, hn x hx]

/-- THE LAW: the test that the program makes of a rule's text says of each number what the document says; and it makes none just where the document has none -/
theorem cond_law (s : List UInt8) {x : Dg} (hx : Good x) : holdsL s x = (condL s).map (fun T => T x) := by
  unfold holdsL condL
  by_cases h : 200 < s.length
  · rw [if_pos h, if_pos h]; rfl
  · rw [if_neg h, if_neg h, tokL_eq]
    cases wordsL s with
    | none => rfl
    | some ws =>
      dsimp only
      rcases or_law ws with ⟨T, hq, hg⟩ | ⟨hb, hq | ⟨T, h, t, hm, hq⟩⟩
      · rw [hq, hg x hx]; rfl
      · rw [hq, hb x hx]; rfl
      · rw [hq, hb x hx]; rfl
end Go.Proofs.YtkhdbolnhcfgkaaGreatDoor

/- Walks of package bytes and slices at digits: TrimLeft of noughts, Clone, Compare. -/
namespace Go.Proofs.YtkhdbolnhcfgkaaGreatDoor
open Go Go.RowKit
set_option maxRecDepth 10000

theorem bytes_head {w : World} {b : Addr} {x : Int} {l : List Int} (h : BytesAt w (some b) (x :: l)) : w.cell? b = some (.int .u8 x) := by
  obtain ⟨c, hc, hx⟩ := h 0 (by simp)
  cases hc
  simpa [Addr.add] using hx

theorem bytes_tail {w : World} {b : Addr} {x : Int} {l : List Int} (h : BytesAt w (some b) (x :: l)) : BytesAt w (some (b.add 1)) l := fun j hj => by
  obtain ⟨c, hc, hx⟩ := h (j + 1) (by simp; omega)
  cases hc
  refine ⟨_, rfl, ?_⟩
  rw [add_add, Nat.add_comm 1 j]
  simpa using hx

theorem BytesAt.below {w w' : World} {a : Option Addr} {l : List Int} (h : BytesAt w a l) (hb : Below w.heap.size w w') : BytesAt w' a l := fun j hj => by
  obtain ⟨b, h1, h2⟩ := h j hj
  refine ⟨b, h1, ?_⟩
  rw [hb.cell (World.block_lt_of_cell? w _ h2)]
  exact h2

theorem bytesAt_nil (w : World) (a : Option Addr) : BytesAt w a [] := fun j hj => absurd hj (Nat.not_lt_zero j)

/-- what TrimLeft leaves -/
def TrimPost (a : Option Addr) (l : List Int) (w : World) (e : Ending) (w' : World) : Prop :=
  (∃ a' cap', e = .returned (.slice a' (l.dropWhile (· == 0)).length cap') ∧ BytesAt w a' (l.dropWhile (· == 0)) ∧ (l.dropWhile (· == 0)).length ≤ cap' ∧ (∀ q, a' = some q → ∃ p, a = some p ∧ q.block = p.block)) ∧ w' = w

set_option maxHeartbeats 1000000 in
theorem trimLeftByte_any (l : List Int) (a : Option Addr) (cap : Nat) (w : World) (hl : l.length ≤ 1000000) (hcap : l.length ≤ cap) (hc2 : cap ≤ 9223372036854775807) (hB : BytesAt w a l) :
    Calls Tryz.prog 113 #[.slice a l.length cap, .int .u8 0] w (TrimPost a l w) := by
  go_enter Tryz.func113, Tryz.ntmps113
  go_wp2
  go_loop [0] (fun v => ∃ (a' : Option Addr) (cap' : Nat) (r : List Int), v = .slice a' r.length cap' ∧ r.length ≤ cap' ∧ cap' ≤ 9223372036854775807 ∧ r.length ≤ 1000000 ∧ BytesAt w a' r ∧ r.dropWhile (· == 0) = l.dropWhile (· == 0) ∧ (∀ q, a' = some q → ∃ p, a = some p ∧ q.block = p.block)) (fun v => match v with | .slice _ n _ => n | _ => 0)
  case atStart => exact ⟨a, cap, l, rfl, hcap, hc2, hl, hB, rfl, fun q h => ⟨q, h, rfl⟩⟩
  case round =>
    obtain ⟨a', cap', r, rfl, h1, h2, h3, hB', hd, hq⟩ := hrel
    have HD := Lib.hid hd
    have HB := Lib.hid hB'
    have HQ := Lib.hid hq
    clear hd hB' hq
    cases r with
    | nil =>
      go_wp2
      go_ret
      refine ⟨⟨none, 0, ?_, ?_, ?_, fun q h => by cases h⟩, rfl⟩
      · rw [← HD.out]; rfl
      · rw [← HD.out]; exact bytesAt_nil _ _
      · rw [← HD.out]; exact Nat.le_refl _
    | cons x t =>
      have hx := HB.out 0 (by simp)
      obtain ⟨b, rfl, hx0⟩ := hx
      have hx1 := bytes_head HB.out
      have hlen : (x :: t).length = t.length + 1 := rfl
      clear hx0
      by_cases h0 : x = 0
      · subst h0
        by_cases hc1 : cap' = 1
        · have ht : t = [] := by
            apply List.eq_nil_of_length_eq_zero
            rw [hlen] at h1; omega
          subst ht
          subst hc1
          go_wp2
          refine ⟨⟨some b, 0, [], rfl, Nat.le_refl _, by decide, by decide, bytesAt_nil _ _, ?_, HQ.out⟩, ?_⟩
          · rw [← HD.out]; rfl
          · show 0 < [0].length
            simp
        · have e1 : ((0 : Int) ≤ (t.length + 1 : Nat) - 1) := by omega
          have hne : ¬ (cap' : Int) = 1 := by omega
          rw [hlen] at h1 h3 ⊢
          go_wp2
          refine ⟨⟨some (b.add 1), cap' - 1, t, rfl, by omega, by omega, by omega, bytes_tail HB.out, ?_, fun q h => ?_⟩, ?_⟩
          · rw [← HD.out]; rfl
          · cases h
            exact HQ.out b rfl
          · show t.length < t.length + 1
            omega
      · have hx0 : (x == 0) = false := by simpa using h0
        rw [hlen] at h1 h3 ⊢
        have hd1 : l.dropWhile (· == 0) = x :: t := by rw [← HD.out, List.dropWhile_cons_of_neg (by simpa using h0)]
        have HD1 := Lib.hid hd1
        clear hd1 h0
        go_wp2
        go_ret
        refine ⟨⟨some b, cap', ?_, ?_, ?_, HQ.out⟩, rfl⟩
        · rw [HD1.out]; rfl
        · rw [HD1.out]; exact HB.out
        · rw [HD1.out]; simpa using h1

set_option maxHeartbeats 1000000 in
theorem trimLeft_any (l : List Int) (a : Option Addr) (cap : Nat) (w : World) (hl : l.length ≤ 1000000) (hcap : l.length ≤ cap) (hc2 : cap ≤ 9223372036854775807) (hB : BytesAt w a l) :
    Calls Tryz.prog 103 #[.slice a l.length cap, .string ⟨#[0]⟩] w (TrimPost a l w) := by
  have HB := Lib.hid hB
  clear hB
  by_cases h0 : l = []
  · subst h0
    go_enter Tryz.func103, Tryz.ntmps103
    go_wp2
    go_ret
    exact ⟨⟨none, 0, rfl, bytesAt_nil _ _, Nat.le_refl _, fun q h => by cases h⟩, rfl⟩
  · obtain ⟨n, hn⟩ : ∃ n, l.length = n + 1 := ⟨l.length - 1, by have := List.length_pos_iff.2 h0; omega⟩
    have h1 : ((l.length : Int) == 0) = false := by simp; omega
    have hT := trimLeftByte_any l a cap w hl hcap hc2 HB.out
    have HT := Lib.hid hT
    clear hT h0 hn
    go_enter Tryz.func103, Tryz.ntmps103
    go_wp2_with fail
    refine HT.out.mono ?_
    rintro e w1 ⟨⟨a', cap', rfl, h2, h3, h4⟩, rfl⟩
    have H2 := Lib.hid h2
    have H4 := Lib.hid h4
    clear h2 h4
    go_wp2
    go_ret
    exact ⟨⟨_, _, rfl, H2.out, h3, H4.out⟩, rfl⟩

theorem digs_vals0 (l : List UInt8) : digs l = (vals l).map (Value.int .u8) := by simp [digs, vals]

set_option maxHeartbeats 1000000 in
/-- a copy of digits, a row of the call's own -/
theorem clone_any (l : List UInt8) (a : Addr) (cap : Nat) (w : World) (hl : l.length ≤ 1000000) (hB : BytesAt w (some a) (vals l)) :
    Calls Tryz.prog 104 #[.slice (some a) l.length cap] w fun e w' => (∃ v, e = .returned v ∧ w'.ownsRow w.heap.size 5 1 v l.length (digs l)) ∧ Below w.heap.size w w' := by
  have HB := Lib.hid hB
  clear hB
  have hnil : ∀ W, (binOp .eql 71 (.slice (some a) l.length cap) (.slice none 0 0)).run Tryz.prog W = .ok (.bool false) W := fun W => Lib.run_eql_slice_some_nil W _ _ _ Tryz.underlying71
  go_enter Tryz.func104, Tryz.ntmps104
  go_wp2_with (at_builtin; refine app_own elem_bytes rfl _ _ rfl w.heap.size _ 0 [] rfl ?c0 a l.length cap (digs l) rfl ?c1 ?c2 ?c3 ?c4 ?c5 ?_)
  case c0 => exact World.ownsRow_lit w _ 0 (Nat.le_refl _) (by decide) rfl
  case c1 => simp [digs]
  case c2 =>
    intro j u hu
    have hj : j < (vals l).length := by
      have := (List.getElem?_eq_some_iff.1 hu).1
      simpa [digs, vals] using this
    obtain ⟨b, hb, hc⟩ := HB.out j hj
    cases hb
    rw [World.cell?_alloc_some _ _ _ (by rw [hc]; rfl), hc]
    rw [digs_vals0, List.getElem?_map, List.getElem?_eq_getElem hj] at hu
    simpa using hu
  case c3 =>
    intro u hu
    simp only [digs, List.mem_map] at hu
    obtain ⟨c, _, rfl⟩ := hu
    rfl
  case c4 => omega
  case c5 => simp
  intro v' w1 hown hgrow
  have hb : Below w.heap.size w w1 := ((Below.refl _ _).alloc (Nat.le_refl _) _).grown hgrow (by simp) (fun q hq => by cases hq; exact Nat.le_refl _)
  clear hgrow
  go_wp2
  go_ret
  exact ⟨⟨_, rfl, by simpa using hown⟩, hb⟩
end Go.Proofs.YtkhdbolnhcfgkaaGreatDoor

/- Walks of package decimal: Whole. -/
namespace Go.Proofs.YtkhdbolnhcfgkaaGreatDoor
open Go Go.RowKit Go.Shelf Go.Sort
set_option maxRecDepth 10000

theorem holds_own {w : World} {base g cap : Nat} {e : TypeId} {zs : List Int} (h : w.ownsRow base e 1 (.slice (some ⟨g, 0, none⟩) zs.length cap) zs.length (zs.map (Value.int .u8))) : Holds (Value.int .u8) w g 0 zs.toArray := by
  intro j hj
  have hj' : j < zs.length := by simpa using hj
  refine ⟨?_, ?_⟩
  · rw [Nat.zero_add, h.cellAt j (by omega)]
    simp [hj', getElem!_pos]
  · exact h.frozenAt _

theorem own_putRow {w : World} {base g n cap : Nat} {e : TypeId} {xs : List Value} {zs : List Int} (h : w.ownsRow base e 1 (.slice (some ⟨g, 0, none⟩) n cap) n xs) (hz : zs.length = n) :
    (putRow (Value.int .u8) w g 0 zs.toArray).ownsRow base e 1 (.slice (some ⟨g, 0, none⟩) n cap) n (zs.map (Value.int .u8)) := by
  refine ⟨by simp [hz], ?_⟩
  rcases h.2 with ⟨hv, _⟩ | ⟨g2, cap2, cur, hv, hg, hh, h1, h2, h3, ht⟩
  · cases hv
  · simp only [Value.slice.injEq, Option.some.injEq, Addr.mk.injEq] at hv
    obtain ⟨⟨rfl, -⟩, -, rfl⟩ := hv
    refine .inr ⟨g, cap, putCells (Value.int .u8) 0 zs.toArray cur, rfl, hg, ?_, h1, h2, by simpa [putCells] using h3, ?_⟩
    · simp [putRow, mapBlock, Array.getElem?_modify, hh, onCells]
    · apply List.ext_getElem?
      intro j
      by_cases hj : j < n
      · have hjc : j < cur.size := by omega
        simp [putCells, List.getElem?_take, hj, hjc, hz]
      · rw [List.getElem?_eq_none (by simp; omega), List.getElem?_eq_none (by simp; omega)]

theorem below_putRow {B : Nat} {a w : World} (h : Below B a w) {g : Nat} (hg : B ≤ g) (d : Array Int) : Below B a (putRow (Value.int .u8) w g 0 d) := by
  refine h.trans ⟨rfl, rfl, rfl, by simp [putRow, mapBlock], fun k hk => ?_⟩
  simp only [putRow, mapBlock, Array.getElem?_modify]
  rw [if_neg (by omega)]

/-- Reverse of a row of the call's own -/
theorem reverse_own (g cap base : Nat) (zs : List Int) (w : World) (hz : zs.length ≤ 2000000000) (h : w.ownsRow base 5 1 (.slice (some ⟨g, 0, none⟩) zs.length cap) zs.length (zs.map (Value.int .u8))) :
    Calls Tryz.prog 105 #[.slice (some ⟨g, 0, none⟩) zs.length cap] w fun e w' => e = .returned (.tuple #[]) ∧ w'.ownsRow base 5 1 (.slice (some ⟨g, 0, none⟩) zs.length cap) zs.length (zs.reverse.map (Value.int .u8)) ∧
      w'.heap.size = w.heap.size ∧ (∀ k, k ≠ g → w'.heap[k]? = w.heap[k]?) ∧ Below base w w' := by
  have hg : base ≤ g := (h.lt g rfl).1
  refine (AnyE.slices_Reverse Tryz.laysRev (Value.int .u8) (fun _ => rfl) g 0 cap zs w (holds_own h) (by omega)).mono ?_
  rintro e w' ⟨rfl, n, rfl⟩
  have ha : (Sort.ahead w n).ownsRow base 5 1 (.slice (some ⟨g, 0, none⟩) zs.length cap) zs.length (zs.map (Value.int .u8)) := h
  refine ⟨rfl, own_putRow ha (by simp), by simp [putRow, mapBlock, Sort.ahead], fun k hk => ?_, below_putRow (show Below base w (Sort.ahead w n) from ⟨rfl, rfl, rfl, Nat.le_refl _, fun _ _ => rfl⟩) hg _⟩
  simp only [putRow, mapBlock, Array.getElem?_modify]
  rw [if_neg (by omega)]
  rfl

theorem digs_vals (l : List UInt8) : digs l = (vals l).map (Value.int .u8) := by simp [digs, vals]

theorem dchar_val {d : Nat} (h : d < 10) : ((dchar d).toNat : Int) - 48 = d := by
  unfold dchar
  rw [UInt8.toNat_ofNat']
  omega

/-- what Whole hands back: a row of the call's own -/
def WholePost (v : Nat) (w : World) (e : Ending) (w' : World) : Prop :=
  (∃ g cap, e = .returned (.agg #[.bool false, .slice (some ⟨g, 0, none⟩) (decL v).length cap, .int .i64 0]) ∧ w'.ownsRow w.heap.size 5 1 (.slice (some ⟨g, 0, none⟩) (decL v).length cap) (decL v).length (digs (decL v))) ∧ Below w.heap.size w w'

set_option maxHeartbeats 1000000 in
theorem whole_any (v : Nat) (w : World) (hv : v ≤ 1000000000) : Calls Tryz.prog 90 #[.int .i64 v] w (WholePost v w) := by
  have hL := decL_length v
  obtain ⟨i, hi, hz, h2, h3⟩ := elem_bytes.info
  go_enter Tryz.func90, Tryz.ntmps90
  go_wp2
  refine wp_gen ?_
  intro W hW
  have F : W.heap.size = w.heap.size + 1 ∧ Below w.heap.size w W ∧ W.cell? ⟨w.heap.size, 0, none⟩ = some (.bool false) ∧ W.cell? ⟨w.heap.size, 1, none⟩ = some (.slice none 0 0) ∧ W.cell? ⟨w.heap.size, 2, none⟩ = some (.int .i64 0) ∧ W.frozen? ⟨w.heap.size, 1, none⟩ = false ∧ W.frozen? ⟨w.heap.size, 0, none⟩ = false ∧ W.frozen? ⟨w.heap.size, 2, none⟩ = false := by
    subst hW
    exact ⟨by simp, (Below.refl _ _).alloc (Nat.le_refl _) _, by go_simp, by go_simp, by go_simp, by go_simp, by go_simp, by go_simp⟩
  obtain ⟨f1, f2, f3, f4, f5, f6, f7, f8⟩ := F
  clear hW
  go_loopw [0, 3] (fun n ok wr => ∃ (m : Nat) (acc : List UInt8) (sv : Value) (b : Bool), n = .int .i64 m ∧ ok = .bool b ∧ m ≤ v ∧ wr.ownsRow (w.heap.size + 1) 5 1 sv acc.length (digs acc) ∧ Below w.heap.size w wr ∧ w.heap.size < wr.heap.size ∧
      wr.cell? ⟨w.heap.size, 0, none⟩ = some (.bool false) ∧ wr.cell? ⟨w.heap.size, 1, none⟩ = some sv ∧ wr.cell? ⟨w.heap.size, 2, none⟩ = some (.int .i64 0) ∧ wr.frozen? ⟨w.heap.size, 1, none⟩ = false ∧ wr.frozen? ⟨w.heap.size, 0, none⟩ = false ∧ wr.frozen? ⟨w.heap.size, 2, none⟩ = false ∧
      (b = true → decL v = decL m ++ acc.reverse) ∧ (b = false → decL v = acc.reverse)) (fun n ok _ => (intOf n).toNat + match ok with | .bool true => 1 | _ => 0)
  case atStart => exact ⟨v, [], .slice none 0 0, true, rfl, rfl, Nat.le_refl _, World.ownsRow_nil _ _ _ _, f2, by omega, f3, f4, f5, f6, f7, f8, fun _ => by simp, fun h => by cases h⟩
  case round =>
    obtain ⟨m, acc, sv, b, rfl, rfl, hm, hown, hb, hs, g0, g1, g2, g3, g4, g5, ht, hf⟩ := hrel
    clear f2 f3 f4 f5 f6 f7 f8
    cases b with
    | false =>
      have hd := hf rfl
      clear ht hf
      have hrev : acc.length = (decL v).length := by rw [hd]; simp
      have hlen : 0 < acc.length := by
        rw [hrev]
        by_cases h10 : v < 10
        · rw [decL_small h10]; simp
        · rw [decL_big h10]; simp
      obtain ⟨g, cap, rfl, hg0, hg1, hgc⟩ := own_some hown hlen
      have hR := reverse_own g cap (w.heap.size + 1) (vals acc) wr (by simp [vals]; omega) (by rw [← digs_vals]; simpa [vals] using hown)
      have hvl : (vals acc).length = acc.length := by simp [vals]
      have hrd : (vals acc).reverse.map (Value.int .u8) = digs (decL v) := by rw [hd, digs_vals]; simp [vals, List.map_reverse]
      rw [hvl, hrd, hrev] at hR
      rw [hrev] at g1
      have HR := Lib.hid hR
      clear hR hrd hd hrev hvl hgc hown
      go_wp2_with fail
      refine HR.out.mono ?_
      rintro e w1 ⟨rfl, hown1, hsz, hblk, hb1⟩
      have hne : w.heap.size ≠ g := by omega
      have e0 : w1.cell? ⟨w.heap.size, 0, none⟩ = some (.bool false) := (World.cell?_of_block (hblk _ hne)).trans g0
      have e1 : w1.cell? ⟨w.heap.size, 1, none⟩ = some (.slice (some ⟨g, 0, none⟩) (decL v).length cap) := (World.cell?_of_block (hblk _ hne)).trans g1
      have e2 : w1.cell? ⟨w.heap.size, 2, none⟩ = some (.int .i64 0) := (World.cell?_of_block (hblk _ hne)).trans g2
      have hbb : Below w.heap.size w w1 := hb.trans (hb1.mono (by omega))
      have z1 : w1.frozen? ⟨w.heap.size, 1, none⟩ = false := (World.frozen?_of_block (hblk _ hne)).trans g3
      have z0 : w1.frozen? ⟨w.heap.size, 0, none⟩ = false := (World.frozen?_of_block (hblk _ hne)).trans g4
      have z2 : w1.frozen? ⟨w.heap.size, 2, none⟩ = false := (World.frozen?_of_block (hblk _ hne)).trans g5
      clear hblk g0 g1 g2 g3 g4 g5
      go_wp2
      refine bodyPost_ret (v := .agg #[.bool false, .slice (some ⟨g, 0, none⟩) (decL v).length cap, .int .i64 0]) ?_ rfl ?_
      · simp [results, Tryz.results90, go_sem, e0, e1, e2]
      have hn : some w.heap.size ≠ (Value.slice (some ⟨g, 0, none⟩) (decL v).length cap).ownBlock := fun e => hne (by simpa [Value.ownBlock] using e)
      exact ⟨⟨g, cap, rfl, own_set (own_set (own_set (own_mono hown1 (Nat.le_succ _)) hn _) hn _) hn _⟩, ((hbb.setCell (Nat.le_refl _) _).setCell (Nat.le_refl _) _).setCell (Nat.le_refl _) _⟩
    | true =>
      have hd := ht rfl
      have HD := Lib.hid hd
      clear ht hf hd
      go_wp2_with (at_builtin; refine app_own elem_bytes rfl _ _ rfl (w.heap.size + 1) sv acc.length (digs acc) rfl (hown.alloc _) ⟨wr.heap.size, 0, none⟩ 1 1 [.int .u8 ((m : Int) % 10)] rfl rfl ?c1 ?c2 ?c3 ?c4 ?_)
      case c1 => exact cells_one (cell_made _ _ _ _ _)
      case c2 => intro u hu; simp at hu; subst hu; rfl
      case c3 =>
        have := congrArg List.length HD.out
        simp at this; omega
      case c4 => simp; omega
      intro sv' w1 hown1 hgrow
      have hb1 : Below w.heap.size w w1 := (hb.alloc hb.size _).grown hgrow (by have := hb.size; simp; omega) (fun q hq => by have := (hown.lt q hq).1; omega)
      have hne : some w.heap.size ≠ sv.ownBlock := fun e => by have := (hown.lt _ e.symm).1; omega
      have k0 : w1.cell? ⟨w.heap.size, 0, none⟩ = some (.bool false) := hgrow.cell ((World.cell?_alloc_lt _ _ _ hs).trans g0) hne
      have k1 : w1.cell? ⟨w.heap.size, 1, none⟩ = some sv := hgrow.cell ((World.cell?_alloc_lt _ _ _ hs).trans g1) hne
      have k2 : w1.cell? ⟨w.heap.size, 2, none⟩ = some (.int .i64 0) := hgrow.cell ((World.cell?_alloc_lt _ _ _ hs).trans g2) hne
      have k3 : w1.frozen? ⟨w.heap.size, 1, none⟩ = false := (World.frozen?_of_block (hgrow.block w.heap.size (by simp; omega) hne)).trans ((World.frozen?_of_block (Below.heap_alloc _ _ _ hs)).trans g3)
      have k4 : w1.frozen? ⟨w.heap.size, 0, none⟩ = false := (World.frozen?_of_block (hgrow.block w.heap.size (by simp; omega) hne)).trans ((World.frozen?_of_block (Below.heap_alloc _ _ _ hs)).trans g4)
      have k5 : w1.frozen? ⟨w.heap.size, 2, none⟩ = false := (World.frozen?_of_block (hgrow.block w.heap.size (by simp; omega) hne)).trans ((World.frozen?_of_block (Below.heap_alloc _ _ _ hs)).trans g5)
      have hs1 : w.heap.size < w1.heap.size := World.block_lt_of_cell? w1 _ k0
      have hq : ((m : Int).tdiv 10) = ((m / 10 : Nat) : Int) := by rw [Int.tdiv_eq_ediv_of_nonneg (by omega)]; rfl
      obtain ⟨a1, c1, rfl⟩ := own_slice hown1
      clear hgrow hown g0 g1 g2 g3 g4 g5 hb hs
      go_wp2
      have hown2 : (w1.setCell ⟨w.heap.size, 1, none⟩ (.slice a1 (acc.length + 1) c1)).ownsRow (w.heap.size + 1) 5 1 (.slice a1 (acc.length + 1) c1) (acc.length + 1) (digs acc ++ [.int .u8 ((m : Int) % 10)]) :=
        own_set hown1 (fun e => by have := (hown1.lt _ e.symm).1; simp at this; omega) _
      have hdg : digs (acc ++ [dchar (m % 10)]) = digs acc ++ [.int .u8 ((m : Int) % 10)] := by
        have h10 := dchar_val (d := m % 10) (by omega)
        simp only [digs, List.map_append, List.map_cons, List.map_nil, h10]
        rfl
      refine ⟨⟨m / 10, acc ++ [dchar (m % 10)], .slice a1 (acc.length + 1) c1, decide (0 < m / 10), by go_num, ?_, by omega, ?_, hb1.setCell (Nat.le_refl _) _, by simpa [World.setCell] using hs1, ?_, ?_, ?_, ?_, ?_, ?_, ?_, ?_⟩, ?_⟩
      · congr 1
        exact decide_eq_decide.2 (by omega)
      · rw [hdg]; simpa using hown2
      · go_simp
      · go_simp
      · go_simp
      · go_simp
      · go_simp
      · go_simp
      · intro h
        have h10 : 0 < m / 10 := of_decide_eq_true h
        rw [HD.out, decL_big (by omega)]
        simp
      · intro h
        have h10 : ¬ 0 < m / 10 := of_decide_eq_false h
        have : m % 10 = m := by omega
        rw [HD.out, decL_small (by omega), this]
        simp
      · by_cases h10 : 0 < m / 10
        · have : decide (0 < (m : Int) / 10) = true := decide_eq_true (by omega)
          rw [this]
          simp [intOf]; omega
        · have : decide (0 < (m : Int) / 10) = false := decide_eq_false (by omega)
          rw [this]
          simp [intOf]; omega
end Go.Proofs.YtkhdbolnhcfgkaaGreatDoor

/- Numbers in memory; decimal's Trim, Abs, Broken, plural's short. -/
namespace Go.Proofs.YtkhdbolnhcfgkaaGreatDoor
open Go Go.RowKit
set_option maxRecDepth 10000

/-- digits of a number that the program works on -/
structure DgOk (x : Dg) : Prop where
  dig1 : x.1.all isDig = true
  dig2 : x.2.all isDig = true
  ne : x.1 ≠ []
  len1 : x.1.length ≤ 100
  len2 : x.2.length ≤ 100

/-- a number in memory -/
def NumV (w : World) (v : Value) (x : Dg) : Prop :=
  ∃ b g cap, v = .agg #[.bool b, .slice (some ⟨g, 0, none⟩) (x.1.length + x.2.length) cap, .int .i64 x.2.length] ∧ x.1.length + x.2.length ≤ cap ∧ cap ≤ maxLen ∧ g < w.heap.size ∧ BytesAt w (some ⟨g, 0, none⟩) (vals (x.1 ++ x.2)) ∧ DgOk x

theorem NumV.below {w w' : World} {v : Value} {x : Dg} (h : NumV w v x) (hb : Below w.heap.size w w') : NumV w' v x := by
  obtain ⟨b, g, cap, h1, h2, h3, h4, h5, h6⟩ := h
  exact ⟨b, g, cap, h1, h2, h3, Nat.lt_of_lt_of_le h4 hb.size, h5.below hb, h6⟩

theorem NumV.ok {w : World} {v : Value} {x : Dg} (h : NumV w v x) : DgOk x := by
  obtain ⟨b, g, cap, h1, h2, h3, h4, h5, h6⟩ := h
  exact h6

theorem vals_append (a b : List UInt8) : vals (a ++ b) = vals a ++ vals b := by simp [vals]
theorem vals_length (a : List UInt8) : (vals a).length = a.length := by simp [vals]

theorem drop_vals (l : List UInt8) : (vals l).dropWhile (· == 0) = vals (l.dropWhile (· == 48)) := by
  induction l with
  | nil => rfl
  | cons c t ih =>
    have h2 := toNat_beq c 48
    have h3 : ((48 : UInt8).toNat : Int) = 48 := rfl
    rw [h3] at h2
    have h4 : (((c.toNat : Int) - 48) == 0) = (c == 48) := by
      rw [Bool.eq_iff_iff, beq_iff_eq, beq_iff_eq]
      rw [Bool.eq_iff_iff, beq_iff_eq, decide_eq_true_eq] at h2
      rw [← h2]
      omega
    rw [show vals (c :: t) = ((c.toNat : Int) - 48) :: vals t from rfl]
    by_cases hc : (c == 48) = true
    · rw [List.dropWhile_cons_of_pos (p := fun x : Int => x == 0) (h4.trans hc), List.dropWhile_cons_of_pos (p := fun x : UInt8 => x == 48) hc, ih]
    · rw [List.dropWhile_cons_of_neg (p := fun x : Int => x == 0) (by rw [h4]; exact hc), List.dropWhile_cons_of_neg (p := fun x : UInt8 => x == 48) hc]
      rfl

theorem plain_drop (l : List UInt8) : plainL l = if l.dropWhile (· == 48) = [] then [48] else l.dropWhile (· == 48) := by
  unfold plainL
  by_cases h : l = []
  · subst h; rfl
  · rw [if_neg h]
    induction l with
    | nil => exact absurd rfl h
    | cons c t ih =>
      by_cases hc : c = 48
      · subst hc
        rw [List.dropWhile_cons_of_pos (by decide)]
        by_cases ht : t = []
        · subst ht; rfl
        · rw [strip_step ht rfl, ih ht]
      · rw [strip_keep hc, List.dropWhile_cons_of_neg (by simpa using hc), if_neg (by simp)]

theorem plain_dig {l : List UInt8} (h : l.all isDig = true) : (plainL l).all isDig = true := by
  rw [plain_drop]
  split
  · decide
  · rw [List.all_eq_true] at h ⊢
    exact fun c hc => h c ((List.dropWhile_sublist _).subset hc)
theorem plain_ne (l : List UInt8) : plainL l ≠ [] := by
  rw [plain_drop]
  split
  · simp
  · assumption
theorem plain_len (l : List UInt8) : (plainL l).length ≤ l.length ∨ (plainL l).length = 1 := by
  rw [plain_drop]
  split
  · exact .inr rfl
  · exact .inl (List.dropWhile_sublist (· == 48) (l := l)).length_le

theorem decL_dig (n : Nat) : (decL n).all isDig = true := by
  induction n using Nat.strongRecOn with
  | _ n ih =>
    have hd : ∀ d, d < 10 → isDig (dchar d) = true := by
      intro d h
      rw [isDig_iff]
      have := dchar_val h
      omega
    by_cases h : n < 10
    · rw [decL_small h]; simp [hd n h]
    · rw [decL_big h, List.all_append, ih (n / 10) (by omega)]; simp [hd (n % 10) (by omega)]
theorem decL_ne (n : Nat) : decL n ≠ [] := by
  by_cases h : n < 10
  · rw [decL_small h]; simp
  · rw [decL_big h]; simp
theorem decL_short : ∀ (k n : Nat), n < 10 ^ (k + 1) → (decL n).length ≤ k + 1
  | 0, n, h => by rw [decL_small (by simpa using h)]; simp
  | k + 1, n, h => by
    by_cases h10 : n < 10
    · rw [decL_small h10]; simp
    · rw [decL_big h10]
      have := decL_short k (n / 10) (by rw [Nat.pow_succ] at h; omega)
      simp; omega

/-- a number that a call hands back -/
def NumPost' (x : Dg) (w : World) (e : Ending) (w' : World) : Prop := (∃ v, e = .returned v ∧ NumV w' v x) ∧ Below w.heap.size w w'

theorem num_own {w w' : World} {g cap n : Nat} {b : Bool} {d : List UInt8} {x : Dg} (hx : x.1 ++ x.2 = d) (hn : n = d.length) (ho : w'.ownsRow w.heap.size 5 1 (.slice (some ⟨g, 0, none⟩) n cap) n (digs d)) (hok : DgOk x) :
    NumV w' (.agg #[.bool b, .slice (some ⟨g, 0, none⟩) n cap, .int .i64 x.2.length]) x := by
  subst hn
  have hl : x.1.length + x.2.length = d.length := by rw [← hx]; simp
  have hlt := (ho.lt g rfl).2
  have hB := bytesAt_own ho rfl
  rw [← hx] at hB
  refine ⟨b, g, cap, by rw [hl], ?_, ?_, hlt, hB, hok⟩
  all_goals
    rcases ho.2 with ⟨hv, _⟩ | ⟨g2, cap2, cur, hv, _, _, h1, h2, _⟩
    · cases hv
    · cases hv
      omega

theorem whole_num (v : Nat) (w : World) (hv : v ≤ 1000000000) : Calls Tryz.prog 90 #[.int .i64 v] w (NumPost' (decL v, []) w) := by
  refine (whole_any v w hv).mono ?_
  rintro e w' ⟨⟨g, cap, rfl, ho⟩, hb⟩
  have := decL_short 9 v (by omega)
  exact ⟨⟨_, rfl, num_own (x := (decL v, [])) (List.append_nil _) rfl ho ⟨decL_dig v, rfl, decL_ne v, by show (decL v).length ≤ 100; omega, by simp⟩⟩, hb⟩

set_option maxHeartbeats 1000000 in
theorem trim_any (l : List UInt8) (a : Option Addr) (cap : Nat) (w : World) (hd : l.all isDig = true) (hl : l.length ≤ 100) (hcap : l.length ≤ cap) (hc2 : cap ≤ maxLen) (hB : BytesAt w a (vals l)) :
    Calls Tryz.prog 87 #[.slice a l.length cap] w (NumPost' (plainL l, []) w) := by
  have hvl := vals_length l
  have hT := trimLeft_any (vals l) a cap
  rw [hvl] at hT
  have HT := Lib.hid hT
  have HB := Lib.hid hB
  obtain ⟨r, hr⟩ : ∃ r, l.dropWhile (· == 48) = r := ⟨_, rfl⟩
  have hrv : (vals l).dropWhile (· == 0) = vals r := by rw [drop_vals, hr]
  have hpl : plainL l = if r = [] then [48] else r := by rw [plain_drop, hr]
  have hpd := plain_dig hd
  have hpn := plain_len l
  have HPL := Lib.hid hpl
  have HRV := Lib.hid hrv
  have HPD := Lib.hid hpd
  clear hT hB hvl hr hrv hpl hpd
  go_enter Tryz.func87, Tryz.ntmps87
  go_wp2_with fail
  refine (HT.out _ (by omega) hcap (by unfold maxLen at hc2; omega) ?_).mono ?_
  · exact HB.out.alloc _
  rintro e w1 ⟨⟨a', cap', rfl, h2, h3, h4⟩, rfl⟩
  rw [HRV.out, vals_length] at *
  obtain ⟨W, hW⟩ : ∃ W, W = w.alloc (.cells #[.bool false, .slice none 0 0, .int .i64 0] 73) := ⟨_, rfl⟩
  have F : W.heap.size = w.heap.size + 1 ∧ Below w.heap.size w W ∧ W.cell? ⟨w.heap.size, 0, none⟩ = some (.bool false) ∧ W.cell? ⟨w.heap.size, 1, none⟩ = some (.slice none 0 0) ∧ W.cell? ⟨w.heap.size, 2, none⟩ = some (.int .i64 0) ∧
      W.frozen? ⟨w.heap.size, 0, none⟩ = false ∧ W.frozen? ⟨w.heap.size, 1, none⟩ = false ∧ W.frozen? ⟨w.heap.size, 2, none⟩ = false := by
    subst hW
    exact ⟨by simp, (Below.refl _ _).alloc (Nat.le_refl _) _, by go_simp, by go_simp, by go_simp, by go_simp, by go_simp, by go_simp⟩
  obtain ⟨f1, f2, f3, f4, f5, f6, f7, f8⟩ := F
  rw [← hW] at h2 ⊢
  clear hW
  have hlt : w.heap.size < W.heap.size := by omega
  by_cases hr0 : r = []
  · have hp := HPL.out
    rw [if_pos hr0] at hp
    have HP := Lib.hid hp
    clear hp
    subst hr0
    go_wp2_with fail
    refine (whole_any 0 _ (by omega)).mono ?_
    rintro e w2 ⟨⟨g, cap2, rfl, ho⟩, hb2⟩
    have c0 := (hb2.cell (p := ⟨w.heap.size, 0, none⟩) hlt).trans f3
    have c1 := (hb2.cell (p := ⟨w.heap.size, 1, none⟩) hlt).trans f4
    have c2 := (hb2.cell (p := ⟨w.heap.size, 2, none⟩) hlt).trans f5
    have z0 := (hb2.frozen (p := ⟨w.heap.size, 0, none⟩) hlt).trans f6
    have z1 := (hb2.frozen (p := ⟨w.heap.size, 1, none⟩) hlt).trans f7
    have z2 := (hb2.frozen (p := ⟨w.heap.size, 2, none⟩) hlt).trans f8
    have hg := (ho.lt g rfl).1
    have hbb : Below w.heap.size w w2 := f2.trans (hb2.mono (by omega))
    clear f3 f4 f5 f6 f7 f8 hb2 f2
    go_wp2
    refine bodyPost_ret (v := .agg #[.bool false, .slice (some ⟨g, 0, none⟩) (decL 0).length cap2, .int .i64 0]) ?_ rfl ?_
    · simp [results, Tryz.results87, go_sem, c0, c1, c2]
    have hn : some w.heap.size ≠ (Value.slice (some ⟨g, 0, none⟩) (decL 0).length cap2).ownBlock := fun e => by simp [Value.ownBlock] at e; omega
    rw [HP.out]
    exact ⟨⟨_, rfl, num_own (w := w) (x := ([48], [])) (d := decL 0) (by rw [decL_small (by decide)]; rfl) rfl (own_set (own_set (own_set (own_mono ho (by omega)) hn _) hn _) hn _) ⟨by decide, rfl, by simp, by simp, by simp⟩⟩, ((hbb.setCell (Nat.le_refl _) _).setCell (Nat.le_refl _) _).setCell (Nat.le_refl _) _⟩
  · have hp := HPL.out
    rw [if_neg hr0] at hp
    have HP := Lib.hid hp
    clear hp
    have hpos : 0 < r.length := List.length_pos_iff.2 hr0
    obtain ⟨b, rfl, _⟩ := h2 0 (by rw [vals_length]; exact hpos)
    have hne : ((r.length : Int) == 0) = false := by simp; omega
    have hrl : r.length ≤ 100 := by rw [← HP.out]; omega
    have H2 := Lib.hid h2
    have HR0 := Lib.hid hr0
    clear h2 hr0
    go_wp2_with fail
    refine (clone_any r b cap' _ (by omega) H2.out).mono ?_
    rintro e w2 ⟨⟨v, rfl, ho⟩, hb2⟩
    obtain ⟨g, cap2, rfl, hg, hg2, _⟩ := own_some ho hpos
    have c0 := (hb2.cell (p := ⟨w.heap.size, 0, none⟩) hlt).trans f3
    have c1 := (hb2.cell (p := ⟨w.heap.size, 1, none⟩) hlt).trans f4
    have c2 := (hb2.cell (p := ⟨w.heap.size, 2, none⟩) hlt).trans f5
    have z0 := (hb2.frozen (p := ⟨w.heap.size, 0, none⟩) hlt).trans f6
    have z1 := (hb2.frozen (p := ⟨w.heap.size, 1, none⟩) hlt).trans f7
    have z2 := (hb2.frozen (p := ⟨w.heap.size, 2, none⟩) hlt).trans f8
    have hbb : Below w.heap.size w w2 := f2.trans (hb2.mono (by omega))
    clear f3 f4 f5 f6 f7 f8 hb2 f2
    go_wp2
    refine bodyPost_ret (v := .agg #[.bool false, .slice (some ⟨g, 0, none⟩) r.length cap2, .int .i64 0]) ?_ rfl ?_
    · simp [results, Tryz.results87, go_sem, c0, c1, c2]
    have hn : some w.heap.size ≠ (Value.slice (some ⟨g, 0, none⟩) r.length cap2).ownBlock := fun e => by simp [Value.ownBlock] at e; omega
    have hpd := HPD.out
    rw [HP.out] at hpd ⊢
    exact ⟨⟨_, rfl, num_own (w := w) (x := (r, [])) (List.append_nil _) rfl (own_set (own_set (own_set (own_mono ho (by omega)) hn _) hn _) hn _) ⟨hpd, rfl, HR0.out, hrl, by simp⟩⟩, ((hbb.setCell (Nat.le_refl _) _).setCell (Nat.le_refl _) _).setCell (Nat.le_refl _) _⟩

theorem vals_dig0 {l : List UInt8} (h : l.all isDig = true) : ∀ x ∈ vals l, 0 ≤ x ∧ x ≤ 9 := by
  intro x hx
  simp only [vals, List.mem_map] at hx
  obtain ⟨c, hc, rfl⟩ := hx
  have := (isDig_iff c).1 (List.all_eq_true.1 h c hc)
  omega

theorem any_brk (l : List UInt8) : (vals l).any (· != 0) = brk l := by
  have := zero_eq l
  unfold brk
  have h2 : (l.all (· == 48)) = !(l.any (· != 48)) := by
    rw [List.all_eq_not_any_not]
    rfl
  rw [h2] at this
  simpa using congrArg (fun b => !b) this

set_option maxHeartbeats 1000000 in
theorem int_any2 (g : Nat) (n cap sc : Nat) (b : Bool) (l : List Int) (w : World) (hl : l.length = n) (hs : sc ≤ n) (hcap : n ≤ cap) (hn : n ≤ 1000000) (hB : BytesAt w (some ⟨g, 0, none⟩) l) :
    Calls Tryz.prog 88 #[.agg #[.bool b, .slice (some ⟨g, 0, none⟩) n cap, .int .i64 sc]] w fun e w' => (∃ ad' cap', e = .returned (.slice ad' (n - sc) cap') ∧ n - sc ≤ cap' ∧ cap' ≤ cap ∧ BytesAt w' ad' (l.take (n - sc))) ∧ Below w.heap.size w w' := by
  obtain ⟨k, hk⟩ : ∃ k, n = k + sc := ⟨n - sc, by omega⟩
  subst hk
  rw [show k + sc - sc = k from by omega]
  have h0 : (0 : Int) ≤ ((k + sc : Nat) : Int) - (sc : Int) := by omega
  have h1 : ((k + sc : Nat) : Int) - (sc : Int) = (k : Int) := by omega
  have h2 : k ≤ cap := by omega
  go_enter Tryz.func88, Tryz.ntmps88
  go_wp2
  go_ret
  exact ⟨⟨_, _, rfl, by omega, by omega, (hB.alloc _).take k⟩, (Below.refl _ _).alloc (Nat.le_refl _) _⟩

set_option maxHeartbeats 1000000 in
theorem frac_any2 (g : Nat) (n cap sc : Nat) (b : Bool) (l : List Int) (w : World) (hl : l.length = n) (hs : sc ≤ n) (hcap : n ≤ cap) (hn : n ≤ 1000000) (hB : BytesAt w (some ⟨g, 0, none⟩) l) :
    Calls Tryz.prog 94 #[.agg #[.bool b, .slice (some ⟨g, 0, none⟩) n cap, .int .i64 sc]] w fun e w' => (∃ ad' cap', e = .returned (.slice (some ad') sc cap') ∧ sc ≤ cap' ∧ cap' ≤ cap ∧ BytesAt w' (some ad') (l.drop (n - sc))) ∧ Below w.heap.size w w' := by
  obtain ⟨k, hk⟩ : ∃ k, n = k + sc := ⟨n - sc, by omega⟩
  subst hk
  rw [show k + sc - sc = k from by omega]
  have h1 : ((k + sc : Nat) : Int) - (sc : Int) = (k : Int) := by omega
  have h2 : k ≤ cap := by omega
  go_enter Tryz.func94, Tryz.ntmps94
  by_cases hck : cap = k
  · have hz : l.drop k = [] := List.drop_of_length_le (by omega)
    have HZ := Lib.hid hz
    clear hz
    go_wp2
    go_ret
    refine ⟨⟨_, _, rfl, by omega, by omega, ?_⟩, (Below.refl _ _).alloc (Nat.le_refl _) _⟩
    rw [HZ.out]
    intro j hj
    simp at hj
  · go_wp2
    go_ret
    exact ⟨⟨_, _, rfl, by omega, by omega, (hB.alloc _).drop k⟩, (Below.refl _ _).alloc (Nat.le_refl _) _⟩

/-- a list of digits in memory, as a slice -/
def DigsV (w : World) (v : Value) (l : List UInt8) : Prop := ∃ a cap, v = .slice a l.length cap ∧ l.length ≤ cap ∧ cap ≤ maxLen ∧ BytesAt w a (vals l)

/-- the digits behind the point, of a number in memory -/
theorem frac_num2 (v : Value) (x : Dg) (w : World) (h : NumV w v x) :
    Calls Tryz.prog 94 #[v] w fun e w' => (∃ ad' cap', e = .returned (.slice (some ad') x.2.length cap') ∧ x.2.length ≤ cap' ∧ cap' ≤ maxLen ∧ BytesAt w' (some ad') (vals x.2)) ∧ Below w.heap.size w w' := by
  obtain ⟨b, g, cap, rfl, h2, h3, h4, h5, h6⟩ := h
  have h61 := h6.len1
  have h62 := h6.len2
  refine (frac_any2 g (x.1.length + x.2.length) cap x.2.length b (vals (x.1 ++ x.2)) w (by rw [vals_length]; simp) (by omega) h2 (by omega) h5).mono ?_
  rintro e w' ⟨⟨ad', cap', rfl, hc1, hc2, hB⟩, hb⟩
  refine ⟨⟨ad', cap', rfl, hc1, by omega, ?_⟩, hb⟩
  have : (vals (x.1 ++ x.2)).drop (x.1.length + x.2.length - x.2.length) = vals x.2 := by
    rw [Nat.add_sub_cancel, vals_append, List.drop_append_of_le_length (by rw [vals_length]; exact Nat.le_refl _), List.drop_of_length_le (by rw [vals_length]; exact Nat.le_refl _), List.nil_append]
  rw [this] at hB
  exact hB

theorem frac_num (v : Value) (x : Dg) (w : World) (h : NumV w v x) :
    Calls Tryz.prog 94 #[v] w fun e w' => (∃ ad' cap', e = .returned (.slice ad' x.2.length cap') ∧ x.2.length ≤ cap' ∧ cap' ≤ maxLen ∧ BytesAt w' ad' (vals x.2)) ∧ Below w.heap.size w w' :=
  (frac_num2 v x w h).mono fun _ _ ⟨⟨a, c, h1, h2, h3, h4⟩, hb⟩ => ⟨⟨some a, c, h1, h2, h3, h4⟩, hb⟩

theorem int_num (v : Value) (x : Dg) (w : World) (h : NumV w v x) :
    Calls Tryz.prog 88 #[v] w fun e w' => (∃ ad' cap', e = .returned (.slice ad' x.1.length cap') ∧ x.1.length ≤ cap' ∧ cap' ≤ maxLen ∧ BytesAt w' ad' (vals x.1)) ∧ Below w.heap.size w w' := by
  obtain ⟨b, g, cap, rfl, h2, h3, h4, h5, h6⟩ := h
  have h61 := h6.len1
  have h62 := h6.len2
  refine (int_any2 g (x.1.length + x.2.length) cap x.2.length b (vals (x.1 ++ x.2)) w (by rw [vals_length]; simp) (by omega) h2 (by omega) h5).mono ?_
  rintro e w' ⟨⟨ad', cap', rfl, hc1, hc2, hB⟩, hb⟩
  rw [Nat.add_sub_cancel] at hB hc1 ⊢
  refine ⟨⟨ad', cap', rfl, hc1, by omega, ?_⟩, hb⟩
  have : (vals (x.1 ++ x.2)).take x.1.length = vals x.1 := by
    rw [vals_append, List.take_append_of_le_length (by rw [vals_length]; exact Nat.le_refl _), List.take_of_length_le (by rw [vals_length]; exact Nat.le_refl _)]
  rw [this] at hB
  exact hB

set_option maxHeartbeats 1000000 in
theorem broken_any (v : Value) (x : Dg) (w : World) (h : NumV w v x) :
    Calls Tryz.prog 110 #[v] w fun e w' => e = .returned (.bool (brk x.2)) ∧ Below w.heap.size w w' := by
  have hb := any_brk x.2
  have hl := h.ok.len2
  have hF := fun W (hW : NumV W v x) => frac_num v x W hW
  have HF := Lib.hid hF
  have HH := Lib.hid h
  have HB := Lib.hid hb
  obtain ⟨b, g, cap, rfl, _, _, _, _, _⟩ := h
  clear hF hb
  go_enter Tryz.func110, Tryz.ntmps110
  go_wp2_with fail
  refine (HF.out _ (HH.out.below ((Below.refl _ _).alloc (Nat.le_refl _) _))).mono ?_
  rintro e w1 ⟨⟨ad', cap', rfl, _, _, hB⟩, hb1⟩
  have hbb : Below w.heap.size w w1 := ((Below.refl _ _).alloc (Nat.le_refl _) _).trans (hb1.mono (by simp))
  have hC := containsNZ_any (vals x.2) ad' cap' w1 (by rw [vals_length]; omega) hB
  rw [vals_length, HB.out] at hC
  have HC := Lib.hid hC
  clear hC hB hb1
  go_wp2_with fail
  refine HC.out.mono ?_
  rintro e w2 ⟨rfl, rfl⟩
  go_wp2
  go_ret
  exact ⟨rfl, hbb⟩

set_option maxHeartbeats 1000000 in
theorem abs_any (v : Value) (x : Dg) (w : World) (h : NumV w v x) : Calls Tryz.prog 85 #[v] w (NumPost' x w) := by
  have HH := Lib.hid h
  obtain ⟨b, g, cap, rfl, h2, h3, h4, h5, h6⟩ := h
  go_enter Tryz.func85, Tryz.ntmps85
  go_wp2
  refine bodyPost_ret (v := .agg #[.bool false, .slice (some ⟨g, 0, none⟩) (x.1.length + x.2.length) cap, .int .i64 x.2.length]) ?_ rfl ?_
  · simp [results, Tryz.results85, go_sem]
  have hb : Below w.heap.size w ((w.alloc (.cells #[.bool false, .slice (some ⟨g, 0, none⟩) (x.1.length + x.2.length) cap, .int .i64 x.2.length] 73)).alloc (.cells #[.bool false, .slice (some ⟨g, 0, none⟩) (x.1.length + x.2.length) cap, .int .i64 x.2.length] 73)) := ((Below.refl _ _).alloc (Nat.le_refl _) _).alloc (by simp) _
  exact ⟨⟨_, rfl, false, g, cap, rfl, h2, h3, Nat.lt_of_lt_of_le h4 hb.size, h5.below hb, h6⟩, hb⟩
end Go.Proofs.YtkhdbolnhcfgkaaGreatDoor

/- plural's short and operands; decimal's Compare and Mod. -/
namespace Go.Proofs.YtkhdbolnhcfgkaaGreatDoor
open Go Go.RowKit
set_option maxRecDepth 10000

theorem bytes_take {w : World} {a : Option Addr} {l : List Int} (h : BytesAt w a l) (k : Nat) : BytesAt w a (l.take k) := fun j hj => by
  obtain ⟨b, h1, h2⟩ := h j (by simp at hj; omega)
  exact ⟨b, h1, by simpa using h2⟩

theorem short_step {l : List UInt8} {k : Nat} (hk : k < l.length) (h : l[k] = 48) : shortL (l.take (k + 1)) = shortL (l.take k) := by
  rw [List.take_succ_eq_append_getElem hk, h, short_zero]

theorem short_here {l : List UInt8} {k : Nat} (hk : k < l.length) (h : ¬ l[k] = 48) : shortL (l.take (k + 1)) = l.take (k + 1) := by
  rw [List.take_succ_eq_append_getElem hk, short_keep _ _ h]

theorem val_zero_iff (c : UInt8) : (((c.toNat : Int) - 48) == 0) = (c == 48) := by
  have h2 := toNat_beq c 48
  have h3 : ((48 : UInt8).toNat : Int) = 48 := rfl
  rw [h3] at h2
  rw [Bool.eq_iff_iff, beq_iff_eq, beq_iff_eq]
  rw [Bool.eq_iff_iff, beq_iff_eq, decide_eq_true_eq] at h2
  rw [← h2]
  omega

set_option maxHeartbeats 1000000 in
theorem short_any (v : Value) (x : Dg) (w : World) (h : NumV w v x) :
    Calls Tryz.prog 92 #[v] w fun e w' => (∃ ad cap, e = .returned (.slice ad (shortL x.2).length cap) ∧ BytesAt w' ad (vals (shortL x.2)) ∧ (shortL x.2).length ≤ cap ∧ cap ≤ maxLen) ∧ Below w.heap.size w w' := by
  have hl := h.ok.len2
  have hF := fun W (hW : NumV W v x) => frac_num v x W hW
  have HF := Lib.hid hF
  have HH := Lib.hid h
  obtain ⟨b, g, cap, rfl, _, _, _, _, _⟩ := h
  clear hF
  go_enter Tryz.func92, Tryz.ntmps92
  go_wp2_with fail
  refine (HF.out _ (HH.out.below ((Below.refl _ _).alloc (Nat.le_refl _) _))).mono ?_
  rintro e w1 ⟨⟨ad', cap', rfl, hc1, hc2, hB⟩, hb1⟩
  have hbb : Below w.heap.size w w1 := ((Below.refl _ _).alloc (Nat.le_refl _) _).trans (hb1.mono (by simp))
  have HB := Lib.hid hB
  have hcm : cap' ≤ 9223372036854775807 := by unfold maxLen at hc2; omega
  clear hb1 hB
  obtain ⟨f, hf⟩ : ∃ f, f = x.2 := ⟨_, rfl⟩
  rw [← hf] at hl hc1 HB ⊢
  have HFE := Lib.hid hf
  clear hf
  go_wp2_with fail
  go_loop [3] (fun u => ∃ k cap2 : Nat, k ≤ f.length ∧ u = .slice ad' k cap2 ∧ k ≤ cap2 ∧ cap2 ≤ cap' ∧ shortL (f.take k) = shortL f) (fun u => match u with | .slice _ n _ => n | _ => 0)
  case atStart => exact ⟨f.length, cap', Nat.le_refl _, rfl, hc1, Nat.le_refl _, by rw [List.take_length]⟩
  case round =>
    obtain ⟨k, cap2, hk, rfl, h1, h2, hs⟩ := hrel
    have HS := Lib.hid hs
    clear hs
    by_cases h0 : k = 0
    · subst h0
      have hz : shortL f = [] := by rw [← HS.out]; rfl
      have HZ := Lib.hid hz
      clear hz
      go_wp2
      go_ret
      rw [← HFE.out, HZ.out]
      exact ⟨⟨ad', cap2, rfl, bytesAt_nil _ _, Nat.zero_le _, by omega⟩, hbb⟩
    · obtain ⟨m, rfl⟩ : ∃ m, k = m + 1 := ⟨k - 1, by omega⟩
      have hm : m < f.length := by omega
      obtain ⟨p, rfl, hc⟩ := HB.out m (by rw [vals_length]; exact hm)
      have hvm : (vals f)[m]'(by rw [vals_length]; exact hm) = (f[m].toNat : Int) - 48 := by simp [vals]
      rw [hvm] at hc
      have hz := val_zero_iff f[m]
      have e0 : ((m + 1 : Nat) : Int) - 1 = (m : Int) := by omega
      have e1 : (0 : Int) ≤ ((m + 1 : Nat) : Int) - 1 := by omega
      clear hvm
      by_cases h48 : f[m] = 48
      · have hz' : (((f[m].toNat : Int) - 48) == 0) = true := by rw [hz, h48]; rfl
        have hst := short_step hm h48
        rw [HS.out] at hst
        have HST := Lib.hid hst
        clear hst hz h48
        go_wp2
        exact ⟨⟨m, cap2, by omega, rfl, by omega, h2, HST.out.symm⟩, Nat.lt_succ_self _⟩
      · have hz' : (((f[m].toNat : Int) - 48) == 0) = false := by rw [hz]; simpa using h48
        have hst := short_here hm h48
        rw [HS.out] at hst
        have HST := Lib.hid hst
        clear hst hz h48
        go_wp2
        go_ret
        have hlen : (shortL f).length = m + 1 := by rw [HST.out]; simp; omega
        rw [← HFE.out, hlen]
        refine ⟨⟨some p, cap2, rfl, ?_, h1, by omega⟩, hbb⟩
        rw [HST.out, show vals (f.take (m + 1)) = (vals f).take (m + 1) by simp [vals]]
        exact bytes_take HB.out _

theorem short_dig {l : List UInt8} (h : l.all isDig = true) : (shortL l).all isDig = true := by
  unfold shortL
  rw [List.all_eq_true] at h ⊢
  intro c hc
  exact h c (List.mem_reverse.1 ((List.dropWhile_sublist _).subset (List.mem_reverse.1 hc)))
theorem short_len (l : List UInt8) : (shortL l).length ≤ l.length := by
  unfold shortL
  have := (List.dropWhile_sublist (· == 48) (l := l.reverse)).length_le
  simpa using this
end Go.Proofs.YtkhdbolnhcfgkaaGreatDoor

/- The document's rules: a relation. -/
namespace Go.Proofs.YtkhdbolnhcfgkaaGreatDoor
open Go Go.RowKit
set_option maxRecDepth 10000

/-- what the document's relation answers -/
def RelPost (r : Option Bool) (w : World) (e : Ending) (w' : World) : Prop :=
  (match r with | some h => e = .returned (.tuple #[.bool h, .bool true]) | none => ∃ h, e = .returned (.tuple #[.bool h, .bool false])) ∧ Below w.heap.size w w'

theorem operandL_ok {wh fr c a f : Wd} (hw : wh.all isDig = true) (hf : fr.all isDig = true) (hl : wh.length ≤ 1000) (hl2 : fr.length ≤ 1000) (h : operandL wh fr c = some (a, f)) : a.all isDig = true ∧ a.length ≤ 1000000 ∧ f.length ≤ 1000000 := by
  unfold operandL at h
  have h1 := short_len fr
  have h2 := plain_len wh
  have h3 := plain_len fr
  have h4 := plain_len (shortL fr)
  have h5 := decL_length fr.length
  have h6 := decL_length (shortL fr).length
  repeat' (split at h)
  all_goals (cases h)
  all_goals (first | exact ⟨hw, by omega, by omega⟩ | exact ⟨hw, by omega, by simp⟩ | exact ⟨plain_dig hw, by omega, by simp⟩ | exact ⟨plain_dig hf, by omega, by simp⟩ | exact ⟨plain_dig (short_dig hf), by omega, by simp⟩ | exact ⟨decL_dig _, by omega, by simp⟩)

theorem manner_le (a b : Wd) : (mannerL a b).2.2.2 ≤ 2 := by
  unfold mannerL
  repeat' split
  all_goals simp

theorem manner_two (a b : Wd) (h : (mannerL a b).2.2.2 = 2) : b ≠ [] := by
  rintro rfl
  unfold mannerL at h
  repeat' (split at h)
  all_goals (first | (exact absurd h (by decide)) | (rename_i q; exact absurd q.2 (by decide)))

set_option maxHeartbeats 2000000 in
theorem relation_short (v : Value) (ws : List Wd) (b : Bool) (wh fr : ByteArray) (w : World) (h : StrsAt w v ws) (hs : ws.length < 3) :
    Calls Tryz.prog 34 #[v, .agg #[.bool b, .string wh, .string fr]] w fun e w' => e = .returned (.tuple #[.bool false, .bool false]) ∧ Below w.heap.size w w' := by
  obtain ⟨a, cap, rfl, hl, hm, h0, hc⟩ := h
  clear hc
  obtain ⟨N, hN⟩ : ∃ N, ws.length = N := ⟨_, rfl⟩
  rw [hN] at hl hs ⊢
  clear hN
  have hlt : decide ((N : Int) < 3) = true := by simp; omega
  go_enter Tryz.func34, Tryz.ntmps34
  go_wp2
  go_ret2
  exact ⟨rfl, (Below.refl _ _).alloc (Nat.le_refl _) _⟩

set_option maxHeartbeats 600000 in
theorem relation_long (y : Addr) (N cap : Nat) (b : Bool) (wh fr : ByteArray) (x0 x1 x2 : Wd) (w : World) (hN : 3 ≤ N) (hN2 : N ≤ 1000000) (hcap : N ≤ cap) (hm : cap ≤ maxLen)
    (c0 : w.cell? y = some (strv x0)) (hfl : fr.size ≤ 1000) (hop : operandL wh.data.toList fr.data.toList x0 = none) :
    Calls Tryz.prog 34 #[.slice (some y) N cap, .agg #[.bool b, .string wh, .string fr]] w fun e w' => e = .returned (.tuple #[.bool false, .bool false]) ∧ Below w.heap.size w w' := by
  have hlt : decide ((N : Int) < 3) = false := by simp; omega
  have HOP := Lib.hid hop
  have hBy := World.block_lt_of_cell? w y c0
  clear hop
  go_enter Tryz.func34, Tryz.ntmps34
  go_wp2_with fail
  refine wp_gen ?_
  intro W hW
  have hbW : Below w.heap.size w W := by rw [hW]; exact (Below.refl _ _).alloc (Nat.le_refl _) _
  have cx0 : W.cell? ⟨w.heap.size, 0, none⟩ = some (.bool b) := by rw [hW]; exact cell_made _ _ _ _ _
  have cx1 : W.cell? ⟨w.heap.size, 1, none⟩ = some (.string wh) := by rw [hW]; exact cell_made _ _ _ _ _
  have cx2 : W.cell? ⟨w.heap.size, 2, none⟩ = some (.string fr) := by rw [hW]; exact cell_made _ _ _ _ _
  have c0' := (hbW.cell hBy).trans c0
  clear hW c0
  obtain ⟨B, hB⟩ : ∃ B, B = w.heap.size := ⟨_, rfl⟩
  rw [← hB] at cx0 cx1 cx2 ⊢
  have HB := Lib.hid hB
  clear hB
  have p0 : (0 : Int) < (N : Int) := by omega
  have p0n : 0 < N := by omega
  have hS0 : W.drew.cell? ⟨B, 0, none⟩ = some (.bool b) ∧ W.drew.cell? ⟨B, 1, none⟩ = some (.string wh) ∧ W.drew.cell? ⟨B, 2, none⟩ = some (.string fr) ∧ W.drew.cell? y = some (strv x0) := ⟨cx0, cx1, cx2, c0'⟩
  refine wp_region_takes (fun W' : World => W'.cell? ⟨B, 0, none⟩ = some (.bool b) ∧ W'.cell? ⟨B, 1, none⟩ = some (.string wh) ∧ W'.cell? ⟨B, 2, none⟩ = some (.string fr) ∧ W'.cell? y = some (strv x0)) [0, 1, 2, 3] 8 (by intro _ _ d _ _ h; cases d <;> exact h) (by kernel_rfl) (by kernel_rfl) hS0 ?_
  (iterate 4 (first | (refine takes_yes (v := ?_) rfl (by rfl) ?_ ?_; rotate_left; (focus ((intro w' hS'; (try dsimp only at hS'); go_simp; try (with_reducible rfl)); done)); (try simp only [Act.put, List.setIfInBounds_toArray, List.set_cons_zero, List.set_cons_succ])) | (refine takes_no rfl (by rfl) ?_; (try simp only [Act.put, List.setIfInBounds_toArray, List.set_cons_zero, List.set_cons_succ]))))
  refine takes_nil ?_
  refine wpAnyH_only 4 (by kernel_rfl) rfl (fun K hK => ?_)
  go_simp
  refine (operand_any b wh fr ⟨x0.toArray⟩ _ (by omega)).mono ?_
  rintro e w1 ⟨he, hb1⟩
  have hlt1 : ∀ {p : Addr} {u : Value}, W.cell? p = some u → w1.cell? p = some u := fun {p u} h => (hb1.cell (World.block_lt_of_cell? W p h)).trans h
  have hS1 : w1.cell? ⟨B, 0, none⟩ = some (.bool b) ∧ w1.cell? ⟨B, 1, none⟩ = some (.string wh) ∧ w1.cell? ⟨B, 2, none⟩ = some (.string fr) ∧ w1.cell? y = some (strv x0) := ⟨hlt1 cx0, hlt1 cx1, hlt1 cx2, hlt1 c0'⟩
  have hbb1 : Below w.heap.size w w1 := hbW.drew.trans (hb1.mono hbW.size)
  rw [show operandL wh.data.toList fr.data.toList (⟨x0.toArray⟩ : ByteArray).data.toList = none from HOP.out] at he
  obtain rfl := he
  go_simp
  refine hK.out _ _ hS1 (fun _ => ?_)
  clear hK K
  refine wpAnyH_more [5, 6, 7, 8, 9, 10, 11] 0 rfl (by intro _ _ d _ _ h; cases d <;> exact h) (by kernel_rfl) (by kernel_rfl) hS1 ?_
  (iterate 7 (first | (refine takes_yes (v := ?_) rfl (by rfl) ?_ ?_; rotate_left; (focus ((intro w' hS'; (try dsimp only at hS'); go_simp; try (with_reducible rfl)); done)); (try simp only [Act.put, List.setIfInBounds_toArray, List.set_cons_zero, List.set_cons_succ])) | (refine takes_no rfl (by rfl) ?_; (try simp only [Act.put, List.setIfInBounds_toArray, List.set_cons_zero, List.set_cons_succ]))))
  refine takes_nil ?_
  refine wpAnyH_done (by kernel_rfl) ?_ _
  go_wp2
  go_ret2
  exact ⟨rfl, hbb1⟩
/-- what is left of a list of texts from k on -/
theorem StrsAt.rest {w : World} {y : Addr} {n cap k : Nat} {ws : List Wd} (h : StrsAt w (.slice (some y) n cap) ws) (hk : k ≤ n) : StrsAt w (.slice (some (y.add k)) (n - k) (cap - k)) (ws.drop k) := by
  obtain ⟨a, c, hv, hl, hm, h0, hc⟩ := h
  simp only [Value.slice.injEq] at hv
  obtain ⟨rfl, rfl, rfl⟩ := hv
  have h2 := StrsAt.piece (w := w) (a := y) (cap := cap) (ws := ws) rfl hl hm (fun j hj => by
    obtain ⟨b, hb1, hb2⟩ := hc j hj
    cases hb1
    exact hb2) k ws.length hk (Nat.le_refl _)
  rwa [List.take_length] at h2

theorem StrsAt.none_left {w : World} {a : Option Addr} : StrsAt w (.slice a 0 0) [] := ⟨a, 0, rfl, Nat.le_refl _, Nat.zero_le _, fun _ => rfl, fun j h => absurd h (Nat.not_lt_zero j)⟩
end Go.Proofs.YtkhdbolnhcfgkaaGreatDoor

/- The document's rules: a relation without a modulus. -/
namespace Go.Proofs.YtkhdbolnhcfgkaaGreatDoor
open Go Go.RowKit
set_option maxRecDepth 10000

set_option maxHeartbeats 600000 in
theorem relation_plain (y : Addr) (N cap : Nat) (b : Bool) (wh fr : ByteArray) (x0 x1 A F : Wd) (ws : List Wd) (w : World) (hN : 3 ≤ N) (hN2 : N ≤ 1000000) (hcap : N ≤ cap) (hm : cap ≤ maxLen)
    (c0 : w.cell? y = some (strv x0)) (hfl : fr.size ≤ 1000) (c1 : w.cell? ⟨y.block, y.off + 1, none⟩ = some (strv x1)) (hst : StrsAt w (.slice (some y) N cap) ws) (hx : ∀ x ∈ ws, x.length ≤ 1000000) (hA : A.length ≤ 1000000) (hF : F.length ≤ 1000000) (hop : operandL wh.data.toList fr.data.toList x0 = some (A, F)) (hm1 : ¬ x1 = [109, 111, 100]) (hm2 : ¬ x1 = [37]) :
    Calls Tryz.prog 34 #[.slice (some y) N cap, .agg #[.bool b, .string wh, .string fr]] w fun e w' => RelPost (relTail (ws.drop 1) A F) w e w' := by
  have hlt : decide ((N : Int) < 3) = false := by simp; omega
  have HOP := Lib.hid hop
  have HST := Lib.hid hst
  have HX := Lib.hid hx
  clear hx
  have q1 : (x1 == [109, 111, 100]) = false := by simpa using hm1
  have q2 : (x1 == [37]) = false := by simpa using hm2
  clear hst hm1 hm2
  have hBy := World.block_lt_of_cell? w y c0
  clear hop
  go_enter Tryz.func34, Tryz.ntmps34
  go_wp2_with fail
  refine wp_gen ?_
  intro W hW
  have hbW : Below w.heap.size w W := by rw [hW]; exact (Below.refl _ _).alloc (Nat.le_refl _) _
  have cx0 : W.cell? ⟨w.heap.size, 0, none⟩ = some (.bool b) := by rw [hW]; exact cell_made _ _ _ _ _
  have cx1 : W.cell? ⟨w.heap.size, 1, none⟩ = some (.string wh) := by rw [hW]; exact cell_made _ _ _ _ _
  have cx2 : W.cell? ⟨w.heap.size, 2, none⟩ = some (.string fr) := by rw [hW]; exact cell_made _ _ _ _ _
  have c0' := (hbW.cell hBy).trans c0
  have c1' := (hbW.cell (World.block_lt_of_cell? w _ c1)).trans c1
  clear hW c0 c1
  obtain ⟨B, hB⟩ : ∃ B, B = w.heap.size := ⟨_, rfl⟩
  rw [← hB] at cx0 cx1 cx2 ⊢
  have HB := Lib.hid hB
  clear hB
  have p0 : (0 : Int) < (N : Int) := by omega
  have p0n : 0 < N := by omega
  have hS0 : W.drew.cell? ⟨B, 0, none⟩ = some (.bool b) ∧ W.drew.cell? ⟨B, 1, none⟩ = some (.string wh) ∧ W.drew.cell? ⟨B, 2, none⟩ = some (.string fr) ∧ W.drew.cell? y = some (strv x0) := ⟨cx0, cx1, cx2, c0'⟩
  refine wp_region_takes (fun W' : World => W'.cell? ⟨B, 0, none⟩ = some (.bool b) ∧ W'.cell? ⟨B, 1, none⟩ = some (.string wh) ∧ W'.cell? ⟨B, 2, none⟩ = some (.string fr) ∧ W'.cell? y = some (strv x0)) [0, 1, 2, 3] 8 (by intro _ _ d _ _ h; cases d <;> exact h) (by kernel_rfl) (by kernel_rfl) hS0 ?_
  (iterate 4 (first | (refine takes_yes (v := ?_) rfl (by rfl) ?_ ?_; rotate_left; (focus ((intro w' hS'; (try dsimp only at hS'); go_simp; try (with_reducible rfl)); done)); (try simp only [Act.put, List.setIfInBounds_toArray, List.set_cons_zero, List.set_cons_succ])) | (refine takes_no rfl (by rfl) ?_; (try simp only [Act.put, List.setIfInBounds_toArray, List.set_cons_zero, List.set_cons_succ]))))
  refine takes_nil ?_
  refine wpAnyH_only 4 (by kernel_rfl) rfl (fun K hK => ?_)
  go_simp
  refine (operand_any b wh fr ⟨x0.toArray⟩ _ (by omega)).mono ?_
  rintro e w1 ⟨he, hb1⟩
  have hlt1 : ∀ {p : Addr} {u : Value}, W.cell? p = some u → w1.cell? p = some u := fun {p u} h => (hb1.cell (World.block_lt_of_cell? W p h)).trans h
  have hS1 : w1.cell? ⟨B, 0, none⟩ = some (.bool b) ∧ w1.cell? ⟨B, 1, none⟩ = some (.string wh) ∧ w1.cell? ⟨B, 2, none⟩ = some (.string fr) ∧ w1.cell? y = some (strv x0) := ⟨hlt1 cx0, hlt1 cx1, hlt1 cx2, hlt1 c0'⟩
  have hbb1 : Below w.heap.size w w1 := hbW.drew.trans (hb1.mono hbW.size)
  rw [show operandL wh.data.toList fr.data.toList (⟨x0.toArray⟩ : ByteArray).data.toList = some (A, F) from HOP.out] at he
  obtain rfl := he
  have c1'' := hlt1 c1'
  go_simp
  refine hK.out _ _ hS1 (fun _ => ?_)
  clear hK K
  refine wpAnyH_more [5, 6, 7, 8, 9, 10, 11] 0 rfl (by intro _ _ d _ _ h; cases d <;> exact h) (by kernel_rfl) (by kernel_rfl) hS1 ?_
  (iterate 7 (first | (refine takes_yes (v := ?_) rfl (by rfl) ?_ ?_; rotate_left; (focus ((intro w' hS'; (try dsimp only at hS'); go_simp; try (with_reducible rfl)); done)); (try simp only [Act.put, List.setIfInBounds_toArray, List.set_cons_zero, List.set_cons_succ])) | (refine takes_no rfl (by rfl) ?_; (try simp only [Act.put, List.setIfInBounds_toArray, List.set_cons_zero, List.set_cons_succ]))))
  refine takes_nil ?_
  refine wpAnyH_done (by kernel_rfl) ?_ _
  have n1 : 1 ≤ N := by omega
  have n1i : (1 : Int) ≤ (N : Int) := by omega
  have k1 : ¬ cap = 1 := by omega
  have k1i : ¬ (cap : Int) = 1 := by omega
  have k2 : 1 < N := by omega
  go_wp2_with fail
  have hlen : ws.length = N := by
    obtain ⟨a, c, hv, -⟩ := HST.out
    simp only [Value.slice.injEq] at hv
    exact hv.2.1.symm
  have hst1 : StrsAt w1 (.slice (some ⟨y.block, y.off + 1, none⟩) (N - 1) (cap - 1)) (ws.drop 1) := by
    have h2 := (HST.out.rest n1).below hbb1
    simpa [Addr.add] using h2
  have HST1 := Lib.hid hst1
  have hdl : (ws.drop 1).length = N - 1 := by rw [List.length_drop, hlen]
  obtain ⟨nt, wi, one, n, hman⟩ : ∃ nt wi one n, mannerL ((ws.drop 1).getD 0 []) ((ws.drop 1).getD 1 []) = (nt, wi, one, n) := ⟨_, _, _, _, rfl⟩
  have HMAN := Lib.hid hman
  have hn2 : n ≤ 2 := by have := manner_le ((ws.drop 1).getD 0 []) ((ws.drop 1).getD 1 []); rw [hman] at this; exact this
  have hmany := manner_any _ _ _ hst1 (by omega) (fun q => by rw [q] at hdl; simp at hdl; omega)
  rw [hman] at hmany
  refine hmany.mono ?_
  clear hmany hst1 hman
  rintro e w2 ⟨rfl, rfl⟩
  by_cases hn0 : n = 0
  · have hz : ((n : Int) == 0) = true := by simp; omega
    have HR := Lib.hid (show relTail (ws.drop 1) A F = none by unfold relTail; rw [HMAN.out]; simp [hn0])
    clear hn0 hlen hdl
    go_wp2
    go_ret2
    exact ⟨by rw [HR.out]; exact ⟨false, rfl⟩, hbb1⟩
  · have hz : ((n : Int) == 0) = false := by simp; omega
    have hle : n ≤ N - 1 := by omega
    have HLEN := Lib.hid hlen
    have HDL := Lib.hid hdl
    clear hlen hdl
    obtain ⟨r, hr⟩ : ∃ r, listedL ((ws.drop 1).drop n) A F wi one = r := ⟨_, rfl⟩
    have HRL := Lib.hid hr
    have HR := Lib.hid (show relTail (ws.drop 1) A F = r.map (fun b => b != nt) by unfold relTail; rw [HMAN.out]; dsimp only; rw [if_neg hn0, hr])
    have HLA := Lib.hid (fun v w h => listed_any v ((ws.drop 1).drop n) ⟨A.toArray⟩ ⟨F.toArray⟩ wi one w h (by rw [List.length_drop, HDL.out]; omega) (fun x hx => HX.out x (List.mem_of_mem_drop (List.mem_of_mem_drop hx))) hA hF)
    clear hr
    by_cases hcn : cap - 1 = n
    · have hN3 : n = N - 1 := by omega
      have hst2 : StrsAt w1 (.slice (some ⟨y.block, y.off + 1, none⟩) 0 0) ((ws.drop 1).drop n) := by
        rw [List.drop_of_length_le (by rw [HDL.out]; omega)]
        exact StrsAt.none_left
      obtain rfl : n = 2 := by omega
      obtain rfl : N = 3 := by omega
      obtain rfl : cap = 3 := by omega
      clear hn0 hcn
      go_wp2_with fail
      refine (HLA.out _ _ hst2).mono ?_
      rw [show listedL ((ws.drop 1).drop 2) (⟨A.toArray⟩ : ByteArray).data.toList (⟨F.toArray⟩ : ByteArray).data.toList wi one = r from HRL.out]
      rintro e w3 ⟨rfl, hb3⟩
      have hbb3 := hbb1.trans (hb3.mono hbb1.size)
      cases r <;>
      · go_wp2
        go_ret2
        exact ⟨by rw [HR.out]; first | rfl | exact ⟨_, rfl⟩, hbb3⟩
    · have hst2 : StrsAt w1 (.slice (some ⟨y.block, y.off + 1 + n, none⟩) (N - 1 - n) (cap - 1 - n)) ((ws.drop 1).drop n) := by
        have h2 := HST1.out.rest hle
        have e : (⟨y.block, y.off + 1, none⟩ : Addr).add n = ⟨y.block, y.off + 1 + n, none⟩ := by simp [Addr.add, hn0]
        rwa [e] at h2
      have hcn2 : ¬ n = cap - 1 := fun q => hcn q.symm
      have hlei : (n : Int) ≤ ((N - 1 : Nat) : Int) := by omega
      have h0i : (0 : Int) ≤ (n : Int) := by omega
      have htn : ((n : Int)).toNat = n := by omega
      go_wp2_with fail
      refine (HLA.out _ _ hst2).mono ?_
      rw [show listedL ((ws.drop 1).drop n) (⟨A.toArray⟩ : ByteArray).data.toList (⟨F.toArray⟩ : ByteArray).data.toList wi one = r from HRL.out]
      rintro e w3 ⟨rfl, hb3⟩
      have hbb3 := hbb1.trans (hb3.mono hbb1.size)
      cases r <;>
      · go_wp2
        go_ret2
        exact ⟨by rw [HR.out]; first | rfl | exact ⟨_, rfl⟩, hbb3⟩
end Go.Proofs.YtkhdbolnhcfgkaaGreatDoor

/- The document's rules: a relation with a modulus. -/
namespace Go.Proofs.YtkhdbolnhcfgkaaGreatDoor
open Go Go.RowKit
set_option maxRecDepth 10000

set_option maxHeartbeats 600000 in
theorem relation_modbad (y : Addr) (N cap : Nat) (b : Bool) (wh fr : ByteArray) (x0 x1 A F : Wd) (ws : List Wd) (w : World) (hN : 3 ≤ N) (hN2 : N ≤ 1000000) (hcap : N ≤ cap) (hm : cap ≤ maxLen)
    (c0 : w.cell? y = some (strv x0)) (hfl : fr.size ≤ 1000) (c1 : w.cell? ⟨y.block, y.off + 1, none⟩ = some (strv x1)) (hst : StrsAt w (.slice (some y) N cap) ws)  (hop : operandL wh.data.toList fr.data.toList x0 = some (A, F)) (hmw : modW x1 = true) (x2 : Wd) (c2 : w.cell? ⟨y.block, y.off + 2, none⟩ = some (strv x2)) (hx2 : x2.length ≤ 1000000) (hbad : ¬ (figB x2 = true ∧ x2 ≠ [48] ∧ 5 ≤ N)) :
    Calls Tryz.prog 34 #[.slice (some y) N cap, .agg #[.bool b, .string wh, .string fr]] w fun e w' => e = .returned (.tuple #[.bool false, .bool false]) ∧ Below w.heap.size w w' := by
  have hlt : decide ((N : Int) < 3) = false := by simp; omega
  have HOP := Lib.hid hop
  have HST := Lib.hid hst
  have HMW := Lib.hid hmw
  have HBAD := Lib.hid hbad
  have sx2 : (⟨x2.toArray⟩ : ByteArray).size ≤ 1000000 := hx2
  clear hst hmw hbad hx2
  have hBy := World.block_lt_of_cell? w y c0
  clear hop
  go_enter Tryz.func34, Tryz.ntmps34
  go_wp2_with fail
  refine wp_gen ?_
  intro W hW
  have hbW : Below w.heap.size w W := by rw [hW]; exact (Below.refl _ _).alloc (Nat.le_refl _) _
  have cx0 : W.cell? ⟨w.heap.size, 0, none⟩ = some (.bool b) := by rw [hW]; exact cell_made _ _ _ _ _
  have cx1 : W.cell? ⟨w.heap.size, 1, none⟩ = some (.string wh) := by rw [hW]; exact cell_made _ _ _ _ _
  have cx2 : W.cell? ⟨w.heap.size, 2, none⟩ = some (.string fr) := by rw [hW]; exact cell_made _ _ _ _ _
  have c0' := (hbW.cell hBy).trans c0
  have c1' := (hbW.cell (World.block_lt_of_cell? w _ c1)).trans c1
  have c2' := (hbW.cell (World.block_lt_of_cell? w _ c2)).trans c2
  clear hW c0 c1 c2
  obtain ⟨B, hB⟩ : ∃ B, B = w.heap.size := ⟨_, rfl⟩
  rw [← hB] at cx0 cx1 cx2 ⊢
  have HB := Lib.hid hB
  clear hB
  have p0 : (0 : Int) < (N : Int) := by omega
  have p0n : 0 < N := by omega
  have hS0 : W.drew.cell? ⟨B, 0, none⟩ = some (.bool b) ∧ W.drew.cell? ⟨B, 1, none⟩ = some (.string wh) ∧ W.drew.cell? ⟨B, 2, none⟩ = some (.string fr) ∧ W.drew.cell? y = some (strv x0) := ⟨cx0, cx1, cx2, c0'⟩
  refine wp_region_takes (fun W' : World => W'.cell? ⟨B, 0, none⟩ = some (.bool b) ∧ W'.cell? ⟨B, 1, none⟩ = some (.string wh) ∧ W'.cell? ⟨B, 2, none⟩ = some (.string fr) ∧ W'.cell? y = some (strv x0)) [0, 1, 2, 3] 8 (by intro _ _ d _ _ h; cases d <;> exact h) (by kernel_rfl) (by kernel_rfl) hS0 ?_
  (iterate 4 (first | (refine takes_yes (v := ?_) rfl (by rfl) ?_ ?_; rotate_left; (focus ((intro w' hS'; (try dsimp only at hS'); go_simp; try (with_reducible rfl)); done)); (try simp only [Act.put, List.setIfInBounds_toArray, List.set_cons_zero, List.set_cons_succ])) | (refine takes_no rfl (by rfl) ?_; (try simp only [Act.put, List.setIfInBounds_toArray, List.set_cons_zero, List.set_cons_succ]))))
  refine takes_nil ?_
  refine wpAnyH_only 4 (by kernel_rfl) rfl (fun K hK => ?_)
  go_simp
  refine (operand_any b wh fr ⟨x0.toArray⟩ _ (by omega)).mono ?_
  rintro e w1 ⟨he, hb1⟩
  have hlt1 : ∀ {p : Addr} {u : Value}, W.cell? p = some u → w1.cell? p = some u := fun {p u} h => (hb1.cell (World.block_lt_of_cell? W p h)).trans h
  have hS1 : w1.cell? ⟨B, 0, none⟩ = some (.bool b) ∧ w1.cell? ⟨B, 1, none⟩ = some (.string wh) ∧ w1.cell? ⟨B, 2, none⟩ = some (.string fr) ∧ w1.cell? y = some (strv x0) := ⟨hlt1 cx0, hlt1 cx1, hlt1 cx2, hlt1 c0'⟩
  have hbb1 : Below w.heap.size w w1 := hbW.drew.trans (hb1.mono hbW.size)
  rw [show operandL wh.data.toList fr.data.toList (⟨x0.toArray⟩ : ByteArray).data.toList = some (A, F) from HOP.out] at he
  obtain rfl := he
  have c1'' := hlt1 c1'
  have c2'' := hlt1 c2'
  go_simp
  refine hK.out _ _ hS1 (fun _ => ?_)
  clear hK K
  refine wpAnyH_more [5, 6, 7, 8, 9, 10, 11] 0 rfl (by intro _ _ d _ _ h; cases d <;> exact h) (by kernel_rfl) (by kernel_rfl) hS1 ?_
  (iterate 7 (first | (refine takes_yes (v := ?_) rfl (by rfl) ?_ ?_; rotate_left; (focus ((intro w' hS'; (try dsimp only at hS'); go_simp; try (with_reducible rfl)); done)); (try simp only [Act.put, List.setIfInBounds_toArray, List.set_cons_zero, List.set_cons_succ])) | (refine takes_no rfl (by rfl) ?_; (try simp only [Act.put, List.setIfInBounds_toArray, List.set_cons_zero, List.set_cons_succ]))))
  refine takes_nil ?_
  refine wpAnyH_done (by kernel_rfl) ?_ _
  have n1 : 1 ≤ N := by omega
  have n1i : (1 : Int) ≤ (N : Int) := by omega
  have k1 : ¬ cap = 1 := by omega
  have k1i : ¬ (cap : Int) = 1 := by omega
  have k2 : 1 < N := by omega
  have k3 : 1 < N - 1 := by omega
  have k3i : (1 : Int) < ((N - 1 : Nat) : Int) := by omega
  have hmm : x1 = [109, 111, 100] ∨ x1 = [37] := by
    have := HMW.out
    unfold modW at this
    simpa using this
  rcases hmm with rfl | rfl <;>
  · go_wp2_with fail
    refine (figure_any ⟨x2.toArray⟩ _ sx2).mono ?_
    cases hF : figB x2
    · rintro e w2 ⟨rfl, hd⟩
      have hb2 : Below w1.heap.size w1 w2 := by obtain ⟨nn, rfl⟩ := hd; exact below_drewN (Below.refl _ _) nn
      have hbb2 := hbb1.trans (hb2.mono hbb1.size)
      clear hd hF
      go_wp2
      go_ret2
      exact ⟨rfl, hbb2⟩
    · rintro e w2 ⟨rfl, hd⟩
      have hb2 : Below w1.heap.size w1 w2 := by obtain ⟨nn, rfl⟩ := hd; exact below_drewN (Below.refl _ _) nn
      have hbb2 := hbb1.trans (hb2.mono hbb1.size)
      by_cases hz : x2 = [48]
      · have hz' : (x2 == [48]) = true := by simpa using hz
        clear hd hF hz
        go_wp2
        go_ret2
        exact ⟨rfl, hbb2⟩
      · have hz' : (x2 == [48]) = false := by simpa using hz
        have h4 : N - 1 < 4 := by
          rcases Nat.lt_or_ge (N - 1) 4 with q | q
          · exact q
          · exact absurd ⟨hF, hz, by omega⟩ HBAD.out
        have h4' : decide (((N - 1 : Nat) : Int) < 4) = true := by simp; omega
        clear hd hF hz
        go_wp2
        go_ret2
        exact ⟨rfl, hbb2⟩
end Go.Proofs.YtkhdbolnhcfgkaaGreatDoor
