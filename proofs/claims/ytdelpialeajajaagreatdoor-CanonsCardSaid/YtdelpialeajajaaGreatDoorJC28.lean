import Derived.Test.YtdelpialeajajaaGreatDoorJC27
import Derived.Lib.Replace
import Derived.Lib.TrimByte
import Derived.Lib.ItoaNum
import Derived.Shelf.GgClosure.StringsIndexFunc

/- The library's searches in a text, as the writer uses them: up to the first that stands for itself; apostrophes twice; quotes; a number's digits. -/
namespace Go.Proofs.YtdelpialeajajaaGreatDoor
open Go Go.RowKit
set_option maxRecDepth 10000

/-- is a point none of those -/
def nqR (num : Bool) (r : Nat) : Bool := decide (r ≠ 39) && !specialL (r : Int) num
/-- is it one -/
def yqR (num : Bool) (r : Nat) : Bool := decide (r = 39) || specialL (r : Int) num
theorem yq_nq (num : Bool) (r : Nat) : nqR num r = !yqR num r := by
  unfold nqR yqR
  by_cases h : r = 39
  · simp [h]
  · simp [h]
theorem yq_small (num : Bool) (c : UInt8) : yqR num c.toNat = qB num c := by
  have e : ∀ k : Nat, k < 256 → ((c == UInt8.ofNat k) = decide (c.toNat = k)) := fun k hk => by
    rw [Bool.eq_iff_iff, beq_iff_eq, decide_eq_true_eq]
    constructor
    · intro h; rw [h, UInt8.toNat_ofNat', Nat.mod_eq_of_lt (by omega)]
    · intro h
      apply UInt8.toNat_inj.1
      rw [UInt8.toNat_ofNat', Nat.mod_eq_of_lt (by omega)]
      exact h
  unfold yqR qB specialL
  have e1 : (c == 39) = decide (c.toNat = 39) := e 39 (by omega)
  have e2 : (c == 123) = decide (c.toNat = 123) := e 123 (by omega)
  have e3 : (c == 125) = decide (c.toNat = 125) := e 125 (by omega)
  have e4 : (c == 35) = decide (c.toNat = 35) := e 35 (by omega)
  have f : ∀ k : Nat, (((c.toNat : Int)) == (k : Int)) = decide (c.toNat = k) := fun k => by
    rw [Bool.eq_iff_iff, beq_iff_eq, decide_eq_true_eq]
    omega
  have f2 : ((c.toNat : Int) == 123) = decide (c.toNat = 123) := f 123
  have f3 : ((c.toNat : Int) == 125) = decide (c.toNat = 125) := f 125
  have f4 : ((c.toNat : Int) == 35) = decide (c.toNat = 35) := f 35
  rw [e1, e2, e3, e4, f2, f3, f4]
theorem yq_big (num : Bool) {r : Nat} (h : 128 ≤ r) : yqR num r = false := by
  unfold yqR specialL
  have f : ∀ k : Nat, k < 128 → ((r : Int) == (k : Int)) = false := fun k hk => by
    rw [beq_eq_false_iff_ne]
    omega
  have f2 : ((r : Int) == 123) = false := f 123 (by omega)
  have f3 : ((r : Int) == 125) = false := f 125 (by omega)
  have f4 : ((r : Int) == 35) = false := f 35 (by omega)
  rw [f2, f3, f4, decide_eq_false (by omega)]
  rfl
theorem qB_big (num : Bool) {c : UInt8} (h : 128 ≤ c.toNat) : qB num c = false := by rw [← yq_small, yq_big num h]

/-- what is read at a place: a small byte, or a point of big bytes -/
theorem dec_kind (s : ByteArray) (p : Nat) (hp : p < s.size) : ((s[p].toNat < 128) ∧ Utf8.decode s p = (s[p].toNat, 1)) ∨
    (128 ≤ s[p].toNat ∧ 128 ≤ (Utf8.decode s p).1 ∧ 1 ≤ (Utf8.decode s p).2 ∧ ∀ j, j < (Utf8.decode s p).2 → p + j < s.size ∧ 128 ≤ (s.get! (p + j)).toNat) := by
  have hg : s.get! (p + 0) = s[p] := by
    show s.data[p + 0]! = _
    rw [Nat.add_zero, getElem!_pos s.data p (by simpa using hp)]
    rfl
  by_cases h1 : s[p].toNat < 128
  · refine .inl ⟨h1, ?_⟩
    unfold Utf8.decode
    simp only [hg]
    rw [if_pos (by omega)]
  · refine .inr ⟨by omega, ?_⟩
    have hb := s[p].toNat_lt
    unfold Utf8.decode
    simp only [hg]
    rw [if_neg (by omega)]
    have j0 : ∀ j, j < 1 → p + j < s.size ∧ 128 ≤ (s.get! (p + j)).toNat := fun j hj => by
      have : j = 0 := by omega
      subst this
      rw [hg]
      exact ⟨hp, by omega⟩
    have one : 128 ≤ (Utf8.runeError, 1).1 ∧ 1 ≤ (Utf8.runeError, 1).2 ∧ ∀ j, j < (Utf8.runeError, 1).2 → p + j < s.size ∧ 128 ≤ (s.get! (p + j)).toNat := ⟨by decide, Nat.le_refl _, j0⟩
    split
    · next h2 =>
      simp only [Bool.and_eq_true, beq_iff_eq, decide_eq_true_eq] at h2
      split
      · refine ⟨by omega, by show 1 ≤ 2; decide, fun j hj => ?_⟩
        rcases (show j = 0 ∨ j = 1 by simp at hj; omega) with rfl | rfl
        · exact j0 0 (by omega)
        · exact ⟨h2.2.1, by omega⟩
      · exact one
    split
    · next h2 =>
      simp only [Bool.and_eq_true, beq_iff_eq, decide_eq_true_eq] at h2
      split
      · next h3 =>
        simp only [Bool.and_eq_true, decide_eq_true_eq] at h3
        refine ⟨by omega, by show 1 ≤ 3; decide, fun j hj => ?_⟩
        rcases (show j = 0 ∨ j = 1 ∨ j = 2 by simp at hj; omega) with rfl | rfl | rfl
        · exact j0 0 (by omega)
        · exact ⟨h2.1.2.1, by omega⟩
        · exact ⟨h2.2.1, by omega⟩
      · exact one
    split
    · next h2 =>
      simp only [Bool.and_eq_true, beq_iff_eq, decide_eq_true_eq] at h2
      split
      · next h3 =>
        simp only [Bool.and_eq_true, decide_eq_true_eq] at h3
        refine ⟨by omega, by show 1 ≤ 4; decide, fun j hj => ?_⟩
        rcases (show j = 0 ∨ j = 1 ∨ j = 2 ∨ j = 3 by simp at hj; omega) with rfl | rfl | rfl | rfl
        · exact j0 0 (by omega)
        · exact ⟨h2.1.1.2.1, by omega⟩
        · exact ⟨h2.1.2.1, by omega⟩
        · exact ⟨h2.2.1, by omega⟩
      · exact one
    · exact one

theorem get_drop (s : ByteArray) (p : Nat) (hp : p < s.size) : s.data.toList.drop p = s.get! p :: s.data.toList.drop (p + 1) := by
  rw [List.drop_eq_getElem_cons (by simpa using hp)]
  congr 1
  show _ = s.data[p]!
  rw [getElem!_pos s.data p (by simpa using hp)]
  simp
/-- the first point that stands for itself -/
theorem idx_no (num : Bool) (s : ByteArray) : ∀ (f p : Nat), s.size ≤ p + f → p ≤ s.size → Lib.idxFuncFrom (nqR num) true s f p =
    if p + ((s.data.toList.drop p).takeWhile (qB num)).length < s.size then ((p + ((s.data.toList.drop p).takeWhile (qB num)).length : Nat) : Int) else -1
  | 0, p, h, hp => by
    rw [List.drop_of_length_le (by simp; omega)]
    rw [if_neg (by simp <;> omega)]
    rfl
  | f + 1, p, h, hp => by
    rw [Lib.idxFuncFrom]
    by_cases hlt : p < s.size
    · rw [if_pos hlt]
      have hgp : s.get! p = s[p] := by
        show s.data[p]! = _
        rw [getElem!_pos s.data p (by simpa using hlt)]
        rfl
      rw [get_drop s p hlt, hgp]
      rcases dec_kind s p hlt with ⟨h1, h2⟩ | ⟨h1, h2, h3, h4⟩
      · rw [h2]
        dsimp only
        rw [yq_nq, yq_small]
        by_cases hq : qB num s[p] = true
        · rw [hq, if_neg (by decide), idx_no num s f (p + 1) (by omega) (by omega), List.takeWhile_cons_of_pos hq, List.length_cons]
          generalize ((s.data.toList.drop (p + 1)).takeWhile (qB num)).length = L
          rw [show p + (L + 1) = p + 1 + L by omega]
        · rw [Bool.not_eq_true] at hq
          rw [hq, if_pos (show (!false) = true from rfl), List.takeWhile_cons_of_neg (by rw [hq]; decide)]
          rw [if_pos (by simpa using hlt)]
          rfl
      · rw [yq_nq, yq_big num h2, if_pos (show (!false) = true from rfl), List.takeWhile_cons_of_neg (by rw [qB_big num h1]; decide), if_pos (by simpa using hlt)]
        rfl
    · rw [if_neg hlt, List.drop_of_length_le (by simp; omega), if_neg (by simp <;> omega)]
/-- big bytes stand for themselves -/
theorem big_skip (num : Bool) (s : ByteArray) (p : Nat) : ∀ k, (∀ j, j < k → p + j < s.size ∧ 128 ≤ (s.get! (p + j)).toNat) →
    ((s.data.toList.drop p).takeWhile (fun c => !qB num c)).length = k + ((s.data.toList.drop (p + k)).takeWhile (fun c => !qB num c)).length
  | 0, _ => by rw [Nat.zero_add]; rfl
  | k + 1, h => by
    have h1 := big_skip num s p k (fun j hj => h j (by omega))
    have h2 := h k (by omega)
    rw [h1, get_drop s (p + k) h2.1, List.takeWhile_cons_of_pos (by rw [qB_big num h2.2]; rfl), List.length_cons]
    have e : p + k + 1 = p + (k + 1) := by omega
    rw [e]
    omega
/-- the first point that does not -/
theorem idx_yes (num : Bool) (s : ByteArray) : ∀ (f p : Nat), s.size ≤ p + f → p ≤ s.size → Lib.idxFuncFrom (yqR num) true s f p =
    if p + ((s.data.toList.drop p).takeWhile (fun c => !qB num c)).length < s.size then ((p + ((s.data.toList.drop p).takeWhile (fun c => !qB num c)).length : Nat) : Int) else -1
  | 0, p, h, hp => by
    rw [List.drop_of_length_le (by simp; omega)]
    rw [if_neg (by simp <;> omega)]
    rfl
  | f + 1, p, h, hp => by
    rw [Lib.idxFuncFrom]
    by_cases hlt : p < s.size
    · rw [if_pos hlt]
      have hgp : s.get! p = s[p] := by
        show s.data[p]! = _
        rw [getElem!_pos s.data p (by simpa using hlt)]
        rfl
      rcases dec_kind s p hlt with ⟨h1, h2⟩ | ⟨h1, h2, h3, h4⟩
      · rw [h2]
        dsimp only
        rw [get_drop s p hlt, hgp, yq_small]
        by_cases hq : qB num s[p] = true
        · rw [hq, if_pos rfl, List.takeWhile_cons_of_neg (by rw [hq]; decide), if_pos (by simpa using hlt)]
          rfl
        · rw [Bool.not_eq_true] at hq
          rw [hq, if_neg (by decide), idx_yes num s f (p + 1) (by omega) (by omega), List.takeWhile_cons_of_pos (by rw [hq]; rfl), List.length_cons]
          generalize ((s.data.toList.drop (p + 1)).takeWhile (fun c => !qB num c)).length = L
          rw [show p + (L + 1) = p + 1 + L by omega]
      · have hk := big_skip num s p (Utf8.decode s p).2 h4
        obtain ⟨k, hkk⟩ : ∃ k, (Utf8.decode s p).2 = k := ⟨_, rfl⟩
        rw [hkk] at hk h3 h4 ⊢
        have hps : p + k ≤ s.size := by
          have := (h4 (k - 1) (by omega)).1
          omega
        rw [yq_big num h2, if_neg (by decide), idx_yes num s f (p + k) (by omega) hps, hk]
        rw [show ∀ j, p + (k + j) = p + k + j from fun j => by omega]
    · rw [if_neg hlt, List.drop_of_length_le (by simp; omega), if_neg (by simp <;> omega)]
theorem idx_no_all (num : Bool) (s : ByteArray) : Lib.idxFunc (nqR num) true s = if (s.data.toList.takeWhile (qB num)).length < s.size then (((s.data.toList.takeWhile (qB num)).length : Nat) : Int) else -1 := by
  unfold Lib.idxFunc
  rw [idx_no num s s.size 0 (by omega) (Nat.zero_le _), List.drop_zero, Nat.zero_add]
theorem idx_yes_all (num : Bool) (s : ByteArray) : Lib.idxFunc (yqR num) true s = if (s.data.toList.takeWhile (fun c => !qB num c)).length < s.size then (((s.data.toList.takeWhile (fun c => !qB num c)).length : Nat) : Int) else -1 := by
  unfold Lib.idxFunc
  rw [idx_yes num s s.size 0 (by omega) (Nat.zero_le _), List.drop_zero, Nat.zero_add]

theorem dropWhile_nil {p : UInt8 → Bool} : ∀ {l : Wd}, l.dropWhile p = [] ↔ ∀ x ∈ l, p x = true
  | [] => by simp
  | a :: t => by
    by_cases h : p a = true
    · rw [List.dropWhile_cons_of_pos h, dropWhile_nil]
      simp [h]
    · rw [List.dropWhile_cons_of_neg h]
      simp [h]
/-- what is left of a text without the apostrophes around it -/
theorem trim_nil (a : Wd) : Lib.trimB a 39 ≠ [] ↔ (a.any fun c => c != 39) = true := by
  have h0 : Lib.trimB a 39 = [] ↔ ∀ c ∈ a, c = 39 := by
    unfold Lib.trimB Lib.trimLeftB Lib.trimRightB
    rw [dropWhile_nil]
    constructor
    · intro h c hc
      by_cases hm : c ∈ (a.reverse.dropWhile (· == 39)).reverse
      · simpa using h c hm
      · rw [List.mem_reverse] at hm
        have h1 := List.takeWhile_append_dropWhile (p := fun x : UInt8 => x == 39) (l := a.reverse)
        have h2 : c ∈ a.reverse := List.mem_reverse.2 hc
        rw [← h1, List.mem_append] at h2
        rcases h2 with h2 | h2
        · have := List.all_takeWhile (l := a.reverse) (p := fun x : UInt8 => x == 39)
          rw [List.all_eq_true] at this
          simpa using this c h2
        · exact absurd h2 hm
    · intro h c hc
      rw [List.mem_reverse] at hc
      have : c ∈ a.reverse := (List.dropWhile_suffix _).subset hc
      simpa using h c (List.mem_reverse.1 this)
  rw [ne_eq, h0, List.any_eq_true]
  constructor
  · intro h
    apply Classical.byContradiction
    intro hc
    apply h
    intro c hm
    apply Classical.byContradiction
    intro h2
    exact hc ⟨c, hm, by simpa using h2⟩
  · rintro ⟨c, hm, h2⟩ h
    have := h c hm
    subst this
    simp at h2

theorem index_hd (t : Wd) : Lib.index (39 :: t) [39] = 0 := by
  unfold Lib.index
  rw [if_pos (by simp)]
theorem index_tl {c : UInt8} (h : c ≠ 39) (t : Wd) : Lib.index (c :: t) [39] = if Lib.index t [39] == -1 then -1 else Lib.index t [39] + 1 := by
  conv => lhs; unfold Lib.index
  rw [if_neg (by simp; exact fun e => h e.symm)]
/-- apostrophes twice, while some are left -/
theorem replace_dbl : ∀ (n : Nat) (a : Wd), a.length ≤ n → ∀ k, a.count 39 ≤ k → Lib.replaceK [39] [39, 39] k a = dblL a
  | 0, a, h, k, hk => by
    have : a = [] := List.eq_nil_of_length_eq_zero (by omega)
    subst this
    cases k with
    | zero => rfl
    | succ k => rfl
  | n + 1, [], _, k, _ => by
    cases k with
    | zero => rfl
    | succ k => rfl
  | n + 1, c :: t, h, k, hk => by
    have hl : t.length ≤ n := by simpa using h
    by_cases hc : c = 39
    · subst hc
      rw [List.count_cons_self] at hk
      cases k with
      | zero => omega
      | succ k =>
        rw [Lib.replaceK_hit [39] [39, 39] k (39 :: t) 0 (index_hd t)]
        show [] ++ [39, 39] ++ Lib.replaceK [39] [39, 39] k t = _
        rw [replace_dbl n t hl k (by omega)]
        unfold dblL
        rw [List.flatMap_cons, if_pos rfl]
        rfl
    · rw [List.count_cons_of_ne (by simpa using fun e => hc e)] at hk
      have ih := fun k hk => replace_dbl n t hl k hk
      have hd : dblL (c :: t) = c :: dblL t := by
        unfold dblL
        rw [List.flatMap_cons, if_neg hc]
        rfl
      rw [hd, ← ih k hk]
      cases k with
      | zero => rfl
      | succ k =>
        by_cases hm : Lib.index t [39] = -1
        · have h1 : Lib.index (c :: t) [39] = -1 := by rw [index_tl hc, hm]; rfl
          rw [Lib.replaceK, if_pos (by rw [h1]; rfl), Lib.replaceK, if_pos (by rw [hm]; rfl)]
        · obtain ⟨i, hi⟩ : ∃ i : Nat, Lib.index t [39] = i := ⟨(Lib.index t [39]).toNat, by have := Lib.index_ge t [39]; omega⟩
          have h1 : Lib.index (c :: t) [39] = ((i + 1 : Nat) : Int) := by
            rw [index_tl hc, hi, if_neg (by simp <;> omega)]
            rfl
          rw [Lib.replaceK_hit [39] [39, 39] k (c :: t) (i + 1) h1, Lib.replaceK_hit [39] [39, 39] k t i hi]
          simp
theorem countFrom_le : ∀ (f : Nat) (a : Wd), a.length < f → Lib.countFrom [39] f a = a.count 39
  | 0, a, h => absurd h (Nat.not_lt_zero _)
  | f + 1, [], h => by
    rw [Lib.countFrom]
    rfl
  | f + 1, c :: t, h => by
    have hl : t.length < f := by simpa using h
    have ih := countFrom_le f t hl
    rw [Lib.countFrom]
    by_cases hc : c = 39
    · subst hc
      rw [index_hd, if_neg (by decide), List.count_cons_self]
      show 1 + Lib.countFrom [39] f t = _
      omega
    · rw [List.count_cons_of_ne (by simpa using fun e => hc e), index_tl hc]
      by_cases hm : Lib.index t [39] = -1
      · have h0 : t.count 39 = 0 := by
          rw [← ih]
          cases f with
          | zero => omega
          | succ f => rw [Lib.countFrom, if_pos (by rw [hm]; rfl)]
        rw [hm, if_pos (by rfl), h0]
      · obtain ⟨i, hi⟩ : ∃ i : Nat, Lib.index t [39] = i := ⟨(Lib.index t [39]).toNat, by have := Lib.index_ge t [39]; omega⟩
        rw [hi]
        have e1 : (if ((i : Int) == -1) = true then (-1 : Int) else (i : Int) + 1) = ((i + 1 : Nat) : Int) := by
          rw [if_neg (by simp <;> omega)]
          rfl
        rw [e1, if_neg (by simp <;> omega)]
        have e2 : (((i + 1 : Nat) : Int)).toNat = i + 1 := by omega
        rw [e2]
        show 1 + Lib.countFrom [39] f (t.drop (i + 1)) = _
        cases f with
        | zero => omega
        | succ f =>
          rw [Lib.countFrom, hi, if_neg (by simp <;> omega)] at ih
          have e3 : ((i : Int)).toNat = i := by omega
          rw [e3] at ih
          have hroom := Lib.index_room t [39] (by rw [hi]; omega)
          rw [hi] at hroom
          simp only [List.length_cons, List.length_nil] at hroom
          have ih2 := countFrom_le (f + 1) (t.drop (i + 1)) (by simp; omega)
          have ih3 := countFrom_le f (t.drop (i + 1)) (by simp; omega)
          rw [ih2]
          have e4 : (t.drop (i + [(39 : UInt8)].length)) = t.drop (i + 1) := rfl
          rw [e4, ih3] at ih
          exact ih
theorem count_39 (a : Wd) : Lib.count a [39] = a.count 39 := countFrom_le _ a (Nat.lt_succ_self _)
theorem replace_all (a : Wd) : Lib.replaceAll a [39] [39, 39] = dblL a := by
  unfold Lib.replaceAll Lib.replace Lib.replaceNum
  rw [if_neg (by decide), if_pos (.inl (by decide)), count_39]
  exact replace_dbl _ a (Nat.le_refl _) _ (Nat.le_refl _)

/-- digits without a nought ahead are what their value is written as -/
theorem dec_val : ∀ (n : Nat) (o : Wd), o.length = n → o ≠ [] → (∀ c ∈ o, 48 ≤ c.toNat ∧ c.toNat ≤ 57) → (o.length = 1 ∨ o.headD 0 ≠ 48) → Lib.decDigits (offV o) = o ∧ (o.headD 0 ≠ 48 → 0 < offV o) := by
  intro n
  induction n with
  | zero => intro o h h0; exact absurd (List.eq_nil_of_length_eq_zero h) h0
  | succ n ih =>
    intro o h h0 hd hz
    obtain ⟨t, c, rfl⟩ : ∃ t c, o = t ++ [c] := ⟨o.dropLast, o.getLast h0, by rw [List.dropLast_concat_getLast]⟩
    have hc := hd c (by simp)
    have hl : t.length = n := by simpa using h
    have hv : offV (t ++ [c]) = 10 * offV t + (c.toNat - 48) := by unfold offV; rw [List.foldl_append]; rfl
    have hofs : UInt8.ofNat (48 + (c.toNat - 48)) = c := by
      apply UInt8.toNat_inj.1
      rw [UInt8.toNat_ofNat', Nat.mod_eq_of_lt (by omega)]
      omega
    by_cases ht : t = []
    · subst ht
      have hv0 : offV ([] ++ [c]) = c.toNat - 48 := by rw [hv]; show 10 * 0 + _ = _; omega
      rw [hv0, Lib.decDigits, dif_pos (by omega), hofs]
      refine ⟨rfl, fun hne => ?_⟩
      have hne : c ≠ 48 := hne
      have : c.toNat ≠ 48 := fun e => hne (UInt8.toNat_inj.1 e)
      omega
    · have hhd : (t ++ [c]).headD 0 = t.headD 0 := by
        cases t with
        | nil => exact absurd rfl ht
        | cons x r => rfl
      have hn48 : t.headD 0 ≠ 48 := by
        rcases hz with q | q
        · have := List.length_pos_iff.2 ht
          rw [List.length_append, List.length_singleton] at q
          omega
        · rw [hhd] at q; exact q
      obtain ⟨i1, i2⟩ := ih t hl ht (fun x hx => hd x (by simp [hx])) (.inr hn48)
      have hp := i2 hn48
      rw [hv, Lib.decDigits, dif_neg (by omega), show (10 * offV t + (c.toNat - 48)) / 10 = offV t by omega, show (10 * offV t + (c.toNat - 48)) % 10 = c.toNat - 48 by omega, i1, hofs]
      exact ⟨rfl, fun _ => by omega⟩
end Go.Proofs.YtdelpialeajajaaGreatDoor
