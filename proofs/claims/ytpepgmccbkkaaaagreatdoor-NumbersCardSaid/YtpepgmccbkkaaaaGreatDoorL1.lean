/- The plain law of numbers: what the program writes is what the document writes. -/
import Derived.Test.YtpepgmccbkkaaaaGreatDoorP9
import Derived.Test.YtpepgmccbkkaaaaGreatDoorR5
namespace Go.Proofs.YtpepgmccbkkaaaaGreatDoor
open Go Go.RowKit
set_option maxRecDepth 10000

theorem enc_rune (r : Int) (h : isPt r = true) : enc r = Lib.encodeRune r := by
  have h1 : (0 ≤ r ∧ r ≤ 1114111) ∧ (r < 55296 ∨ 57343 < r) := by unfold isPt at h; simp at h; omega
  obtain ⟨⟨ha, hb⟩, hc⟩ := h1
  obtain ⟨n, rfl⟩ : ∃ n : Nat, r = n := ⟨r.toNat, by omega⟩
  have hv : Utf8.valid (n : Int) = true := by unfold Utf8.valid; simp; omega
  have t : ∀ x : Int, ∀ k : Nat, x = (k : Int) → x.toNat.toUInt8 = UInt8.ofNat k := fun x k h => by rw [h]; rfl
  unfold enc Utf8.encode Lib.encodeRune
  simp only [hv, if_true, Int.toNat_natCast]
  by_cases c1 : n < 128
  · rw [if_pos (show n < 0x80 from c1), Lib.encodeRuneZ_one (by omega) (by omega)]
    simp only [List.map_cons, List.map_nil]
    rw [t _ n rfl]
  rw [if_neg (show ¬ n < 0x80 from c1)]
  by_cases c2 : n < 2048
  · rw [if_pos (show n < 0x800 from c2), Lib.encodeRuneZ_two (by omega) (by omega)]
    simp only [List.map_cons, List.map_nil]
    rw [t _ (192 + n / 64) (by omega), t _ (128 + n % 64) (by omega)]
  rw [if_neg (show ¬ n < 0x800 from c2)]
  by_cases c3 : n < 65536
  · rw [if_pos (show n < 0x10000 from c3), Lib.encodeRuneZ_three (by omega)]
    simp only [List.map_cons, List.map_nil]
    rw [t _ (224 + n / 4096) (by omega), t _ (128 + n / 64 % 64) (by omega), t _ (128 + n % 64) (by omega)]
  · rw [if_neg (show ¬ n < 0x10000 from c3), Lib.encodeRuneZ_four (by omega) (by omega)]
    simp only [List.map_cons, List.map_nil]
    rw [t _ (240 + n / 262144) (by omega), t _ (128 + n / 4096 % 64) (by omega), t _ (128 + n / 64 % 64) (by omega), t _ (128 + n % 64) (by omega)]

theorem decN_le (l : List UInt8) : (decN l).1 ≤ 1114111 := by
  have hb := (l.getD 0 0).toNat_lt
  unfold decN Lib.decodeN
  repeat' split
  all_goals (simp only []; omega)

theorem runesL_i32 : ∀ (n : Nat) (l : List UInt8), l.length ≤ n → ∀ x ∈ runesL l, I32 x
  | 0, l, h, x, hx => by
    have : l = [] := List.eq_nil_of_length_eq_zero (by omega)
    subst this
    rw [runesL_nil] at hx; cases hx
  | n + 1, l, h, x, hx => by
    by_cases hl : l = [] ∨ sizeL l = 0
    · rw [runesL, dif_pos hl] at hx; cases hx
    · simp only [not_or] at hl
      rw [runesL_step hl.1 hl.2] at hx
      have hp := List.length_pos_iff.2 hl.1
      rcases List.mem_cons.1 hx with rfl | hx
      · have := decN_le l
        exact ⟨by omega, by omega⟩
      · exact runesL_i32 n _ (by simp; omega) x hx

theorem flat_congr {f g : Nat → List UInt8} : ∀ (l : List Nat), (∀ i ∈ l, f i = g i) → l.flatMap f = l.flatMap g
  | [], _ => rfl
  | a :: l, h => by rw [List.flatMap_cons, List.flatMap_cons, h a (by simp), flat_congr l (fun i hi => h i (by simp [hi]))]

theorem range_head (f : Nat → List UInt8) (g : List UInt8) (n : Nat) (h : 0 < n) : (List.range n).flatMap (fun i => (if i = 0 then g else []) ++ f i) = g ++ (List.range n).flatMap f := by
  match n, h with
  | n + 1, _ =>
    rw [List.range_succ_eq_map, List.flatMap_cons, List.flatMap_cons, List.flatMap_map, List.flatMap_map]
    simp

theorem range_sh (sh : UInt8 → List UInt8) : ∀ w : List UInt8, (List.range w.length).flatMap (fun i => sh (w.getD i 0)) = w.flatMap sh
  | [] => rfl
  | c :: t => by
    rw [List.length_cons, List.range_succ_eq_map, List.flatMap_cons, List.flatMap_map, List.flatMap_cons, ← range_sh sh t]
    rfl

/-- does a group end where so many digits are left? -/
def endB (m nx left : Nat) : Bool := decide (m ≤ left) && (left - m) % nx == 0

theorem endB_back (m nx left : Nat) (h0 : 0 < left) (hn : 0 < nx) : endB m nx (left + m) = endB nx nx left := by
  unfold endB
  rw [Nat.add_sub_cancel]
  by_cases h : nx ≤ left
  · obtain ⟨k, rfl⟩ : ∃ k, left = k + nx := ⟨left - nx, by omega⟩
    simp
  · rw [Nat.mod_eq_of_lt (by omega)]
    have : (left == 0) = false := by simp; omega
    simp [h, this]

theorem grp_eq (sh : UInt8 → List UInt8) (pts : List (List UInt8)) (g : List UInt8) (nx : Nat) (hnx : 0 < nx) (hsh : ∀ w : List UInt8, w.all isDig = true → shownL pts w = w.flatMap sh) :
    ∀ (n : Nat) (w : List UInt8) (m : Nat), w.length ≤ n → 0 < m → w.all isDig = true →
      (List.range w.length).flatMap (fun i => (if 0 < i && endB m nx (w.length - i) then g else []) ++ sh (w.getD i 0)) = grpL pts g nx w m
  | 0, w, m, hn, hm, hd => by
    have : w = [] := List.eq_nil_of_length_eq_zero (by omega)
    subst this
    rw [grpL_end (by simp), hsh _ hd]
    rfl
  | n + 1, w, m, hn, hm, hd => by
    by_cases h : m < w.length
    · have e1 : w = w.take (w.length - m) ++ w.drop (w.length - m) := (List.take_append_drop _ _).symm
      have hA : (w.take (w.length - m)).length = w.length - m := by simp
      have hB : (w.drop (w.length - m)).length = m := by simp; omega
      have dA : (w.take (w.length - m)).all isDig = true := by rw [e1, List.all_append, Bool.and_eq_true] at hd; exact hd.1
      have dB : (w.drop (w.length - m)).all isDig = true := by rw [e1, List.all_append, Bool.and_eq_true] at hd; exact hd.2
      rw [grpL_step ⟨hm, h⟩, ← grp_eq sh pts g nx hnx hsh n _ nx (by omega) hnx dA, hsh _ dB, ← range_sh sh (w.drop _), hA, hB]
      have hlen : w.length = (w.length - m) + m := by omega
      generalize hp : w.length - m = p at *
      have hr : List.range w.length = List.range p ++ (List.range m).map (p + ·) := by rw [hlen, List.range_add]
      rw [hr, List.flatMap_append, List.flatMap_map, List.append_assoc, ← range_head _ g m hm]
      congr 1
      · refine flat_congr _ (fun i hi => ?_)
        have hi := List.mem_range.1 hi
        rw [show w.length - i = (p - i) + m by omega, endB_back m nx (p - i) (by omega) hnx]
        rw [show (w.take p).getD i 0 = w.getD i 0 from by simp [List.getD_eq_getElem?_getD, List.getElem?_take, hi]]
      · refine flat_congr _ (fun i hi => ?_)
        have hi := List.mem_range.1 hi
        rw [show (w.drop p).getD i 0 = w.getD (p + i) 0 from by simp [List.getD_eq_getElem?_getD, List.getElem?_drop]]
        congr 1
        by_cases h0 : i = 0
        · subst h0
          have : endB m nx (w.length - (p + 0)) = true := by
            rw [show w.length - (p + 0) = m by omega]
            simp [endB]
          rw [this, if_pos rfl, if_pos (by simp; omega)]
        · have : endB m nx (w.length - (p + i)) = false := by
            simp [endB]; intro; omega
          rw [this, if_neg h0, if_neg (by simp)]
    · rw [grpL_end (by omega), hsh _ hd, ← range_sh sh w]
      refine flat_congr _ (fun i hi => ?_)
      have hi := List.mem_range.1 hi
      by_cases h0 : 0 < i
      · have : endB m nx (w.length - i) = false := by simp [endB]; intro; omega
        rw [this]; simp
      · simp [h0]

theorem flat_none (sh : UInt8 → List UInt8) (pts : List (List UInt8)) (g : List UInt8) (nx : Nat) (hsh : ∀ w : List UInt8, w.all isDig = true → shownL pts w = w.flatMap sh) (w : List UInt8) (hd : w.all isDig = true) :
    (List.range w.length).flatMap (fun i => sh (w.getD i 0)) = grpL pts g nx w 0 := by
  rw [grpL_end (by simp), hsh _ hd, range_sh]

theorem partB_nat (gr : Int) (fi nx left : Nat) (h1 : ¬ gr = 0) (h2 : 0 < fi) : partB gr (fi : Int) (nx : Int) left = endB fi nx left := by
  have e1 : (gr != 0) = true := by simpa using h1
  unfold partB endB
  rw [e1]
  by_cases h : fi ≤ left
  · have e2 : ((left : Int) - (fi : Int)) = ((left - fi : Nat) : Int) := by omega
    have e3 : (((left - fi : Nat) : Int) % (nx : Int) == 0) = ((left - fi) % nx == 0) := by
      rw [Bool.eq_iff_iff, beq_iff_eq, beq_iff_eq]
      omega
    rw [e2, e3]
    simp [h2, h]
  · simp [h]

theorem ten_pts : (ptsL tenL).1 = tenL.map (fun c => [c]) := by
  have h := runes_enc 10 tenL (by decide)
  rw [← h]
  have e : runesL tenL = [48, 49, 50, 51, 52, 53, 54, 55, 56, 57] := by
    have s : ∀ (a : UInt8) (r : List UInt8) (k : Int), sizeL (a :: r) = 1 → ((decN (a :: r)).1 : Int) = k → runesL (a :: r) = k :: runesL r := by
      intro a r k h1 h2
      rw [runesL_step (by simp) (by omega), h2, h1]
      rfl
    unfold tenL
    rw [s _ _ 48 (by decide) (by decide), s _ _ 49 (by decide) (by decide), s _ _ 50 (by decide) (by decide), s _ _ 51 (by decide) (by decide), s _ _ 52 (by decide) (by decide),
      s _ _ 53 (by decide) (by decide), s _ _ 54 (by decide) (by decide), s _ _ 55 (by decide) (by decide), s _ _ 56 (by decide) (by decide), s _ _ 57 (by decide) (by decide), runesL_nil]
  rw [e]
  decide

/-- a digit as a locale has it -/
def shX (ds : List Int) (c : UInt8) : List UInt8 := Lib.encodeRune (ds.getD (c.toNat - 48) 0)

theorem getD_map {α β : Type} (f : α → β) (l : List α) (k : Nat) (d : α) (e : β) (h : k < l.length) : (l.map f).getD k e = f (l.getD k d) := by
  simp [List.getD_eq_getElem?_getD, h]

theorem dig_range (c : UInt8) (h : isDig c = true) : 48 ≤ c.toNat ∧ c.toNat ≤ 57 := by
  have := (isDig_iff c).1 h
  omega

/-- the digits of a locale, by its points -/
theorem shown_flat (dg : List UInt8) (h : dg = [] ∨ (ptsL dg).1.length = 10) (w : List UInt8) (hw : w.all isDig = true) : shownL (ptsL dg).1 w = w.flatMap (shX (runesL (digL dg))) := by
  by_cases hd : dg = []
  · subst hd
    rw [ptsL_nil]
    show w = _
    have e : ∀ c, isDig c = true → shX (runesL (digL [])) c = [c] := by
      intro c hc
      have hr := dig_range c hc
      unfold shX digL
      rw [if_pos rfl]
      have h1 := runes_enc 10 tenL (by decide)
      rw [ten_pts] at h1
      have hlen : (runesL tenL).length = 10 := by
        have := congrArg List.length h1
        simpa [tenL] using this
      rw [← getD_map Lib.encodeRune (runesL tenL) (c.toNat - 48) 0 [] (by omega), h1]
      obtain ⟨k, hk⟩ : ∃ k, k = c.toNat - 48 := ⟨_, rfl⟩
      have hc2 : c = UInt8.ofNat (48 + k) := by rw [hk, show 48 + (c.toNat - 48) = c.toNat by omega]; simp
      rw [← hk, hc2]
      have hk9 : k < 10 := by omega
      clear hc2 hk hr hc h1 hlen
      match k, hk9 with
      | 0, _ => rfl
      | 1, _ => rfl
      | 2, _ => rfl
      | 3, _ => rfl
      | 4, _ => rfl
      | 5, _ => rfl
      | 6, _ => rfl
      | 7, _ => rfl
      | 8, _ => rfl
      | 9, _ => rfl
    induction w with
    | nil => rfl
    | cons c t ih =>
      simp only [List.all_cons, Bool.and_eq_true] at hw
      rw [List.flatMap_cons, e c hw.1, ← ih hw.2]
      rfl
  · have hl : (ptsL dg).1.length = 10 := h.resolve_left hd
    have hne : (ptsL dg).1 ≠ [] := fun q => by rw [q] at hl; cases hl
    unfold shownL
    rw [if_neg hne]
    have h1 := runes_enc dg.length dg (Nat.le_refl _)
    have hlen : (runesL dg).length = 10 := by
      have := congrArg List.length h1
      simpa [hl] using this
    induction w with
    | nil => rfl
    | cons c t ih =>
      simp only [List.all_cons, Bool.and_eq_true] at hw
      have hr := dig_range c hw.1
      rw [List.flatMap_cons, List.flatMap_cons, ih hw.2]
      congr 1
      unfold shX digL
      rw [if_neg hd, ← getD_map Lib.encodeRune (runesL dg) (c.toNat - 48) 0 [] (by omega), h1]

theorem digX_vals (ds : List Int) (w : List UInt8) (i : Nat) (h : i < w.length) : digX ds (vals w) i = shX ds (w.getD i 0) := by
  unfold digX shX vals
  rw [getD_map (fun c : UInt8 => (c.toNat : Int) - 48) w i 0 0 h]
  congr 2
  omega

/-- what the program writes is what the document writes -/
theorem write_law (neg : Bool) (wh fr : List UInt8) (mi po gr : Int) (fi ne : Nat) (dg : List UInt8) (hd : dg = [] ∨ (ptsL dg).1.length = 10) (p1 : isPt mi = true) (p2 : isPt po = true) (p3 : isPt gr = true)
    (h1 : wh.all isDig = true) (h2 : fr.all isDig = true) :
    writeX neg (vals (wh ++ fr)) fr.length mi po gr fi (if ne = 0 then fi else ne) (runesL (digL dg)) = writtenL neg wh fr (ptsL dg).1 mi po gr fi ne := by
  obtain ⟨nx, hnx⟩ : ∃ nx, nx = if ne = 0 then fi else ne := ⟨_, rfl⟩
  have hl : (vals (wh ++ fr)).length - fr.length = wh.length := by simp [vals]
  have ht : (vals (wh ++ fr)).take wh.length = vals wh := by simp [vals]
  have hdr : (vals (wh ++ fr)).drop wh.length = vals fr := by simp [vals]
  unfold writeX writtenL
  rw [hl, ht, hdr, ← hnx, enc_rune mi p1, enc_rune po p2, enc_rune gr p3]
  have hsh := shown_flat dg hd
  generalize runesL (digL dg) = ds at *
  congr 1
  · congr 1
    unfold intX
    by_cases hg : gr = 0 ∨ fi = 0
    · have e : (if gr = 0 then 0 else fi) = 0 := by rcases hg with h | h <;> simp [h]
      rw [e, ← flat_none (shX ds) (ptsL dg).1 (Lib.encodeRune gr) nx hsh wh h1]
      refine flat_congr _ (fun i hi => ?_)
      have hi := List.mem_range.1 hi
      rw [digX_vals ds wh i hi]
      have : partB gr (fi : Int) (nx : Int) ((vals wh).length - i) = false := by
        unfold partB
        rcases hg with h | h <;> simp [h]
      rw [this]; simp
    · simp only [not_or] at hg
      rw [if_neg hg.1]
      have hfi : 0 < fi := by omega
      have hnx0 : 0 < nx := by rw [hnx]; split <;> omega
      rw [← grp_eq (shX ds) (ptsL dg).1 (Lib.encodeRune gr) nx hnx0 hsh wh.length wh fi (Nat.le_refl _) hfi h1]
      refine flat_congr _ (fun i hi => ?_)
      have hi := List.mem_range.1 hi
      rw [digX_vals ds wh i hi, partB_nat gr fi nx _ hg.1 hfi]
      simp [vals]
  · unfold fracX
    by_cases hf : fr = []
    · subst hf; simp
    · rw [if_neg hf, hsh fr h2, ← range_sh (shX ds) fr, ← range_head _ _ _ (List.length_pos_iff.2 hf)]
      refine flat_congr _ (fun i hi => ?_)
      have hi := List.mem_range.1 hi
      rw [digX_vals ds fr i hi]
      congr 1
      by_cases h0 : i = 0 <;> simp [h0]
end Go.Proofs.YtpepgmccbkkaaaaGreatDoor
